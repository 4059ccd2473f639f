/- Texts behind the row of BranchProofs, part 4: contracts of the functions it reaches, words that their walks use, and lemmas in plain Lean. -/
import Derived.Below
import Derived.Deep.Draws
import Derived.Deep.AppendLies
import Derived.Maps.AppendAt
import Derived.OwnWalk
import Derived.Laws.BytesArg
import Derived.Laws.MakeOwn
import Derived.Laws.OwnMore
import Derived.Deep.OwnRows
import Derived.Tactics
import Derived.Lib.ConvBytes
import Derived.Laws.Slices
import Derived.WalkKit
import Derived.KernelRfl
import Derived.RowKit3
import Derived.Deep.LoopGhost
import Derived.Deep.QuietTactic
import Derived.BigQuiet
import Derived.WideLaws
import Derived.Deep.DeepCutAuto
import Derived.Deep.CutBlock
import Derived.Deep.RegionHeld3
import Derived.Laws.Rows
import Derived.Lib.AppendStr
import Derived.ArgAppend
import Derived.Laws.IdiomCopy
import Derived.RowKit
import Derived.OrdersHeld
import Derived.Laws.BitsLemmas
import Derived.Laws.StructEq
import Derived.Test.YtpmadffgdfholaaProg
import Derived.WalkSpells
import Derived.Laws.EntriesVeiled
import Derived.MapKept
import Derived.Deep.DrawnRows
import Derived.Maps.RangeWalk
import Derived.Test.YtpmadffgdfholaaL1
import Derived.Test.YtpmadffgdfholaaL2
import Derived.Test.YtpmadffgdfholaaL3
namespace Go.Proofs.Ytpmadffgdfholaa.B
open Go.RowKit Go.Proofs.YtpmadffgdfholaaW.PrintWords Go.Proofs.YtpmadffgdfholaaW.PrintLast Go.Proofs.YtpmadffgdfholaaW.PrintMore
attribute [local go_sem] max2_int min2_int max_two min_two max_three min_three max_four min_four   -- for this text's walks alone
set_option linter.unusedVariables false
set_option linter.unusedSimpArgs false
mutual
def branch_Count.l0 : Nat → Int → List (List Int) → Int → Int → Int → List (S30) → Option (Int × Int)
  | 0, _, _, _, _, _, _ => none
  | k + 1, x0, x8, x25, x26, x119000, x119001 => if x26 < x25 then (if 0 ≤ (wrap64 (x0 - 1)) then (if (wrap64 (x0 - 1) : Int).toNat ≤ 35184372088832 then (if 0 ≤ x26 then (if x26 < (x8.length : Int) then (branch_Count.l0 k x0 (x8.set (x26 : Int).toNat (List.replicate (wrap64 (x0 - 1) : Int).toNat 0)) x25 (wrap64 (x26 + 1)) x119000 x119001) else (none)) else (none)) else (none)) else (none)) else (branch_Count.l1 k x8 x119001 (x119001.length : Int) 0)
def branch_Count.l1 : Nat → List (List Int) → List (S30) → Int → Int → Option (Int × Int)
  | 0, _, _, _, _ => none
  | k + 1, x8, x39, x40, x41 => if x41 < x40 then (if 0 ≤ x41 then (if x41 < (x39.length : Int) then (if ((rd_T30 x39 x41).f1) > 0 then (if 0 ≤ (wrap64 (((rd_T30 x39 x41).f1) - 1)) then (if (wrap64 (((rd_T30 x39 x41).f1) - 1)) < (x8.length : Int) then (if (wrap64 (((rd_T30 x39 x41).f1) - 1)) < ((rd_L12 x8 (wrap64 (((rd_T30 x39 x41).f1) - 1))).length : Int) then ((some (x8.set ((wrap64 (((rd_T30 x39 x41).f1) - 1)) : Int).toNat ((rd_L12 x8 (wrap64 (((rd_T30 x39 x41).f1) - 1))).set ((wrap64 (((rd_T30 x39 x41).f1) - 1)) : Int).toNat (wrap64 ((rd (rd_L12 x8 (wrap64 (((rd_T30 x39 x41).f1) - 1))) (wrap64 (((rd_T30 x39 x41).f1) - 1))) + 1))) : List (List Int))).bind fun y133 => (if ((rd_T30 x39 x41).f0) > 0 then (if 0 ≤ (wrap64 (((rd_T30 x39 x41).f0) - 1)) then (if (wrap64 (((rd_T30 x39 x41).f0) - 1)) < (x8.length : Int) then (if (wrap64 (((rd_T30 x39 x41).f1) - 1)) < ((rd_L12 y133 (wrap64 (((rd_T30 x39 x41).f0) - 1))).length : Int) then (branch_Count.l1 k (y133.set ((wrap64 (((rd_T30 x39 x41).f0) - 1)) : Int).toNat ((rd_L12 y133 (wrap64 (((rd_T30 x39 x41).f0) - 1))).set ((wrap64 (((rd_T30 x39 x41).f1) - 1)) : Int).toNat (wrap64 ((rd (rd_L12 y133 (wrap64 (((rd_T30 x39 x41).f0) - 1))) (wrap64 (((rd_T30 x39 x41).f1) - 1))) - 1)))) x39 x40 (wrap64 (x41 + 1))) else (none)) else (none)) else (none)) else (branch_Count.l1 k y133 x39 x40 (wrap64 (x41 + 1))))) else (none)) else (none)) else (none)) else (branch_Count.l1 k x8 x39 x40 (wrap64 (x41 + 1)))) else (none)) else (none)) else ((branch_determinant.f k x8).bind fun t126 => (some (t126, 0)))
end
def branch_Count.f (k : Nat) (a0 : Int) (l1 : List (S30)) : Option (Int × Int) := (branch_read.f a0 l1).bind fun t117 => (if t117 = 0 then (if 0 ≤ (wrap64 (a0 - 1)) then (if (wrap64 (a0 - 1) : Int).toNat ≤ 11728124029610 then ((some (List.replicate (wrap64 (a0 - 1) : Int).toNat [] : List (List Int))).bind fun y119 => (branch_Count.l0 k a0 y119 (y119.length : Int) 0 a0 l1)) else (none)) else (none)) else (some (0, t117)))
theorem branch_Count.mono_l : ∀ k, (∀ y0 y1 y2 y3 y4 y5, LeO (branch_Count.l0 k y0 y1 y2 y3 y4 y5) (branch_Count.l0 (k + 1) y0 y1 y2 y3 y4 y5)) ∧ (∀ y0 y1 y2 y3, LeO (branch_Count.l1 k y0 y1 y2 y3) (branch_Count.l1 (k + 1) y0 y1 y2 y3))
  | 0 => ⟨fun _ _ _ _ _ _ r h => by simp [branch_Count.l0] at h, fun _ _ _ _ r h => by simp [branch_Count.l1] at h⟩
  | k + 1 => by
    obtain ⟨ih0, ih1⟩ := branch_Count.mono_l k
    refine ⟨?_, ?_⟩
    · intro y0 y1 y2 y3 y4 y5
      unfold branch_Count.l0
      repeat' first
      | (with_reducible exact ih0 _ _ _ _ _ _)
      | (with_reducible exact ih1 _ _ _ _)
      | (with_reducible exact branch_determinant.mono _ _)
      | (with_reducible exact LeO.refl _)
      | (with_reducible exact LeO.none _)
      | (with_reducible refine LeO.ite ?_ ?_)
      | (with_reducible refine LeO.bind ?_ (fun _ => ?_))
      | exact ih0 _ _ _ _ _ _
      | exact ih1 _ _ _ _
      | exact branch_determinant.mono _ _
      | exact LeO.none _
      | refine LeO.ite ?_ ?_
      | refine LeO.bind ?_ (fun _ => ?_)
    · intro y0 y1 y2 y3
      unfold branch_Count.l1
      repeat' first
      | (with_reducible exact ih0 _ _ _ _ _ _)
      | (with_reducible exact ih1 _ _ _ _)
      | (with_reducible exact branch_determinant.mono _ _)
      | (with_reducible exact LeO.refl _)
      | (with_reducible exact LeO.none _)
      | (with_reducible refine LeO.ite ?_ ?_)
      | (with_reducible refine LeO.bind ?_ (fun _ => ?_))
      | exact ih0 _ _ _ _ _ _
      | exact ih1 _ _ _ _
      | exact branch_determinant.mono _ _
      | exact LeO.none _
      | refine LeO.ite ?_ ?_
      | refine LeO.bind ?_ (fun _ => ?_)
theorem branch_Count.mono : ∀ a0 a1 k, LeO (branch_Count.f k a0 a1) (branch_Count.f (k + 1) a0 a1) := by
  intro a0 a1 k
  obtain ⟨ih0, ih1⟩ := branch_Count.mono_l k
  unfold branch_Count.f
  repeat' first
      | (with_reducible exact ih0 _ _ _ _ _ _)
      | (with_reducible exact ih1 _ _ _ _)
      | (with_reducible exact branch_determinant.mono _ _)
      | (with_reducible exact LeO.refl _)
      | (with_reducible exact LeO.none _)
      | (with_reducible refine LeO.ite ?_ ?_)
      | (with_reducible refine LeO.bind ?_ (fun _ => ?_))
      | exact ih0 _ _ _ _ _ _
      | exact ih1 _ _ _ _
      | exact branch_determinant.mono _ _
      | exact LeO.none _
      | refine LeO.ite ?_ ?_
      | refine LeO.bind ?_ (fun _ => ?_)
def branch_Count.T14 : Bool × List (List Nat × List Nat) := (true, [([], []), ([], []), ([1], [1]), ([2], [2]), ([0, 3], [0, 3]), ([4], [4]), ([], []), ([6], [6]), ([7], [7]), ([5, 8], [5, 8]), ([9], [9]), ([10], [10]), ([5, 8, 0, 1, 2, 3, 4, 5, 6, 7, 8, 9, 10, 11], [5, 8]), ([12, 11, 0, 1, 2, 3, 4, 5, 6, 7, 8, 9, 10, 11], [11, 12])])
def branch_Count.B14 : List Nat := [0, 0, 2, 6, 15, 31, 0, 64, 192, 511, 1023, 2047, 4095, 8191]
theorem branch_Count.tab14 : rtab .any (opsOf Try.f18 14) = branch_Count.T14 := by kernel_rfl
theorem branch_Count.bits14 : waitsOk branch_Count.T14.2 branch_Count.B14 = true := by kernel_rfl
def branch_Count.T16 : Bool × List (List Nat × List Nat) := (true, [([], []), ([], []), ([1], [1]), ([2], [2]), ([0, 3], [0, 3]), ([4], [4]), ([], []), ([6], [6]), ([7], [7]), ([5, 8], [5, 8]), ([9], [9]), ([10], [10]), ([5, 8, 0, 1, 2, 3, 4, 5, 6, 7, 8, 9, 10, 11], [5, 8]), ([12, 11, 0, 1, 2, 3, 4, 5, 6, 7, 8, 9, 10, 11], [11, 12])])
def branch_Count.B16 : List Nat := [0, 0, 2, 6, 15, 31, 0, 64, 192, 511, 1023, 2047, 4095, 8191]
theorem branch_Count.tab16 : rtab .any (opsOf Try.f18 16) = branch_Count.T16 := by kernel_rfl
theorem branch_Count.bits16 : waitsOk branch_Count.T16.2 branch_Count.B16 = true := by kernel_rfl
set_option maxHeartbeats 8000000 in
set_option maxRecDepth 100000 in
theorem branch_Count.calls (k : Nat) (a0 : Int) (A1 : Option Addr) (c1 : Nat) (l1 : List (S30)) (r1 : Int) (r2 : Int) (w : World) (hr1 : Kd.C k30 w A1 l1.length l1) (hc1 : l1.length ≤ c1) (h : branch_Count.f k a0 l1 = some (r1, r2)) :
    Calls Try.prog 18 #[.int .i64 a0, .slice A1 l1.length c1] w fun e w' => e = .returned (.tuple #[.int .i64 r1, .int .i64 r2]) ∧ Below w.heap.size w w' := by
  have hu30 := Try.underlying30
  have HR1 := Aside0.mk hr1
  have HC1 := Aside0.mk hc1
  clear hr1 hc1
  have HB := Aside0.mk (Below.refl w.heap.size w)
  have H : ((branch_read.f a0 l1).bind fun t117 => (if t117 = 0 then (if 0 ≤ (wrap64 (a0 - 1)) then (if (wrap64 (a0 - 1) : Int).toNat ≤ 11728124029610 then ((some (List.replicate (wrap64 (a0 - 1) : Int).toNat [] : List (List Int))).bind fun y119 => (branch_Count.l0 k a0 y119 (y119.length : Int) 0 a0 l1)) else (none)) else (none)) else (some (0, t117)))) = some (r1, r2) := h
  clear h
  replace H := Option.bind_eq_some_iff.mp H
  obtain ⟨t117, A30, H⟩ := H
  replace H : (if t117 = 0 then (if 0 ≤ (wrap64 (a0 - 1)) then (if (wrap64 (a0 - 1) : Int).toNat ≤ 11728124029610 then ((some (List.replicate (wrap64 (a0 - 1) : Int).toNat [] : List (List Int))).bind fun y119 => (branch_Count.l0 k a0 y119 (y119.length : Int) 0 a0 l1)) else (none)) else (none)) else (some (0, t117))) = some (r1, r2) := H
  have A3 := Aside0.mk A30
  clear A30
  by_cases c4 : t117 = 0
  · rw [if_pos c4] at H
    have c4b0 : (t117 == 0) = true := beq_iff_eq.mpr c4
    have c4b1 : (t117 != 0) = false := bne_eq_false_iff_eq.mpr c4
    clear c4
    obtain ⟨ji5, hji5⟩ : ∃ j_ : Int, (wrap64 (a0 - 1)) = j_ := ⟨_, rfl⟩
    replace H : (if 0 ≤ (ji5) then (if (ji5 : Int).toNat ≤ 11728124029610 then ((some (List.replicate (ji5 : Int).toNat [] : List (List Int))).bind fun y119 => (branch_Count.l0 k a0 y119 (y119.length : Int) 0 a0 l1)) else (none)) else (none)) = some (r1, r2) := by first | (rw [hji5] at H; exact H) | (simp only [hji5] at H ⊢; exact H)
    (try rw [hji5] at A3)
    have hji5w : (IntKind.i64.wrap (a0 - 1)) = ji5 := (i64_w _).trans hji5
    by_cases c6 : 0 ≤ (ji5)
    · rw [if_pos c6] at H
      have c6b0 := eq_true c6
      have c6b1 : decide (0 ≤ (ji5)) = true := decide_eq_true c6
      clear c6
      by_cases c7 : (ji5 : Int).toNat ≤ 11728124029610
      · rw [if_pos c7] at H
        have c7b0 := eq_true c7
        have c7b1 : decide ((ji5 : Int).toNat ≤ 11728124029610) = true := decide_eq_true c7
        clear c7
        obtain ⟨y119, hy119⟩ : ∃ y_ : List (List Int), y_ = (List.replicate (ji5 : Int).toNat []) := ⟨_, rfl⟩
        replace H : (branch_Count.l0 k a0 y119 (y119.length : Int) 0 a0 l1) = some (r1, r2) := by first | (rw [hy119]; with_reducible exact H) | (have H2_ := (Option.bind_some _ _).symm.trans H; rw [hy119]; with_reducible exact H2_) | (have H2_ := (Option.bind_some _ _).symm.trans H; with_reducible exact H2_) | with_reducible exact H | (rw [hy119]; exact H) | exact H
        have Ny119 := Aside0.mk hy119
        clear hy119
        have H' := Aside0.mk H
        clear H
        go_enter Try.func18, Try.ntmps18
        go_wp2_with (first | (go_at_call 44; (with_reducible refine (branch_read.calls_ok a0 A1 c1 l1 t117 _ ?side1 ?side2 A3.out (by first | (with_reducible assumption) | assumption)).mono ?_); (case side1 => repeat (first | exact HR1.out | (with_reducible refine Kd.C_alloc ?_ _) | (with_reducible refine Kd.C_drewN ?_ _) | (with_reducible refine Kd.C_drew ?_))); (case side2 => exact HC1.out); rintro e w8 ⟨gb118, mr118, rfl, hg, hbox, hb⟩; have n0_ := Aside0.mk (below_step (by repeat (first | (with_reducible first | exact HB.out | apply below_alloc | apply pw_below_drewN | apply below_drew1) | exact HB.out)) hb); have n1_ := Aside0.mk (hbox); have n2_ := Aside0.mk ((Nat.le_trans (below_size (by repeat (first | (with_reducible first | exact HB.out | apply below_alloc | apply pw_below_drewN | apply below_drew1) | exact HB.out))) hg : w.heap.size ≤ gb118)); have n3_ := Aside0.mk ((Nat.le_trans (below_size (by repeat (first | (with_reducible first | exact HB.out | apply below_alloc | apply pw_below_drewN | apply below_drew1) | exact HB.out))) hg : w.heap.size ≤ gb118)); clear HB; have HB := n0_; have BK118 := n1_; have GW118 := n2_; have GE118 := n3_; clear n0_ n1_ n2_ n3_; clear hb hbox hg) | ((with_reducible refine gate_dst (N := 23) rfl ?_); refine Kd.S_make (Kd.slice 3 (Kd.int .i64)) _ 28 rfl (N := 23) rfl 27 _ _ rfl ji5 rfl rfl Try.underlying27 (.slice none 0 0) 24 info28 rfl (by decide) (by omega) [] (ok := fun _ => True) (okp := fun _ => True) ⟨_, rfl, Kd.R_nil _ _ _ _ _⟩ (fun _ hk => hk) trivial (of_decide_eq_true (by first | (with_reducible assumption) | assumption)) (Nat.le_trans (Nat.mul_le_mul_right _ (of_decide_eq_true (by first | (with_reducible assumption) | assumption) : ji5.toNat ≤ 11728124029610)) (by omega)) (Below.refl _ _) (Nat.le_refl _) ?_; intro v120 w9 ho10 hb hg_ hnew_; clear hg_ hnew_; (first | rw [← Ny119.out] at ho10 | (simp only [Int.reduceToNat] at ho10; rw [← Ny119.out] at ho10)); have n0_ := Aside0.mk (Kd.S_lower ho10 (below_size (by repeat (first | (with_reducible first | exact HB.out | apply below_alloc | apply pw_below_drewN | apply below_drew1 | refine below_set ?_ GE118.out) | exact HB.out)))); have n1_ := Aside0.mk (blk_below (g := gb118) (o := .cells #[.int .i64 a0, .slice A1 l1.length c1, .map mr118] 70 (0, 0)) (by (with_reducible repeat (first | refine blk_drewN ?_ _ | refine blk_drew ?_ | refine blk_alloc ?_ _)); exact BK118.out) hb); have n2_ := Aside0.mk (below_step (by repeat (first | (with_reducible first | exact HB.out | apply below_alloc | apply pw_below_drewN | apply below_drew1 | refine below_set ?_ GE118.out) | exact HB.out)) hb); clear BK118; clear HB; have HO121 := n0_; have BK118 := n1_; have HB := n2_; clear n0_ n1_ n2_; clear hb ho10; obtain ⟨Ao11, co11, eo11⟩ := Kd.S_slice HO121.out; subst eo11))
        go_loopg [26] k (fun kq v26 w' => ∃ (x8_1 : List (List Int)) (x26_1 : Int), v26 = .int .i64 x26_1 ∧ Aside0 (branch_Count.l0 kq a0 x8_1 (y119.length : Int) x26_1 a0 l1 = some (r1, r2)) ∧ Aside0 (kq ≤ k) ∧ Aside0 (Kd.S (Kd.slice 3 (Kd.int .i64)) 28 w' w.heap.size (fun _ => True) (.slice Ao11 y119.length co11) x8_1) ∧ Aside0 (w'.heap[gb118]? = some (.cells #[.int .i64 a0, (.slice A1 l1.length c1), .map mr118] 70 (0, 0))) ∧ Aside0 (Below w.heap.size w w'))
        case atStart => exact ⟨(y119), (0), (by first | rfl | (simp; done) | (simp [*]; done)), H', ⟨Nat.le_refl _⟩, ⟨by (with_reducible repeat (first | apply Kd.S_alloc | apply Kd.S_drewN | apply Kd.S_drew)); exact HO121.out⟩, ⟨by (with_reducible repeat (first | refine blk_drewN ?_ _ | refine blk_drew ?_ | refine blk_alloc ?_ _)); exact BK118.out⟩, ⟨by repeat (first | (with_reducible first | exact HB.out | apply below_alloc | apply pw_below_drewN | apply below_drew1 | refine below_set ?_ GE118.out) | exact HB.out)⟩⟩
        case round =>
          clear H'
          try clear c1
          try clear p2
          try clear c4
          try clear c4b0
          try clear c4b1
          try clear c6
          try clear c6b0
          try clear c6b1
          try clear p6
          try clear c7
          try clear c7b0
          try clear c7b1
          obtain ⟨x8_1, x26_1, rfl, HA, HK1, HO_8, BK118, HB⟩ := hrel
          have hl8_1 := (Kd.S_reads' HO_8.out).1
          rw [hl8_1] at HO_8
          (try simp only [hl8_1])
          (try simp only [hl8_1] at BK118)
          cases gk with
          | zero => exact absurd HA.out (by simp [branch_Count.l0])
          | succ k1 =>
            have H := HA.out
            clear HA
            simp only [branch_Count.l0] at H
            by_cases c12 : x26_1 < (y119.length : Int)
            · rw [if_pos c12] at H
              have c12b0 : decide (x26_1 < (y119.length : Int)) = true := decide_eq_true c12
              (try (have c12b0l := c12b0; simp only [hl8_1] at c12b0l))
              clear c12
              replace H : (if 0 ≤ (ji5) then (if (ji5 : Int).toNat ≤ 35184372088832 then (if 0 ≤ x26_1 then (if x26_1 < (x8_1.length : Int) then (branch_Count.l0 k1 a0 (x8_1.set (x26_1 : Int).toNat (List.replicate (ji5 : Int).toNat 0)) (y119.length : Int) (wrap64 (x26_1 + 1)) a0 l1) else (none)) else (none)) else (none)) else (none)) = some (r1, r2) := by first | (rw [hji5] at H; exact H) | (simp only [hji5] at H ⊢; exact H)
              by_cases c13 : 0 ≤ (ji5)
              · rw [if_pos c13] at H
                have c13b0 := eq_true c13
                have c13b1 : decide (0 ≤ (ji5)) = true := decide_eq_true c13
                clear c13
                by_cases c14 : (ji5 : Int).toNat ≤ 35184372088832
                · rw [if_pos c14] at H
                  have c14b0 := eq_true c14
                  have c14b1 : decide ((ji5 : Int).toNat ≤ 35184372088832) = true := decide_eq_true c14
                  clear c14
                  obtain ⟨y122, hy122⟩ : ∃ y_ : List Int, y_ = (List.replicate (ji5 : Int).toNat 0) := ⟨_, rfl⟩
                  replace H : (if 0 ≤ x26_1 then (if x26_1 < (x8_1.length : Int) then (branch_Count.l0 k1 a0 (x8_1.set (x26_1 : Int).toNat y122) (y119.length : Int) (wrap64 (x26_1 + 1)) a0 l1) else (none)) else (none)) = some (r1, r2) := by first | (rw [hy122]; with_reducible exact H) | (have H2_ := (Option.bind_some _ _).symm.trans H; rw [hy122]; with_reducible exact H2_) | (have H2_ := (Option.bind_some _ _).symm.trans H; with_reducible exact H2_) | with_reducible exact H | (rw [hy122]; exact H) | exact H
                  have Ny122 := Aside0.mk hy122
                  clear hy122
                  by_cases c15 : 0 ≤ x26_1
                  · rw [if_pos c15] at H
                    have c15b0 : decide (0 ≤ x26_1) = true := decide_eq_true c15
                    clear c15
                    by_cases c16 : x26_1 < (x8_1.length : Int)
                    · rw [if_pos c16] at H
                      have c16b0 : decide (x26_1 < (x8_1.length : Int)) = true := decide_eq_true c16
                      (try (have c16b0l := c16b0; simp only [hl8_1] at c16b0l))
                      clear c16
                      obtain ⟨y125, hy125⟩ : ∃ y_ : List (List Int), y_ = (x8_1.set (x26_1 : Int).toNat y122) := ⟨_, rfl⟩
                      replace H : (branch_Count.l0 k1 a0 y125 (y119.length : Int) (wrap64 (x26_1 + 1)) a0 l1) = some (r1, r2) := by first | (rw [hy125]; with_reducible exact H) | (have H2_ := (Option.bind_some _ _).symm.trans H; rw [hy125]; with_reducible exact H2_) | (have H2_ := (Option.bind_some _ _).symm.trans H; with_reducible exact H2_) | with_reducible exact H | (rw [hy125]; exact H) | exact H
                      have Ny125 := Aside0.mk hy125
                      clear hy125
                      have H' := Aside0.mk H
                      clear H
                      go_wp2_with (first | ((with_reducible refine gate_dst (N := 33) rfl ?_); refine Kd.R_make (Kd.int .i64) _ 3 rfl (N := 33) rfl 28 _ _ rfl ji5 rfl rfl Try.underlying28 (.int .i64 0) 8 info3 rfl (by decide) (by omega) 0 (ok := fun _ => True) (okp := fun _ => True) rfl (fun _ hk => hk) trivial (of_decide_eq_true (by first | (with_reducible assumption) | assumption)) (Nat.le_trans (Nat.mul_le_mul_right _ (of_decide_eq_true (by first | (with_reducible assumption) | assumption) : ji5.toNat ≤ 35184372088832)) (by omega)) (Below.refl _ _) (Nat.le_refl _) ?_; intro v123 w18 ho19 hb hg_ hnew_; clear hg_ hnew_; (first | rw [← Ny122.out] at ho19 | (simp only [Int.reduceToNat] at ho19; rw [← Ny122.out] at ho19)); have n0_ := Aside0.mk (Kd.S_elder' (by (with_reducible repeat (first | apply Kd.S_alloc | apply Kd.S_drewN | apply Kd.S_drew)); exact HO_8.out) (Kd.R_base ho19) hb); have n1_ := Aside0.mk (Kd.R_lower ho19 (below_size (by repeat (first | (with_reducible first | exact HB.out | apply below_alloc | apply pw_below_drewN | apply below_drew1 | refine below_set ?_ GE118.out) | exact HB.out)))); have n2_ := Aside0.mk (blk_below (g := gb118) (o := .cells #[.int .i64 a0, .slice A1 l1.length c1, .map mr118] 70 (0, 0)) (by (with_reducible repeat (first | refine blk_drewN ?_ _ | refine blk_drew ?_ | refine blk_alloc ?_ _)); exact BK118.out) hb); have n3_ := Aside0.mk (below_step (by repeat (first | (with_reducible first | exact HB.out | apply below_alloc | apply pw_below_drewN | apply below_drew1 | refine below_set ?_ GE118.out) | exact HB.out)) hb); clear HO_8; clear BK118; clear HB; have HO_8 := n0_; have HO124 := n1_; have BK118 := n2_; have HB := n3_; clear n0_ n1_ n2_ n3_; clear hb ho19; have p17 : 0 ≤ (x26_1 : Int) := of_decide_eq_true (by first | (with_reducible assumption) | assumption); have q17 : (x26_1 : Int) < ((x8_1.length : Int) : Int) := of_decide_eq_true (by first | (with_reducible assumption) | assumption); obtain ⟨go17, co17, eo17, gb17, gl17, cl17, HG17⟩ := Kd.S_form HO_8.out (by omega); (first | cases eo17 | (injection eo17 with ea_ en_ ec_; (first | subst ea_ | (injection ea_ with ea_; subst ea_)); subst ec_; clear en_)); have GB17 := Aside0.mk gb17; have GG17 := Aside0.mk HG17; clear gb17 gl17 HG17; obtain ⟨_, ce17, hcl17, hM17, hcc17, hfr17, _, _⟩ := Kd.S_elem HO_8.out [] (x26_1 : Int) p17 q17; obtain ⟨ve17_0, rfl, ge17_0⟩ := hM17; have hx17_0 := hcc17 0 _ rfl; have hf17_0 := hfr17 0; (try simp only [show ((Kd.slice 3 (Kd.int .i64))).sz = 1 from rfl, Nat.mul_one, Nat.add_zero] at hx17_0); (try simp only [show ((Kd.slice 3 (Kd.int .i64))).sz = 1 from rfl, Nat.mul_one, Nat.add_zero] at hf17_0); (try clear hcl17); (try clear hcc17); (try clear hfr17); (try clear hM17); replace p17 := eq_true p17; replace q17 := eq_true q17; have n_ := Aside0.mk (Kd.S_mono (ok' := (fun k_ => some k_ ≠ (v123 : Value).ownBlock)) HO_8.out (fun k_ hk => hk.2)); clear HO_8; have HO_8 := n_; clear n_; have HX20 := Aside0.mk (show Kd.S (Kd.slice 3 (Kd.int .i64)) 28 w18 w.heap.size (fun k_ => ((fun _ => True)) k_ ∧ ¬ ((fun k_ => some k_ = (v123 : Value).ownBlock)) k_) (.slice (some ⟨go17, 0, none⟩) x8_1.length co11) x8_1 from (by (with_reducible repeat (first | apply Kd.S_alloc | apply Kd.S_drewN | apply Kd.S_drew)); exact Kd.S_mono HO_8.out (fun k_ hk => ⟨trivial, fun e_ => hk e_⟩))); obtain ⟨oki20, ce20, hcl20, hM20, hcc20, hfr20, hoki20, hH20⟩ := Kd.S_elem HX20.out [] (x26_1 : Int) (of_decide_eq_true (by first | (with_reducible assumption) | assumption)) (by have h_ : (x26_1 : Int) < ((x8_1.length : Int) : Int) := of_decide_eq_true (by first | (with_reducible assumption) | assumption); first | exact h_ | (have e_ := (Kd.S_reads' HO_8.out).1; omega) | simpa using h_); obtain ⟨ve20_0, rfl, ge20_0⟩ := hM20; have HP20 := Kd.S_seg hH20 (of_decide_eq_true (by first | (with_reducible assumption) | assumption)) (by have h_ : (x26_1 : Int) < ((x8_1.length : Int) : Int) := of_decide_eq_true (by first | (with_reducible assumption) | assumption); first | exact h_ | (have e_ := (Kd.S_reads' HO_8.out).1; omega) | simpa using h_) (seg := [v123]) (j := 0) (show 1 ≤ 1 from by decide) (x' := y122) (Kd.M_row (Kd.R_mono (Kd.R_tight rfl (Kd.R_mono (ok' := fun k_ => ((fun _ => True)) k_ ∧ k_ ≠ go17) (Kd.R_apart' (HO124.out) (Kd.S_typed HO_8.out) (by decide)) (fun k_ hk => ⟨trivial, fun e_ => (hk.2) (by rw [e_]; rfl)⟩))) (fun _ h_ => Or.inr (h_)))) (fun _ hk => hk) (fun k_ hk_ => ((Kd.R_mono (ok' := fun k_ => ((fun _ => True)) k_ ∧ k_ ≠ go17) (Kd.R_apart' (HO124.out) (Kd.S_typed HO_8.out) (by decide)) (fun k_ hk => ⟨trivial, fun e_ => (hk.2) (by rw [e_]; rfl)⟩))).1 k_ hk_.symm); have hx20_0 := hcc20 0 _ rfl; (try simp only [show ((Kd.slice 3 (Kd.int .i64))).sz = 1 from rfl, Nat.mul_one, Nat.add_zero] at hx20_0); have hf20_0 := hfr20 0; (try simp only [show ((Kd.slice 3 (Kd.int .i64))).sz = 1 from rfl, Nat.mul_one, Nat.add_zero] at hf20_0); (try clear hcl20); (try clear hcc20); (try clear hfr20); (try clear hM20); (try clear hoki20); (try clear hH20); (try simp only [show ((Kd.slice 3 (Kd.int .i64))).sz = 1 from rfl, Nat.mul_one, Nat.add_zero] at HP20)) | ((with_reducible refine gate_store (t := 28) (p := 34) rfl ?_); refine store_event (t := 28) (p := 34) (v := ?vo_w21) (w1 := (w18.setCell ⟨go17, (x26_1 : Int).toNat, none⟩ (v123))) ?hg ?ho ?hn ?hr ?_; (case ho => rfl); (case hg => rfl); (case hn => rfl); (case hr => first | (go_simp; done) | (go_simp; rfl) | (obtain ⟨A_, c_, e_⟩ := Kd.R_slice HO124.out; rw [e_]; first | (go_simp; done) | (go_simp; rfl))); intro w21 hw; have hg : w18.grownBy w21 (some go17) := (by rw [hw]; exact HP20.2); have hp_ : Kd.S (Kd.slice 3 (Kd.int .i64)) 28 w21 w.heap.size (fun _ => True) (.slice (some ⟨go17, 0, none⟩) x8_1.length co11) y125 := (by rw [hw, Ny125.out]; exact HP20.1); clear HP20; have n0_ := Aside0.mk (hp_); have n1_ := Aside0.mk (blk_grown (g := gb118) (o := .cells #[.int .i64 a0, .slice A1 l1.length c1, .map mr118] 70 (0, 0)) (by (with_reducible repeat (first | refine blk_drewN ?_ _ | refine blk_drew ?_ | refine blk_alloc ?_ _)); exact BK118.out) hg (Kd.S_ne HO_8.out BK118.out (by decide))); have n2_ := Aside0.mk ((by rw [hw]; exact below_set (HB.out) GB17.out : Below w.heap.size w w21)); clear HO_8; clear BK118; clear HB; clear HO124; have HO_8 := n0_; have BK118 := n1_; have HB := n2_; clear n0_ n1_ n2_; clear hg hw hp_))
                      (try simp only [← hl8_1])
                      go_roundg k1
                      case measure => have := HK1.out; omega
                      case rel => exact ⟨(y125), (wrap64 (x26_1 + 1)), (by first | rfl | (simp; done) | (simp [*]; done)), H', ⟨by have := HK1.out; omega⟩, ⟨by (try simp only [hl8_1]); (with_reducible repeat (first | apply Kd.S_alloc | apply Kd.S_drewN | apply Kd.S_drew)); exact HO_8.out⟩, ⟨by (try simp only [hl8_1]); (with_reducible repeat (first | refine blk_drewN ?_ _ | refine blk_drew ?_ | refine blk_alloc ?_ _)); exact BK118.out⟩, ⟨by repeat (first | (with_reducible first | exact HB.out | apply below_alloc | apply pw_below_drewN | apply below_drew1 | refine below_set ?_ GE118.out) | exact HB.out)⟩⟩
                    · rw [if_neg c16] at H
                      exact absurd H (by simp)
                  · rw [if_neg c15] at H
                    exact absurd H (by simp)
                · rw [if_neg c14] at H
                  exact absurd H (by simp)
              · rw [if_neg c13] at H
                exact absurd H (by simp)
            · rw [if_neg c12] at H
              have c12b0 : decide (x26_1 < (y119.length : Int)) = false := decide_eq_false c12
              (try (have c12b0l := c12b0; simp only [hl8_1] at c12b0l))
              clear c12
              have H' := Aside0.mk H
              clear H
              have hcz22_0 : wr.cell? ⟨gb118, 0, none⟩ = some (.int .i64 a0) := (blk_cell BK118.out 0).trans rfl
              have hcz22_1 : wr.cell? ⟨gb118, 1, none⟩ = some (.slice A1 l1.length c1) := (blk_cell BK118.out 1).trans rfl
              have hcz22_2 : wr.cell? ⟨gb118, 2, none⟩ = some (.map mr118) := (blk_cell BK118.out 2).trans rfl
              have hfz22_0 := blk_frozen BK118.out 0
              have hfz22_1 := blk_frozen BK118.out 1
              have hfz22_2 := blk_frozen BK118.out 2
              go_wp2
              go_loopg [41] k1 (fun kq v41 w' => ∃ (x8_2 : List (List Int)) (x41_2 : Int), v41 = .int .i64 x41_2 ∧ Aside0 (branch_Count.l1 kq x8_2 l1 (l1.length : Int) x41_2 = some (r1, r2)) ∧ Aside0 (kq ≤ k1) ∧ Aside0 (Kd.S (Kd.slice 3 (Kd.int .i64)) 28 w' w.heap.size (fun _ => True) (.slice Ao11 x8_1.length co11) x8_2) ∧ Aside0 (w'.heap[gb118]? = some (.cells #[.int .i64 a0, (.slice A1 l1.length c1), .map mr118] 70 (0, 0))) ∧ Aside0 (Below w.heap.size w w'))
              case atStart => exact ⟨(x8_1), (0), (by first | rfl | (simp; done) | (simp [*]; done)), H', ⟨Nat.le_refl _⟩, ⟨by (try simp only [hl8_1]); (with_reducible repeat (first | apply Kd.S_alloc | apply Kd.S_drewN | apply Kd.S_drew)); exact HO_8.out⟩, ⟨by (try simp only [hl8_1]); (with_reducible repeat (first | refine blk_drewN ?_ _ | refine blk_drew ?_ | refine blk_alloc ?_ _)); exact BK118.out⟩, ⟨by repeat (first | (with_reducible first | exact HB.out | apply below_alloc | apply pw_below_drewN | apply below_drew1 | refine below_set ?_ GE118.out) | exact HB.out)⟩⟩
              case round =>
                clear H'
                try clear c1
                try clear p1
                try clear q1
                try clear hx1
                try clear c2
                try clear p2
                try clear hx2
                try clear hf2
                try clear c4
                try clear c4b0
                try clear c4b1
                try clear c6
                try clear c6b0
                try clear c6b1
                try clear p6
                try clear c7
                try clear c7b0
                try clear c7b1
                try clear c12
                try clear c12b0
                try clear c13
                try clear c13b0
                try clear c13b1
                try clear c14
                try clear c14b0
                try clear c14b1
                try clear c15
                try clear c15b0
                try clear c16
                try clear c16b0
                try clear c17
                try clear p17
                try clear q17
                try clear hx17
                try clear hf17
                try clear c18
                try clear c20
                try clear hx20
                try clear hf20
                try clear hcz22_0
                try clear hcz22_1
                try clear hcz22_2
                try clear hfz22_0
                try clear hfz22_1
                try clear hfz22_2
                try clear hx17_0
                try clear hx20_0
                try clear p17
                try clear p2
                try clear p6
                try clear q17
                obtain ⟨x8_2, x41_2, rfl, HA, HK2, HO_8, BK118, HB⟩ := hrel
                have hl8_2 := (Kd.S_reads' HO_8.out).1
                rw [hl8_2] at HO_8
                (try simp only [hl8_2])
                (try simp only [hl8_2] at BK118)
                cases gk with
                | zero => exact absurd HA.out (by simp [branch_Count.l1])
                | succ k2 =>
                  have H := HA.out
                  clear HA
                  simp only [branch_Count.l1] at H
                  by_cases c23 : x41_2 < (l1.length : Int)
                  · rw [if_pos c23] at H
                    have c23b0 : decide (x41_2 < (l1.length : Int)) = true := decide_eq_true c23
                    (try (have c23b0l := c23b0; simp only [hl8_1] at c23b0l))
                    (try (have c23b0l := c23b0; simp only [hl8_2] at c23b0l))
                    clear c23
                    by_cases c24 : 0 ≤ x41_2
                    · rw [if_pos c24] at H
                      have c24b0 : decide (0 ≤ x41_2) = true := decide_eq_true c24
                      clear c24
                      by_cases c25 : x41_2 < (l1.length : Int)
                      · rw [if_pos c25] at H
                        have c25b0 : decide (x41_2 < (l1.length : Int)) = true := decide_eq_true c25
                        (try (have c25b0l := c25b0; simp only [hl8_1] at c25b0l))
                        (try (have c25b0l := c25b0; simp only [hl8_2] at c25b0l))
                        clear c25
                        by_cases c26 : ((rd_T30 l1 x41_2).f1) > 0
                        · rw [if_pos c26] at H
                          have c26b0 : decide (0 < ((rd_T30 l1 x41_2).f1)) = true := decide_eq_true c26
                          clear c26
                          obtain ⟨ji27, hji27⟩ : ∃ j_ : Int, (wrap64 (((rd_T30 l1 x41_2).f1) - 1)) = j_ := ⟨_, rfl⟩
                          replace H : (if 0 ≤ (ji27) then (if (ji27) < (x8_2.length : Int) then (if (ji27) < ((rd_L12 x8_2 (ji27)).length : Int) then ((some (x8_2.set ((ji27) : Int).toNat ((rd_L12 x8_2 (ji27)).set ((ji27) : Int).toNat (wrap64 ((rd (rd_L12 x8_2 (ji27)) (ji27)) + 1))) : List (List Int))).bind fun y133 => (if ((rd_T30 l1 x41_2).f0) > 0 then (if 0 ≤ (wrap64 (((rd_T30 l1 x41_2).f0) - 1)) then (if (wrap64 (((rd_T30 l1 x41_2).f0) - 1)) < (x8_2.length : Int) then (if (ji27) < ((rd_L12 y133 (wrap64 (((rd_T30 l1 x41_2).f0) - 1))).length : Int) then (branch_Count.l1 k2 (y133.set ((wrap64 (((rd_T30 l1 x41_2).f0) - 1)) : Int).toNat ((rd_L12 y133 (wrap64 (((rd_T30 l1 x41_2).f0) - 1))).set ((ji27) : Int).toNat (wrap64 ((rd (rd_L12 y133 (wrap64 (((rd_T30 l1 x41_2).f0) - 1))) (ji27)) - 1)))) l1 (l1.length : Int) (wrap64 (x41_2 + 1))) else (none)) else (none)) else (none)) else (branch_Count.l1 k2 y133 l1 (l1.length : Int) (wrap64 (x41_2 + 1))))) else (none)) else (none)) else (none)) = some (r1, r2) := by first | (rw [hji27] at H; exact H) | (simp only [hji27] at H ⊢; exact H)
                          have hji27w : (IntKind.i64.wrap (((rd_T30 l1 x41_2).f1) - 1)) = ji27 := (i64_w _).trans hji27
                          by_cases c28 : 0 ≤ (ji27)
                          · rw [if_pos c28] at H
                            have c28b0 : decide (0 ≤ (ji27)) = true := decide_eq_true c28
                            clear c28
                            by_cases c29 : (ji27) < (x8_2.length : Int)
                            · rw [if_pos c29] at H
                              have c29b0 : decide ((ji27) < (x8_2.length : Int)) = true := decide_eq_true c29
                              (try (have c29b0l := c29b0; simp only [hl8_1] at c29b0l))
                              (try (have c29b0l := c29b0; simp only [hl8_2] at c29b0l))
                              clear c29
                              by_cases c30 : (ji27) < ((rd_L12 x8_2 (ji27)).length : Int)
                              · rw [if_pos c30] at H
                                have c30b0 : decide ((ji27) < ((rd_L12 x8_2 (ji27)).length : Int)) = true := decide_eq_true c30
                                (try (have c30b0l := c30b0; simp only [hl8_1] at c30b0l))
                                (try (have c30b0l := c30b0; simp only [hl8_2] at c30b0l))
                                clear c30
                                obtain ⟨y131, hy131⟩ : ∃ y_ : List Int, y_ = ((rd_L12 x8_2 (ji27)).set ((ji27) : Int).toNat (wrap64 ((rd (rd_L12 x8_2 (ji27)) (ji27)) + 1))) := ⟨_, rfl⟩
                                replace H : ((some (x8_2.set ((ji27) : Int).toNat y131 : List (List Int))).bind fun y133 => (if ((rd_T30 l1 x41_2).f0) > 0 then (if 0 ≤ (wrap64 (((rd_T30 l1 x41_2).f0) - 1)) then (if (wrap64 (((rd_T30 l1 x41_2).f0) - 1)) < (x8_2.length : Int) then (if (ji27) < ((rd_L12 y133 (wrap64 (((rd_T30 l1 x41_2).f0) - 1))).length : Int) then (branch_Count.l1 k2 (y133.set ((wrap64 (((rd_T30 l1 x41_2).f0) - 1)) : Int).toNat ((rd_L12 y133 (wrap64 (((rd_T30 l1 x41_2).f0) - 1))).set ((ji27) : Int).toNat (wrap64 ((rd (rd_L12 y133 (wrap64 (((rd_T30 l1 x41_2).f0) - 1))) (ji27)) - 1)))) l1 (l1.length : Int) (wrap64 (x41_2 + 1))) else (none)) else (none)) else (none)) else (branch_Count.l1 k2 y133 l1 (l1.length : Int) (wrap64 (x41_2 + 1))))) = some (r1, r2) := by first | (rw [hy131]; with_reducible exact H) | (have H2_ := (Option.bind_some _ _).symm.trans H; rw [hy131]; with_reducible exact H2_) | (have H2_ := (Option.bind_some _ _).symm.trans H; with_reducible exact H2_) | with_reducible exact H | (rw [hy131]; exact H) | exact H
                                have Ny131 := Aside0.mk hy131
                                clear hy131
                                obtain ⟨y133, hy133⟩ : ∃ y_ : List (List Int), y_ = (x8_2.set ((ji27) : Int).toNat y131) := ⟨_, rfl⟩
                                replace H : (if ((rd_T30 l1 x41_2).f0) > 0 then (if 0 ≤ (wrap64 (((rd_T30 l1 x41_2).f0) - 1)) then (if (wrap64 (((rd_T30 l1 x41_2).f0) - 1)) < (x8_2.length : Int) then (if (ji27) < ((rd_L12 y133 (wrap64 (((rd_T30 l1 x41_2).f0) - 1))).length : Int) then (branch_Count.l1 k2 (y133.set ((wrap64 (((rd_T30 l1 x41_2).f0) - 1)) : Int).toNat ((rd_L12 y133 (wrap64 (((rd_T30 l1 x41_2).f0) - 1))).set ((ji27) : Int).toNat (wrap64 ((rd (rd_L12 y133 (wrap64 (((rd_T30 l1 x41_2).f0) - 1))) (ji27)) - 1)))) l1 (l1.length : Int) (wrap64 (x41_2 + 1))) else (none)) else (none)) else (none)) else (branch_Count.l1 k2 y133 l1 (l1.length : Int) (wrap64 (x41_2 + 1)))) = some (r1, r2) := by first | (rw [hy133]; with_reducible exact H) | (have H2_ := (Option.bind_some _ _).symm.trans H; rw [hy133]; with_reducible exact H2_) | (have H2_ := (Option.bind_some _ _).symm.trans H; with_reducible exact H2_) | with_reducible exact H | (rw [hy133]; exact H) | exact H
                                have Ny133 := Aside0.mk hy133
                                clear hy133
                                by_cases c32 : ((rd_T30 l1 x41_2).f0) > 0
                                · rw [if_pos c32] at H
                                  have c32b0 : decide (0 < ((rd_T30 l1 x41_2).f0)) = true := decide_eq_true c32
                                  clear c32
                                  obtain ⟨ji33, hji33⟩ : ∃ j_ : Int, (wrap64 (((rd_T30 l1 x41_2).f0) - 1)) = j_ := ⟨_, rfl⟩
                                  replace H : (if 0 ≤ (ji33) then (if (ji33) < (x8_2.length : Int) then (if (ji27) < ((rd_L12 y133 (ji33)).length : Int) then (branch_Count.l1 k2 (y133.set ((ji33) : Int).toNat ((rd_L12 y133 (ji33)).set ((ji27) : Int).toNat (wrap64 ((rd (rd_L12 y133 (ji33)) (ji27)) - 1)))) l1 (l1.length : Int) (wrap64 (x41_2 + 1))) else (none)) else (none)) else (none)) = some (r1, r2) := by first | (rw [hji33] at H; exact H) | (simp only [hji33] at H ⊢; exact H)
                                  have hji33w : (IntKind.i64.wrap (((rd_T30 l1 x41_2).f0) - 1)) = ji33 := (i64_w _).trans hji33
                                  by_cases c34 : 0 ≤ (ji33)
                                  · rw [if_pos c34] at H
                                    have c34b0 : decide (0 ≤ (ji33)) = true := decide_eq_true c34
                                    clear c34
                                    by_cases c35 : (ji33) < (x8_2.length : Int)
                                    · rw [if_pos c35] at H
                                      have c35b0 : decide ((ji33) < (x8_2.length : Int)) = true := decide_eq_true c35
                                      (try (have c35b0l := c35b0; simp only [hl8_1] at c35b0l))
                                      (try (have c35b0l := c35b0; simp only [hl8_2] at c35b0l))
                                      clear c35
                                      by_cases c36 : (ji27) < ((rd_L12 y133 (ji33)).length : Int)
                                      · rw [if_pos c36] at H
                                        have c36b0 : decide ((ji27) < ((rd_L12 y133 (ji33)).length : Int)) = true := decide_eq_true c36
                                        (try (have c36b0l := c36b0; simp only [hl8_1] at c36b0l))
                                        (try (have c36b0l := c36b0; simp only [hl8_2] at c36b0l))
                                        clear c36
                                        obtain ⟨y136, hy136⟩ : ∃ y_ : List Int, y_ = ((rd_L12 y133 (ji33)).set ((ji27) : Int).toNat (wrap64 ((rd (rd_L12 y133 (ji33)) (ji27)) - 1))) := ⟨_, rfl⟩
                                        replace H : (branch_Count.l1 k2 (y133.set ((ji33) : Int).toNat y136) l1 (l1.length : Int) (wrap64 (x41_2 + 1))) = some (r1, r2) := by first | (rw [hy136]; with_reducible exact H) | (have H2_ := (Option.bind_some _ _).symm.trans H; rw [hy136]; with_reducible exact H2_) | (have H2_ := (Option.bind_some _ _).symm.trans H; with_reducible exact H2_) | with_reducible exact H | (rw [hy136]; exact H) | exact H
                                        have Ny136 := Aside0.mk hy136
                                        clear hy136
                                        obtain ⟨y138, hy138⟩ : ∃ y_ : List (List Int), y_ = (y133.set ((ji33) : Int).toNat y136) := ⟨_, rfl⟩
                                        replace H : (branch_Count.l1 k2 y138 l1 (l1.length : Int) (wrap64 (x41_2 + 1))) = some (r1, r2) := by first | (rw [hy138]; with_reducible exact H) | (have H2_ := (Option.bind_some _ _).symm.trans H; rw [hy138]; with_reducible exact H2_) | (have H2_ := (Option.bind_some _ _).symm.trans H; with_reducible exact H2_) | with_reducible exact H | (rw [hy138]; exact H) | exact H
                                        have Ny138 := Aside0.mk hy138
                                        clear hy138
                                        have H' := Aside0.mk H
                                        clear H
                                        have p127 : 0 ≤ (x41_2 : Int) := of_decide_eq_true (by first | (with_reducible assumption) | assumption)
                                        have q127 : x41_2 < (l1.length : Int) := of_decide_eq_true (by first | (with_reducible assumption) | assumption)
                                        obtain ⟨ad127, e127, hx127_0, hx127_1, hx127_2⟩ := at_T30 HR1.out x41_2 p127 q127
                                        cases e127
                                        replace hx127_0 := (HB.out.cell (World.block_lt_of_cell? w _ hx127_0)).trans hx127_0
                                        replace hx127_1 := (HB.out.cell (World.block_lt_of_cell? w _ hx127_1)).trans hx127_1
                                        replace hx127_2 := (HB.out.cell (World.block_lt_of_cell? w _ hx127_2)).trans hx127_2
                                        replace p127 := eq_true p127
                                        replace q127 := eq_true q127
                                        try go_wp2_with (first | ((with_reducible refine gate_dst (N := 11) rfl ?_); refine box_event ?hg (N := 11) ?hd (cs := #[.int .i64 0, .int .i64 0, .int .i64 0]) (t := 30) ?hr ?_; (case hd => rfl); (case hg => rfl); (case hr => first | (go_simp; done) | (go_simp; rfl)); intro gb128 hg w38 hbox hb; have n0_ := Aside0.mk (Kd.S_below (by (with_reducible repeat (first | apply Kd.S_alloc | apply Kd.S_drewN | apply Kd.S_drew)); exact HO_8.out) hb); have n1_ := Aside0.mk (blk_below (g := gb118) (o := .cells #[.int .i64 a0, .slice (some ad127) l1.length c1, .map mr118] 70 (0, 0)) (by (with_reducible repeat (first | refine blk_drewN ?_ _ | refine blk_drew ?_ | refine blk_alloc ?_ _)); exact BK118.out) hb); have n2_ := Aside0.mk (below_step (by repeat (first | (with_reducible first | exact HB.out | apply below_alloc | apply pw_below_drewN | apply below_drew1 | refine below_set ?_ GE118.out) | exact HB.out)) hb); have n3_ := Aside0.mk (hbox); have n4_ := Aside0.mk ((by rw [hg]; exact (below_size (by repeat (first | (with_reducible first | exact HB.out | apply below_alloc | apply pw_below_drewN | apply below_drew1 | refine below_set ?_ GE118.out) | exact HB.out))) : w.heap.size ≤ gb128)); have n5_ := Aside0.mk ((by rw [hg]; exact (below_size (by repeat (first | (with_reducible first | exact HB.out | apply below_alloc | apply pw_below_drewN | apply below_drew1 | refine below_set ?_ GE118.out) | exact HB.out))) : w.heap.size ≤ gb128)); have n6_ := Aside0.mk ((by rw [hg]; exact Nat.ne_of_lt (blk_lt (g := gb118) (o := .cells #[.int .i64 a0, .slice (some ad127) l1.length c1, .map mr118] 70 (0, 0)) (by (with_reducible repeat (first | refine blk_drewN ?_ _ | refine blk_drew ?_ | refine blk_alloc ?_ _)); exact BK118.out)) : gb118 ≠ gb128)); have n7_ := Aside0.mk ((by rw [hg]; exact Nat.ne_of_gt (blk_lt (g := gb118) (o := .cells #[.int .i64 a0, .slice (some ad127) l1.length c1, .map mr118] 70 (0, 0)) (by (with_reducible repeat (first | refine blk_drewN ?_ _ | refine blk_drew ?_ | refine blk_alloc ?_ _)); exact BK118.out)) : gb128 ≠ gb118)); clear HO_8; clear BK118; clear HB; have HO_8 := n0_; have BK118 := n1_; have HB := n2_; have BK128 := n3_; have GW128 := n4_; have GE128 := n5_; have NB118_128 := n6_; have NB128_118 := n7_; clear n0_ n1_ n2_ n3_ n4_ n5_ n6_ n7_; clear hb hbox hg; have hnb39 := NB128_118.out; have hnc39 := NB118_128.out; have hcz40_0 : w38.cell? ⟨gb128, 0, none⟩ = some (.int .i64 0) := (blk_cell BK128.out 0).trans rfl; have hcz40_1 : w38.cell? ⟨gb128, 1, none⟩ = some (.int .i64 0) := (blk_cell BK128.out 1).trans rfl; have hcz40_2 : w38.cell? ⟨gb128, 2, none⟩ = some (.int .i64 0) := (blk_cell BK128.out 2).trans rfl; have hfz40_0 := blk_frozen BK128.out 0; have hfz40_1 := blk_frozen BK128.out 1; have hfz40_2 := blk_frozen BK128.out 2))
                                        have n0_ : Aside0 (Kd.S (Kd.slice 3 (Kd.int .i64)) 28 (((w38.setCell ⟨gb128, 0, none⟩ (.int .i64 ((rd_T30 l1 x41_2).f0))).setCell ⟨gb128, 1, none⟩ (.int .i64 ((rd_T30 l1 x41_2).f1))).setCell ⟨gb128, 2, none⟩ (.int .i64 ((rd_T30 l1 x41_2).f2))) w.heap.size (fun _ => True) (.slice Ao11 x8_2.length co11) x8_2) := ⟨by (with_reducible repeat (first | apply Kd.S_alloc | apply Kd.S_drewN | apply Kd.S_drew)); exact Kd.S_mono (Kd.S_far (p := ⟨gb128, 2, none⟩) (Kd.S_far (p := ⟨gb128, 1, none⟩) (Kd.S_far (p := ⟨gb128, 0, none⟩) (Kd.S_types HO_8.out BK128.out (by decide)) (fun _ hk => hk.2) (.int .i64 ((rd_T30 l1 x41_2).f0))) (fun _ hk => hk.2) (.int .i64 ((rd_T30 l1 x41_2).f1))) (fun _ hk => hk.2) (.int .i64 ((rd_T30 l1 x41_2).f2))) (fun _ hk => trivial)⟩
                                        have n1_ : Aside0 ((((w38.setCell ⟨gb128, 0, none⟩ (.int .i64 ((rd_T30 l1 x41_2).f0))).setCell ⟨gb128, 1, none⟩ (.int .i64 ((rd_T30 l1 x41_2).f1))).setCell ⟨gb128, 2, none⟩ (.int .i64 ((rd_T30 l1 x41_2).f2))).heap[gb118]? = some (.cells #[.int .i64 a0, .slice (some ad127) l1.length c1, .map mr118] 70 (0, 0))) := ⟨by (with_reducible repeat (first | refine blk_drewN ?_ _ | refine blk_drew ?_ | refine blk_alloc ?_ _)); refine blk_far ?_ NB118_128.out _; (with_reducible repeat (first | refine blk_drewN ?_ _ | refine blk_drew ?_ | refine blk_alloc ?_ _)); refine blk_far ?_ NB118_128.out _; (with_reducible repeat (first | refine blk_drewN ?_ _ | refine blk_drew ?_ | refine blk_alloc ?_ _)); refine blk_far ?_ NB118_128.out _; (with_reducible repeat (first | refine blk_drewN ?_ _ | refine blk_drew ?_ | refine blk_alloc ?_ _)); exact BK118.out⟩
                                        have n2_ : Aside0 ((((w38.setCell ⟨gb128, 0, none⟩ (.int .i64 ((rd_T30 l1 x41_2).f0))).setCell ⟨gb128, 1, none⟩ (.int .i64 ((rd_T30 l1 x41_2).f1))).setCell ⟨gb128, 2, none⟩ (.int .i64 ((rd_T30 l1 x41_2).f2))).heap[gb128]? = some (.cells #[.int .i64 ((rd_T30 l1 x41_2).f0), .int .i64 ((rd_T30 l1 x41_2).f1), .int .i64 ((rd_T30 l1 x41_2).f2)] 30 (0, 0))) := ⟨by (with_reducible repeat (first | refine blk_drewN ?_ _ | refine blk_drew ?_ | refine blk_alloc ?_ _)); refine blk_put (cs := #[.int .i64 ((rd_T30 l1 x41_2).f0), .int .i64 ((rd_T30 l1 x41_2).f1), .int .i64 0]) ?_ 2 _ rfl; (with_reducible repeat (first | refine blk_drewN ?_ _ | refine blk_drew ?_ | refine blk_alloc ?_ _)); refine blk_put (cs := #[.int .i64 ((rd_T30 l1 x41_2).f0), .int .i64 0, .int .i64 0]) ?_ 1 _ rfl; (with_reducible repeat (first | refine blk_drewN ?_ _ | refine blk_drew ?_ | refine blk_alloc ?_ _)); refine blk_put (cs := #[.int .i64 0, .int .i64 0, .int .i64 0]) ?_ 0 _ rfl; (with_reducible repeat (first | refine blk_drewN ?_ _ | refine blk_drew ?_ | refine blk_alloc ?_ _)); exact BK128.out⟩
                                        have n3_ : Aside0 (Below w.heap.size w (((w38.setCell ⟨gb128, 0, none⟩ (.int .i64 ((rd_T30 l1 x41_2).f0))).setCell ⟨gb128, 1, none⟩ (.int .i64 ((rd_T30 l1 x41_2).f1))).setCell ⟨gb128, 2, none⟩ (.int .i64 ((rd_T30 l1 x41_2).f2)))) := ⟨by repeat (first | (with_reducible first | exact HB.out | apply below_alloc | apply pw_below_drewN | apply below_drew1 | refine below_set ?_ GE118.out | refine below_set ?_ GE128.out) | exact HB.out)⟩
                                        (try clear HO_8)
                                        (try clear BK118)
                                        (try clear BK128)
                                        (try clear HB)
                                        generalize (((w38.setCell ⟨gb128, 0, none⟩ (.int .i64 ((rd_T30 l1 x41_2).f0))).setCell ⟨gb128, 1, none⟩ (.int .i64 ((rd_T30 l1 x41_2).f1))).setCell ⟨gb128, 2, none⟩ (.int .i64 ((rd_T30 l1 x41_2).f2))) = w41 at n0_ n1_ n2_ n3_ ⊢
                                        have HO_8 := n0_
                                        have BK118 := n1_
                                        have BK128 := n2_
                                        have HB := n3_
                                        clear n0_ n1_ n2_ n3_
                                        have n0_ := Aside0.mk (Kd.S_drew HO_8.out)
                                        have n1_ := Aside0.mk (blk_drew BK118.out)
                                        have n2_ := Aside0.mk (blk_drew BK128.out)
                                        have n3_ := Aside0.mk (below_drew1 HB.out)
                                        clear HO_8
                                        clear BK118
                                        clear BK128
                                        clear HB
                                        have HO_8 := n0_
                                        have BK118 := n1_
                                        have BK128 := n2_
                                        have HB := n3_
                                        clear n0_ n1_ n2_ n3_
                                        have p129 : 0 ≤ ((ji27) : Int) := of_decide_eq_true (by first | (with_reducible assumption) | assumption)
                                        have q129 : (ji27) < (x8_2.length : Int) := of_decide_eq_true (by first | (with_reducible assumption) | assumption)
                                        obtain ⟨ad129, A129_0, c129_0, e129, hx129_0, hl129_0, hi129_0⟩ := at_L12 (Kd.S_reads' HO_8.out).2.2 (ji27) p129 q129
                                        cases e129
                                        obtain ⟨ce129, hce129, hMe129, hcc129⟩ := Kd.S_get HO_8.out [] (ji27) p129 (by first | exact q129 | exact of_decide_eq_true (by first | (with_reducible assumption) | assumption) | (have e_ := (Kd.S_reads' HO_8.out).1; omega))
                                        obtain ⟨ve129_0, rfl, ge129_0⟩ := hMe129
                                        have hv129_0 := hcc129 0 _ rfl
                                        rw [Nat.add_zero, show ((Kd.slice 3 (Kd.int .i64))).sz = 1 from rfl, Nat.mul_one] at hv129_0
                                        replace hv129_0 := Option.some.inj (hv129_0.symm.trans hx129_0)
                                        rw [hv129_0] at ge129_0
                                        have HL129_0 := Aside0.mk (show Kd.R (Kd.int .i64) 3 _ _ _ _ (rd_L12 x8_2 (ji27)) from ge129_0)
                                        clear hv129_0 ge129_0
                                        have HX129_0 := Aside0.mk hx129_0
                                        clear hcc129 hce129
                                        have HR129_0 := Aside0.mk hi129_0
                                        have HC129_0 := Aside0.mk hl129_0
                                        clear hi129_0 hl129_0
                                        replace p129 := eq_true p129
                                        replace q129 := eq_true q129
                                        have p130 : 0 ≤ ((ji27) : Int) := of_decide_eq_true (by first | (with_reducible assumption) | assumption)
                                        have q130 : (ji27) < ((rd_L12 x8_2 (ji27)).length : Int) := of_decide_eq_true (by first | (with_reducible assumption) | assumption)
                                        obtain ⟨ad130, e130, hx130_0⟩ := Kd.at_int (by repeat (first | (with_reducible exact HR129_0.out) | (with_reducible refine Kd.C_alloc ?_ _) | (with_reducible refine Kd.C_drewN ?_ _) | (with_reducible refine Kd.C_drew ?_) | exact HR129_0.out)) (ji27) p130 q130
                                        cases e130
                                        replace p130 := eq_true p130
                                        replace q130 := eq_true q130
                                        have p31 : 0 ≤ ((ji27) : Int) := of_decide_eq_true (by first | (with_reducible assumption) | assumption)
                                        have q31 : ((ji27) : Int) < (((rd_L12 x8_2 (ji27)).length : Int) : Int) := of_decide_eq_true (by first | (with_reducible assumption) | assumption)
                                        obtain ⟨go31, co31, eo31, gb31, gl31, cl31, HG31⟩ := Kd.R_form HL129_0.out (by omega)
                                        (first | cases eo31 | (injection eo31 with ea_ en_ ec_; (first | subst ea_ | (injection ea_ with ea_; subst ea_)); subst ec_; clear en_))
                                        have GB31 := Aside0.mk gb31
                                        have GG31 := Aside0.mk HG31
                                        clear gb31 gl31 HG31
                                        (first | simp only [add_plain] at hx130_0 | skip)
                                        obtain ⟨hx31_0, hf31_0⟩ := Kd.R_celln 0 HL129_0.out ((ji27) : Int) p31 q31
                                        replace p31 := eq_true p31
                                        replace q31 := eq_true q31
                                        have hq43 : ((ji27) : Int) < (x8_2.length : Int) := (by have h_ : ((ji27) : Int) < ((x8_2.length : Int) : Int) := of_decide_eq_true (by first | (with_reducible assumption) | assumption); first | exact h_ | (have e_ := (Kd.S_reads' HO_8.out).1; omega) | simpa only [List.length_set, List.length_set] using h_)
                                        obtain ⟨oki43, ce43, hcl43, hM43, hcc43, hok43, hbk43⟩ := Kd.S_borrow HO_8.out [] ((ji27) : Int) (of_decide_eq_true (by first | (with_reducible assumption) | assumption)) (by first | exact hq43 | (have h_ := hq43; simpa only [List.length_set, List.length_set] using h_))
                                        obtain ⟨ve43_0, rfl, ge43_0⟩ := hM43
                                        have hv43 := hcc43 0 _ rfl
                                        rw [Nat.add_zero, show ((Kd.slice 3 (Kd.int .i64))).sz = 1 from rfl, Nat.mul_one] at hv43
                                        replace hv43 := Option.some.inj (hv43.symm.trans HX129_0.out)
                                        subst hv43
                                        clear hcc43 hcl43
                                        replace ge43_0 := (show Kd.R (Kd.int .i64) 3 _ _ _ _ (rd_L12 x8_2 (ji27)) from ge43_0)
                                        have HP43 := Kd.R_putg ge43_0 ((ji27) : Int) (wrap64 ((rd (rd_L12 x8_2 (ji27)) (ji27)) + 1))
                                        rw [← Ny131.out] at HP43
                                        have HS43 := hbk43 HP43.2 (fun k_ e_ => by injection e_ with e_; subst e_; exact ge43_0.1 _ rfl) (x' := y131) (Kd.M_row HP43.1)
                                        rw [← Ny133.out] at HS43
                                        have HQ43 := Aside0.mk HS43
                                        clear HP43 HS43 hbk43 hok43
                                        refine start_ (n := 14) (S := fun w' => w'.cell? ⟨gb128, 0, none⟩ = some (.int .i64 ((rd_T30 l1 x41_2).f0)) ∧ w'.cell? ⟨gb128, 1, none⟩ = some (.int .i64 ((rd_T30 l1 x41_2).f1)) ∧ w'.cell? ⟨gb128, 2, none⟩ = some (.int .i64 ((rd_T30 l1 x41_2).f2)) ∧ w'.cell? (ad129.add ((ji27)).toNat) = some (.slice (some ⟨go31, 0, none⟩) (rd_L12 x8_2 (ji27)).length c129_0) ∧ w'.cell? ⟨go31, ((ji27)).toNat, none⟩ = some (.int .i64 (rd (rd_L12 x8_2 (ji27)) (ji27)))) (ds := [13]) #[false, false, false, false, false, false, false, false, false, false, false, false, false, false] (by kernel_rfl) rfl rfl ⟨(blk_cell BK128.out 0).trans rfl, (blk_cell BK128.out 1).trans rfl, (blk_cell BK128.out 2).trans rfl, hx129_0, hx130_0⟩ (fun hHeld => ?_); refine with_tabW branch_Count.tab14 branch_Count.bits14 (fun HT_ HW_ => ?_)
                                        generalize w41.drew = w42 at HO_8 BK118 BK128 HB GG31 HL129_0 HQ43 HR129_0 HX129_0 hf31_0 hx129_0 hx130_0 hx31_0 hHeld ⊢
                                        refine pure_ (i := 0) (N := some 48) (v := ?_) (a' := ?_) #[true, false, false, false, false, false, false, false, false, false, false, false, false, false] rfl rfl (any_of HT_.out (by kernel_rfl)) (fun _ _ _ h => h) (Or.inl ⟨by rfl, ?_⟩) ?_ ?_
                                        rotate_left
                                        · intro w'
                                          go_simp
                                          with_reducible rfl
                                        rotate_left
                                        · simp only [Act.put, List.setIfInBounds_toArray, List.set_cons_zero, List.set_cons_succ, i64_w, i32_w]
                                          rfl
                                        refine pure_ (i := 1) (N := some 49) (v := ?_) (a' := ?_) #[true, true, false, false, false, false, false, false, false, false, false, false, false, false] rfl rfl (any_of HT_.out (by kernel_rfl)) (fun _ _ _ h => h) (Or.inl ⟨by rfl, ?_⟩) ?_ ?_
                                        rotate_left
                                        · intro w'
                                          go_simp
                                          with_reducible rfl
                                        rotate_left
                                        · simp only [Act.put, List.setIfInBounds_toArray, List.set_cons_zero, List.set_cons_succ, i64_w, i32_w]
                                          rfl
                                        refine pure_ (i := 6) (N := some 54) (v := ?_) (a' := ?_) #[true, true, false, false, false, false, true, false, false, false, false, false, false, false] rfl rfl (any_of HT_.out (by kernel_rfl)) (fun _ _ _ h => h) (Or.inl ⟨by rfl, ?_⟩) ?_ ?_
                                        rotate_left
                                        · intro w'
                                          go_simp
                                          with_reducible rfl
                                        rotate_left
                                        · simp only [Act.put, List.setIfInBounds_toArray, List.set_cons_zero, List.set_cons_succ, i64_w, i32_w]
                                          rfl
                                        refine take_ (i := 2) (N := some 50) (v := ?_) (a' := ?_) #[true, true, true, false, false, false, true, false, false, false, false, false, false, false] rfl rfl (take_ofW HT_.out HW_.out (by kernel_rfl)) (fun _ _ _ h => h) (Or.inl ⟨by rfl, ?_⟩) hHeld ?_ ?_
                                        rotate_left
                                        · rintro w' ⟨s0, s1, s2, s3, s4⟩
                                          go_simp
                                          with_reducible rfl
                                        rotate_left
                                        · simp only [Act.put, List.setIfInBounds_toArray, List.set_cons_zero, List.set_cons_succ, i64_w, i32_w]
                                          rfl
                                        refine pure_ (i := 3) (N := some 51) (v := ?_) (a' := ?_) #[true, true, true, true, false, false, true, false, false, false, false, false, false, false] rfl rfl (any_of HT_.out (by kernel_rfl)) (fun _ _ _ h => h) (Or.inl ⟨by rfl, ?_⟩) ?_ ?_
                                        rotate_left
                                        · intro w'
                                          go_simp
                                          with_reducible rfl
                                        rotate_left
                                        · simp only [Act.put, List.setIfInBounds_toArray, List.set_cons_zero, List.set_cons_succ, i64_w, i32_w]
                                          rfl
                                        refine pure_ (i := 4) (N := some 52) (v := ?_) (a' := ?_) #[true, true, true, true, true, false, true, false, false, false, false, false, false, false] rfl rfl (any_of HT_.out (by kernel_rfl)) (fun _ _ _ h => h) (Or.inl ⟨by rfl, ?_⟩) ?_ ?_
                                        rotate_left
                                        · intro w'
                                          go_simp
                                          with_reducible rfl
                                        rotate_left
                                        · simp only [Act.put, List.setIfInBounds_toArray, List.set_cons_zero, List.set_cons_succ, i64_w, i32_w]
                                          rfl
                                        refine take_ (i := 5) (N := some 53) (v := ?_) (a' := ?_) #[true, true, true, true, true, true, true, false, false, false, false, false, false, false] rfl rfl (take_ofW HT_.out HW_.out (by kernel_rfl)) (fun _ _ _ h => h) (Or.inl ⟨by rfl, ?_⟩) hHeld ?_ ?_
                                        rotate_left
                                        · rintro w' ⟨s0, s1, s2, s3, s4⟩
                                          go_simp
                                          with_reducible rfl
                                        rotate_left
                                        · simp only [Act.put, List.setIfInBounds_toArray, List.set_cons_zero, List.set_cons_succ, i64_w, i32_w]
                                          rfl
                                        refine take_ (i := 7) (N := some 55) (v := ?_) (a' := ?_) #[true, true, true, true, true, true, true, true, false, false, false, false, false, false] rfl rfl (take_ofW HT_.out HW_.out (by kernel_rfl)) (fun _ _ _ h => h) (Or.inl ⟨by rfl, ?_⟩) hHeld ?_ ?_
                                        rotate_left
                                        · rintro w' ⟨s0, s1, s2, s3, s4⟩
                                          go_simp
                                          with_reducible rfl
                                        rotate_left
                                        · simp only [Act.put, List.setIfInBounds_toArray, List.set_cons_zero, List.set_cons_succ, i64_w, i32_w]
                                          rfl
                                        refine pure_ (i := 8) (N := some 56) (v := ?_) (a' := ?_) #[true, true, true, true, true, true, true, true, true, false, false, false, false, false] rfl rfl (any_of HT_.out (by kernel_rfl)) (fun _ _ _ h => h) (Or.inl ⟨by rfl, ?_⟩) ?_ ?_
                                        rotate_left
                                        · intro w'
                                          go_simp
                                          with_reducible rfl
                                        rotate_left
                                        · simp only [Act.put, List.setIfInBounds_toArray, List.set_cons_zero, List.set_cons_succ, i64_w, i32_w]
                                          rfl
                                        refine pure_ (i := 9) (N := some 57) (v := ?_) (a' := ?_) #[true, true, true, true, true, true, true, true, true, true, false, false, false, false] rfl rfl (any_of HT_.out (by kernel_rfl)) (fun _ _ _ h => h) (Or.inl ⟨by rfl, ?_⟩) ?_ ?_
                                        rotate_left
                                        · intro w'
                                          go_simp
                                          with_reducible rfl
                                        rotate_left
                                        · simp only [Act.put, List.setIfInBounds_toArray, List.set_cons_zero, List.set_cons_succ, i64_w, i32_w]
                                          rfl
                                        refine take_ (i := 10) (N := some 58) (v := ?_) (a' := ?_) #[true, true, true, true, true, true, true, true, true, true, true, false, false, false] rfl rfl (take_ofW HT_.out HW_.out (by kernel_rfl)) (fun _ _ _ h => h) (Or.inl ⟨by rfl, ?_⟩) hHeld ?_ ?_
                                        rotate_left
                                        · rintro w' ⟨s0, s1, s2, s3, s4⟩
                                          go_simp
                                          with_reducible rfl
                                        rotate_left
                                        · simp only [Act.put, List.setIfInBounds_toArray, List.set_cons_zero, List.set_cons_succ, i64_w, i32_w]
                                          rfl
                                        refine pure_ (i := 11) (N := some 59) (v := ?_) (a' := ?_) #[true, true, true, true, true, true, true, true, true, true, true, true, false, false] rfl rfl (any_of HT_.out (by kernel_rfl)) (fun _ _ _ h => h) (Or.inl ⟨by rfl, ?_⟩) ?_ ?_
                                        rotate_left
                                        · intro w'
                                          go_simp
                                          with_reducible rfl
                                        rotate_left
                                        · simp only [Act.put, List.setIfInBounds_toArray, List.set_cons_zero, List.set_cons_succ, i64_w, i32_w]
                                          rfl
                                        refine pure_ (i := 12) (N := some 60) (v := ?_) (a' := ?_) #[true, true, true, true, true, true, true, true, true, true, true, true, true, false] rfl rfl (any_of HT_.out (by kernel_rfl)) (fun _ _ _ h => h) (Or.inl ⟨by rfl, ?_⟩) ?_ ?_
                                        rotate_left
                                        · intro w'
                                          go_simp
                                          with_reducible rfl
                                        rotate_left
                                        · simp only [Act.put, List.setIfInBounds_toArray, List.set_cons_zero, List.set_cons_succ, i64_w, i32_w]
                                          rfl
                                        refine last_ (i := 13) (N := none) #[true, true, true, true, true, true, true, true, true, true, true, true, true, true] rfl rfl (one_of HT_.out (by kernel_rfl)) (by decide) (fun K hK => ?_)
                                        refine skip_ (w1 := ?_) (by rfl) rfl ?_ ?_
                                        rotate_left
                                        · go_simp
                                          rfl
                                        refine hK.out _ _ ?_
                                        clear hK K
                                        refine done_ (done_of HT_.out (by kernel_rfl)) ?_
                                        have n0_ : Aside0 (Kd.S (Kd.slice 3 (Kd.int .i64)) 28 (w42.setCell ⟨go31, ((ji27) : Int).toNat, none⟩ (.int .i64 (wrap64 ((rd (rd_L12 x8_2 (ji27)) (ji27)) + 1)))) w.heap.size (fun _ => True) (.slice (some ad129) x8_2.length co11) y133) := ⟨by (with_reducible repeat (first | apply Kd.S_alloc | apply Kd.S_drewN | apply Kd.S_drew)); exact HQ43.out⟩
                                        have n1_ : Aside0 ((w42.setCell ⟨go31, ((ji27) : Int).toNat, none⟩ (.int .i64 (wrap64 ((rd (rd_L12 x8_2 (ji27)) (ji27)) + 1)))).heap[gb118]? = some (.cells #[.int .i64 a0, .slice (some ad127) l1.length c1, .map mr118] 70 (0, 0))) := ⟨by (with_reducible repeat (first | refine blk_drewN ?_ _ | refine blk_drew ?_ | refine blk_alloc ?_ _)); refine blk_far ?_ (by have h_ := Kd.R_ne HL129_0.out BK118.out (by decide); intro e_; exact h_ (by rw [e_]; rfl)) _; (with_reducible repeat (first | refine blk_drewN ?_ _ | refine blk_drew ?_ | refine blk_alloc ?_ _)); exact BK118.out⟩
                                        have n2_ : Aside0 ((w42.setCell ⟨go31, ((ji27) : Int).toNat, none⟩ (.int .i64 (wrap64 ((rd (rd_L12 x8_2 (ji27)) (ji27)) + 1)))).heap[gb128]? = some (.cells #[.int .i64 ((rd_T30 l1 x41_2).f0), .int .i64 ((rd_T30 l1 x41_2).f1), .int .i64 ((rd_T30 l1 x41_2).f2)] 30 (0, 0))) := ⟨by (with_reducible repeat (first | refine blk_drewN ?_ _ | refine blk_drew ?_ | refine blk_alloc ?_ _)); refine blk_far ?_ (by have h_ := Kd.R_ne HL129_0.out BK128.out (by decide); intro e_; exact h_ (by rw [e_]; rfl)) _; (with_reducible repeat (first | refine blk_drewN ?_ _ | refine blk_drew ?_ | refine blk_alloc ?_ _)); exact BK128.out⟩
                                        have n3_ : Aside0 (Below w.heap.size w (w42.setCell ⟨go31, ((ji27) : Int).toNat, none⟩ (.int .i64 (wrap64 ((rd (rd_L12 x8_2 (ji27)) (ji27)) + 1))))) := ⟨by repeat (first | (with_reducible first | exact HB.out | apply below_alloc | apply pw_below_drewN | apply below_drew1 | refine below_set ?_ GB31.out | refine below_set ?_ GE118.out | refine below_set ?_ GE128.out) | exact HB.out)⟩
                                        (try clear HO_8)
                                        (try clear BK118)
                                        (try clear BK128)
                                        (try clear HB)
                                        generalize (w42.setCell ⟨go31, ((ji27) : Int).toNat, none⟩ (.int .i64 (wrap64 ((rd (rd_L12 x8_2 (ji27)) (ji27)) + 1)))) = w45 at n0_ n1_ n2_ n3_ ⊢
                                        have HO_8 := n0_
                                        have BK118 := n1_
                                        have BK128 := n2_
                                        have HB := n3_
                                        clear n0_ n1_ n2_ n3_
                                        have hcz46_0 : w45.cell? ⟨gb128, 0, none⟩ = some (.int .i64 ((rd_T30 l1 x41_2).f0)) := (blk_cell BK128.out 0).trans rfl
                                        have hcz46_1 : w45.cell? ⟨gb128, 1, none⟩ = some (.int .i64 ((rd_T30 l1 x41_2).f1)) := (blk_cell BK128.out 1).trans rfl
                                        have hcz46_2 : w45.cell? ⟨gb128, 2, none⟩ = some (.int .i64 ((rd_T30 l1 x41_2).f2)) := (blk_cell BK128.out 2).trans rfl
                                        have hfz46_0 := blk_frozen BK128.out 0
                                        have hfz46_1 := blk_frozen BK128.out 1
                                        have hfz46_2 := blk_frozen BK128.out 2
                                        try go_wp2
                                        have n0_ := Aside0.mk (Kd.S_drew HO_8.out)
                                        have n1_ := Aside0.mk (blk_drew BK118.out)
                                        have n2_ := Aside0.mk (blk_drew BK128.out)
                                        have n3_ := Aside0.mk (below_drew1 HB.out)
                                        clear HO_8
                                        clear BK118
                                        clear BK128
                                        clear HB
                                        have HO_8 := n0_
                                        have BK118 := n1_
                                        have BK128 := n2_
                                        have HB := n3_
                                        clear n0_ n1_ n2_ n3_
                                        have p134 : 0 ≤ ((ji33) : Int) := of_decide_eq_true (by first | (with_reducible assumption) | assumption)
                                        have q134 : (ji33) < (y133.length : Int) := (by have h_ : ((ji33) : Int) < ((x8_2.length : Int) : Int) := of_decide_eq_true (by first | (with_reducible assumption) | assumption); first | (have e_ := (Kd.S_reads' HO_8.out).1; omega) | simpa only [Ny133.out, List.length_set] using h_)
                                        have ql134 : (((ji33) : Int) < ((x8_2.length : Int) : Int)) = True := eq_true (of_decide_eq_true (by first | (with_reducible assumption) | assumption))
                                        obtain ⟨ad134, A134_0, c134_0, e134, hx134_0, hl134_0, hi134_0⟩ := at_L12 (Kd.S_reads' HO_8.out).2.2 (ji33) p134 q134
                                        obtain rfl : ad129 = ad134 := (by injection e134)
                                        obtain ⟨ce134, hce134, hMe134, hcc134⟩ := Kd.S_get HO_8.out [] (ji33) p134 (by first | exact q134 | exact of_decide_eq_true (by first | (with_reducible assumption) | assumption) | (have e_ := (Kd.S_reads' HO_8.out).1; omega))
                                        obtain ⟨ve134_0, rfl, ge134_0⟩ := hMe134
                                        have hv134_0 := hcc134 0 _ rfl
                                        rw [Nat.add_zero, show ((Kd.slice 3 (Kd.int .i64))).sz = 1 from rfl, Nat.mul_one] at hv134_0
                                        replace hv134_0 := Option.some.inj (hv134_0.symm.trans hx134_0)
                                        rw [hv134_0] at ge134_0
                                        have HL134_0 := Aside0.mk (show Kd.R (Kd.int .i64) 3 _ _ _ _ (rd_L12 y133 (ji33)) from ge134_0)
                                        clear hv134_0 ge134_0
                                        have HX134_0 := Aside0.mk hx134_0
                                        clear hcc134 hce134
                                        have HR134_0 := Aside0.mk hi134_0
                                        have HC134_0 := Aside0.mk hl134_0
                                        clear hi134_0 hl134_0
                                        replace p134 := eq_true p134
                                        replace q134 := eq_true q134
                                        have p135 : 0 ≤ ((ji27) : Int) := of_decide_eq_true (by first | (with_reducible assumption) | assumption)
                                        have q135 : (ji27) < ((rd_L12 y133 (ji33)).length : Int) := of_decide_eq_true (by first | (with_reducible assumption) | assumption)
                                        obtain ⟨ad135, e135, hx135_0⟩ := Kd.at_int (by repeat (first | (with_reducible exact HR134_0.out) | (with_reducible refine Kd.C_alloc ?_ _) | (with_reducible refine Kd.C_drewN ?_ _) | (with_reducible refine Kd.C_drew ?_) | exact HR134_0.out)) (ji27) p135 q135
                                        cases e135
                                        replace p135 := eq_true p135
                                        replace q135 := eq_true q135
                                        have p37 : 0 ≤ ((ji27) : Int) := of_decide_eq_true (by first | (with_reducible assumption) | assumption)
                                        have q37 : ((ji27) : Int) < (((rd_L12 y133 (ji33)).length : Int) : Int) := of_decide_eq_true (by first | (with_reducible assumption) | assumption)
                                        obtain ⟨go37, co37, eo37, gb37, gl37, cl37, HG37⟩ := Kd.R_form HL134_0.out (by omega)
                                        (first | cases eo37 | (injection eo37 with ea_ en_ ec_; (first | subst ea_ | (injection ea_ with ea_; subst ea_)); subst ec_; clear en_))
                                        have GB37 := Aside0.mk gb37
                                        have GG37 := Aside0.mk HG37
                                        clear gb37 gl37 HG37
                                        (first | simp only [add_plain] at hx135_0 | skip)
                                        obtain ⟨hx37_0, hf37_0⟩ := Kd.R_celln 0 HL134_0.out ((ji27) : Int) p37 q37
                                        replace p37 := eq_true p37
                                        replace q37 := eq_true q37
                                        have hq48 : ((ji33) : Int) < (y133.length : Int) := (by have h_ : ((ji33) : Int) < ((x8_2.length : Int) : Int) := of_decide_eq_true (by first | (with_reducible assumption) | assumption); first | exact h_ | (have e_ := (Kd.S_reads' HO_8.out).1; omega) | simpa only [Ny133.out, List.length_set] using h_)
                                        obtain ⟨oki48, ce48, hcl48, hM48, hcc48, hok48, hbk48⟩ := Kd.S_borrow HO_8.out [] ((ji33) : Int) (of_decide_eq_true (by first | (with_reducible assumption) | assumption)) (by first | exact hq48 | (have h_ := hq48; simpa only [Ny133.out, List.length_set] using h_))
                                        obtain ⟨ve48_0, rfl, ge48_0⟩ := hM48
                                        have hv48 := hcc48 0 _ rfl
                                        rw [Nat.add_zero, show ((Kd.slice 3 (Kd.int .i64))).sz = 1 from rfl, Nat.mul_one] at hv48
                                        replace hv48 := Option.some.inj (hv48.symm.trans HX134_0.out)
                                        subst hv48
                                        clear hcc48 hcl48
                                        replace ge48_0 := (show Kd.R (Kd.int .i64) 3 _ _ _ _ (rd_L12 y133 (ji33)) from ge48_0)
                                        have HP48 := Kd.R_putg ge48_0 ((ji27) : Int) (wrap64 ((rd (rd_L12 y133 (ji33)) (ji27)) - 1))
                                        rw [← Ny136.out] at HP48
                                        have HS48 := hbk48 HP48.2 (fun k_ e_ => by injection e_ with e_; subst e_; exact ge48_0.1 _ rfl) (x' := y136) (Kd.M_row HP48.1)
                                        rw [← Ny138.out] at HS48
                                        have HQ48 := Aside0.mk HS48
                                        clear HP48 HS48 hbk48 hok48
                                        refine start_ (n := 14) (S := fun w' => w'.cell? ⟨gb128, 0, none⟩ = some (.int .i64 ((rd_T30 l1 x41_2).f0)) ∧ w'.cell? ⟨gb128, 1, none⟩ = some (.int .i64 ((rd_T30 l1 x41_2).f1)) ∧ w'.cell? ⟨gb128, 2, none⟩ = some (.int .i64 ((rd_T30 l1 x41_2).f2)) ∧ w'.cell? (ad129.add ((ji33)).toNat) = some (.slice (some ⟨go37, 0, none⟩) (rd_L12 y133 (ji33)).length c134_0) ∧ w'.cell? ⟨go37, ((ji27)).toNat, none⟩ = some (.int .i64 (rd (rd_L12 y133 (ji33)) (ji27)))) (ds := [13]) #[false, false, false, false, false, false, false, false, false, false, false, false, false, false] (by kernel_rfl) rfl rfl ⟨(blk_cell BK128.out 0).trans rfl, (blk_cell BK128.out 1).trans rfl, (blk_cell BK128.out 2).trans rfl, hx134_0, hx135_0⟩ (fun hHeld => ?_); refine with_tabW branch_Count.tab16 branch_Count.bits16 (fun HT_ HW_ => ?_)
                                        generalize w45.drew = w47 at HO_8 BK118 BK128 HB GG37 HL134_0 HQ48 HR134_0 HX134_0 hf37_0 hx134_0 hx135_0 hx37_0 hHeld ⊢
                                        refine pure_ (i := 0) (N := some 64) (v := ?_) (a' := ?_) #[true, false, false, false, false, false, false, false, false, false, false, false, false, false] rfl rfl (any_of HT_.out (by kernel_rfl)) (fun _ _ _ h => h) (Or.inl ⟨by rfl, ?_⟩) ?_ ?_
                                        rotate_left
                                        · intro w'
                                          go_simp
                                          with_reducible rfl
                                        rotate_left
                                        · simp only [Act.put, List.setIfInBounds_toArray, List.set_cons_zero, List.set_cons_succ, i64_w, i32_w]
                                          rfl
                                        refine pure_ (i := 1) (N := some 65) (v := ?_) (a' := ?_) #[true, true, false, false, false, false, false, false, false, false, false, false, false, false] rfl rfl (any_of HT_.out (by kernel_rfl)) (fun _ _ _ h => h) (Or.inl ⟨by rfl, ?_⟩) ?_ ?_
                                        rotate_left
                                        · intro w'
                                          go_simp
                                          with_reducible rfl
                                        rotate_left
                                        · simp only [Act.put, List.setIfInBounds_toArray, List.set_cons_zero, List.set_cons_succ, i64_w, i32_w]
                                          rfl
                                        refine pure_ (i := 6) (N := some 70) (v := ?_) (a' := ?_) #[true, true, false, false, false, false, true, false, false, false, false, false, false, false] rfl rfl (any_of HT_.out (by kernel_rfl)) (fun _ _ _ h => h) (Or.inl ⟨by rfl, ?_⟩) ?_ ?_
                                        rotate_left
                                        · intro w'
                                          go_simp
                                          with_reducible rfl
                                        rotate_left
                                        · simp only [Act.put, List.setIfInBounds_toArray, List.set_cons_zero, List.set_cons_succ, i64_w, i32_w]
                                          rfl
                                        refine take_ (i := 2) (N := some 66) (v := ?_) (a' := ?_) #[true, true, true, false, false, false, true, false, false, false, false, false, false, false] rfl rfl (take_ofW HT_.out HW_.out (by kernel_rfl)) (fun _ _ _ h => h) (Or.inl ⟨by rfl, ?_⟩) hHeld ?_ ?_
                                        rotate_left
                                        · rintro w' ⟨s0, s1, s2, s3, s4⟩
                                          go_simp
                                          with_reducible rfl
                                        rotate_left
                                        · simp only [Act.put, List.setIfInBounds_toArray, List.set_cons_zero, List.set_cons_succ, i64_w, i32_w]
                                          rfl
                                        refine pure_ (i := 3) (N := some 67) (v := ?_) (a' := ?_) #[true, true, true, true, false, false, true, false, false, false, false, false, false, false] rfl rfl (any_of HT_.out (by kernel_rfl)) (fun _ _ _ h => h) (Or.inl ⟨by rfl, ?_⟩) ?_ ?_
                                        rotate_left
                                        · intro w'
                                          go_simp
                                          with_reducible rfl
                                        rotate_left
                                        · simp only [Act.put, List.setIfInBounds_toArray, List.set_cons_zero, List.set_cons_succ, i64_w, i32_w]
                                          rfl
                                        refine pure_ (i := 4) (N := some 68) (v := ?_) (a' := ?_) #[true, true, true, true, true, false, true, false, false, false, false, false, false, false] rfl rfl (any_of HT_.out (by kernel_rfl)) (fun _ _ _ h => h) (Or.inl ⟨by rfl, ?_⟩) ?_ ?_
                                        rotate_left
                                        · intro w'
                                          go_simp
                                          with_reducible rfl
                                        rotate_left
                                        · simp only [Act.put, List.setIfInBounds_toArray, List.set_cons_zero, List.set_cons_succ, i64_w, i32_w]
                                          rfl
                                        refine take_ (i := 5) (N := some 69) (v := ?_) (a' := ?_) #[true, true, true, true, true, true, true, false, false, false, false, false, false, false] rfl rfl (take_ofW HT_.out HW_.out (by kernel_rfl)) (fun _ _ _ h => h) (Or.inl ⟨by rfl, ?_⟩) hHeld ?_ ?_
                                        rotate_left
                                        · rintro w' ⟨s0, s1, s2, s3, s4⟩
                                          go_simp
                                          with_reducible rfl
                                        rotate_left
                                        · simp only [Act.put, List.setIfInBounds_toArray, List.set_cons_zero, List.set_cons_succ, i64_w, i32_w]
                                          rfl
                                        refine take_ (i := 7) (N := some 71) (v := ?_) (a' := ?_) #[true, true, true, true, true, true, true, true, false, false, false, false, false, false] rfl rfl (take_ofW HT_.out HW_.out (by kernel_rfl)) (fun _ _ _ h => h) (Or.inl ⟨by rfl, ?_⟩) hHeld ?_ ?_
                                        rotate_left
                                        · rintro w' ⟨s0, s1, s2, s3, s4⟩
                                          go_simp
                                          with_reducible rfl
                                        rotate_left
                                        · simp only [Act.put, List.setIfInBounds_toArray, List.set_cons_zero, List.set_cons_succ, i64_w, i32_w]
                                          rfl
                                        refine pure_ (i := 8) (N := some 72) (v := ?_) (a' := ?_) #[true, true, true, true, true, true, true, true, true, false, false, false, false, false] rfl rfl (any_of HT_.out (by kernel_rfl)) (fun _ _ _ h => h) (Or.inl ⟨by rfl, ?_⟩) ?_ ?_
                                        rotate_left
                                        · intro w'
                                          go_simp
                                          with_reducible rfl
                                        rotate_left
                                        · simp only [Act.put, List.setIfInBounds_toArray, List.set_cons_zero, List.set_cons_succ, i64_w, i32_w]
                                          rfl
                                        refine pure_ (i := 9) (N := some 73) (v := ?_) (a' := ?_) #[true, true, true, true, true, true, true, true, true, true, false, false, false, false] rfl rfl (any_of HT_.out (by kernel_rfl)) (fun _ _ _ h => h) (Or.inl ⟨by rfl, ?_⟩) ?_ ?_
                                        rotate_left
                                        · intro w'
                                          go_simp
                                          with_reducible rfl
                                        rotate_left
                                        · simp only [Act.put, List.setIfInBounds_toArray, List.set_cons_zero, List.set_cons_succ, i64_w, i32_w]
                                          rfl
                                        refine take_ (i := 10) (N := some 74) (v := ?_) (a' := ?_) #[true, true, true, true, true, true, true, true, true, true, true, false, false, false] rfl rfl (take_ofW HT_.out HW_.out (by kernel_rfl)) (fun _ _ _ h => h) (Or.inl ⟨by rfl, ?_⟩) hHeld ?_ ?_
                                        rotate_left
                                        · rintro w' ⟨s0, s1, s2, s3, s4⟩
                                          go_simp
                                          with_reducible rfl
                                        rotate_left
                                        · simp only [Act.put, List.setIfInBounds_toArray, List.set_cons_zero, List.set_cons_succ, i64_w, i32_w]
                                          rfl
                                        refine pure_ (i := 11) (N := some 75) (v := ?_) (a' := ?_) #[true, true, true, true, true, true, true, true, true, true, true, true, false, false] rfl rfl (any_of HT_.out (by kernel_rfl)) (fun _ _ _ h => h) (Or.inl ⟨by rfl, ?_⟩) ?_ ?_
                                        rotate_left
                                        · intro w'
                                          go_simp
                                          with_reducible rfl
                                        rotate_left
                                        · simp only [Act.put, List.setIfInBounds_toArray, List.set_cons_zero, List.set_cons_succ, i64_w, i32_w]
                                          rfl
                                        refine pure_ (i := 12) (N := some 76) (v := ?_) (a' := ?_) #[true, true, true, true, true, true, true, true, true, true, true, true, true, false] rfl rfl (any_of HT_.out (by kernel_rfl)) (fun _ _ _ h => h) (Or.inl ⟨by rfl, ?_⟩) ?_ ?_
                                        rotate_left
                                        · intro w'
                                          go_simp
                                          with_reducible rfl
                                        rotate_left
                                        · simp only [Act.put, List.setIfInBounds_toArray, List.set_cons_zero, List.set_cons_succ, i64_w, i32_w]
                                          rfl
                                        refine last_ (i := 13) (N := none) #[true, true, true, true, true, true, true, true, true, true, true, true, true, true] rfl rfl (one_of HT_.out (by kernel_rfl)) (by decide) (fun K hK => ?_)
                                        refine skip_ (w1 := ?_) (by rfl) rfl ?_ ?_
                                        rotate_left
                                        · go_simp
                                          rfl
                                        refine hK.out _ _ ?_
                                        clear hK K
                                        refine done_ (done_of HT_.out (by kernel_rfl)) ?_
                                        have n0_ : Aside0 (Kd.S (Kd.slice 3 (Kd.int .i64)) 28 (w47.setCell ⟨go37, ((ji27) : Int).toNat, none⟩ (.int .i64 (wrap64 ((rd (rd_L12 y133 (ji33)) (ji27)) - 1)))) w.heap.size (fun _ => True) (.slice (some ad129) x8_2.length co11) y138) := ⟨by (with_reducible repeat (first | apply Kd.S_alloc | apply Kd.S_drewN | apply Kd.S_drew)); exact HQ48.out⟩
                                        have n1_ : Aside0 ((w47.setCell ⟨go37, ((ji27) : Int).toNat, none⟩ (.int .i64 (wrap64 ((rd (rd_L12 y133 (ji33)) (ji27)) - 1)))).heap[gb118]? = some (.cells #[.int .i64 a0, .slice (some ad127) l1.length c1, .map mr118] 70 (0, 0))) := ⟨by (with_reducible repeat (first | refine blk_drewN ?_ _ | refine blk_drew ?_ | refine blk_alloc ?_ _)); refine blk_far ?_ (by have h_ := Kd.R_ne HL134_0.out BK118.out (by decide); intro e_; exact h_ (by rw [e_]; rfl)) _; (with_reducible repeat (first | refine blk_drewN ?_ _ | refine blk_drew ?_ | refine blk_alloc ?_ _)); exact BK118.out⟩
                                        have n2_ : Aside0 ((w47.setCell ⟨go37, ((ji27) : Int).toNat, none⟩ (.int .i64 (wrap64 ((rd (rd_L12 y133 (ji33)) (ji27)) - 1)))).heap[gb128]? = some (.cells #[.int .i64 ((rd_T30 l1 x41_2).f0), .int .i64 ((rd_T30 l1 x41_2).f1), .int .i64 ((rd_T30 l1 x41_2).f2)] 30 (0, 0))) := ⟨by (with_reducible repeat (first | refine blk_drewN ?_ _ | refine blk_drew ?_ | refine blk_alloc ?_ _)); refine blk_far ?_ (by have h_ := Kd.R_ne HL134_0.out BK128.out (by decide); intro e_; exact h_ (by rw [e_]; rfl)) _; (with_reducible repeat (first | refine blk_drewN ?_ _ | refine blk_drew ?_ | refine blk_alloc ?_ _)); exact BK128.out⟩
                                        have n3_ : Aside0 (Below w.heap.size w (w47.setCell ⟨go37, ((ji27) : Int).toNat, none⟩ (.int .i64 (wrap64 ((rd (rd_L12 y133 (ji33)) (ji27)) - 1))))) := ⟨by repeat (first | (with_reducible first | exact HB.out | apply below_alloc | apply pw_below_drewN | apply below_drew1 | refine below_set ?_ GB37.out | refine below_set ?_ GE118.out | refine below_set ?_ GE128.out) | exact HB.out)⟩
                                        (try clear HO_8)
                                        (try clear BK118)
                                        (try clear BK128)
                                        (try clear HB)
                                        generalize (w47.setCell ⟨go37, ((ji27) : Int).toNat, none⟩ (.int .i64 (wrap64 ((rd (rd_L12 y133 (ji33)) (ji27)) - 1)))) = w50 at n0_ n1_ n2_ n3_ ⊢
                                        have HO_8 := n0_
                                        have BK118 := n1_
                                        have BK128 := n2_
                                        have HB := n3_
                                        clear n0_ n1_ n2_ n3_
                                        try go_wp2
                                        (try simp only [← hl8_2])
                                        go_roundg k2
                                        case measure => have := HK1.out; have := HK2.out; omega
                                        case rel => exact ⟨(y138), (wrap64 (x41_2 + 1)), (by first | rfl | (simp; done) | (simp [*]; done)), H', ⟨by have := HK1.out; have := HK2.out; omega⟩, ⟨by (try simp only [hl8_1]); (try simp only [hl8_2]); (with_reducible repeat (first | apply Kd.S_alloc | apply Kd.S_drewN | apply Kd.S_drew)); exact HO_8.out⟩, ⟨by (try simp only [hl8_1]); (try simp only [hl8_2]); (with_reducible repeat (first | refine blk_drewN ?_ _ | refine blk_drew ?_ | refine blk_alloc ?_ _)); exact BK118.out⟩, ⟨by repeat (first | (with_reducible first | exact HB.out | apply below_alloc | apply pw_below_drewN | apply below_drew1 | refine below_set ?_ GE118.out | refine below_set ?_ GE128.out) | exact HB.out)⟩⟩
                                      · rw [if_neg c36] at H
                                        exact absurd H (by simp)
                                    · rw [if_neg c35] at H
                                      exact absurd H (by simp)
                                  · rw [if_neg c34] at H
                                    exact absurd H (by simp)
                                · rw [if_neg c32] at H
                                  have c32b0 : decide (0 < ((rd_T30 l1 x41_2).f0)) = false := decide_eq_false c32
                                  clear c32
                                  have H' := Aside0.mk H
                                  clear H
                                  have p127 : 0 ≤ (x41_2 : Int) := of_decide_eq_true (by first | (with_reducible assumption) | assumption)
                                  have q127 : x41_2 < (l1.length : Int) := of_decide_eq_true (by first | (with_reducible assumption) | assumption)
                                  obtain ⟨ad127, e127, hx127_0, hx127_1, hx127_2⟩ := at_T30 HR1.out x41_2 p127 q127
                                  cases e127
                                  replace hx127_0 := (HB.out.cell (World.block_lt_of_cell? w _ hx127_0)).trans hx127_0
                                  replace hx127_1 := (HB.out.cell (World.block_lt_of_cell? w _ hx127_1)).trans hx127_1
                                  replace hx127_2 := (HB.out.cell (World.block_lt_of_cell? w _ hx127_2)).trans hx127_2
                                  replace p127 := eq_true p127
                                  replace q127 := eq_true q127
                                  try go_wp2_with (first | ((with_reducible refine gate_dst (N := 11) rfl ?_); refine box_event ?hg (N := 11) ?hd (cs := #[.int .i64 0, .int .i64 0, .int .i64 0]) (t := 30) ?hr ?_; (case hd => rfl); (case hg => rfl); (case hr => first | (go_simp; done) | (go_simp; rfl)); intro gb128 hg w51 hbox hb; have n0_ := Aside0.mk (Kd.S_below (by (with_reducible repeat (first | apply Kd.S_alloc | apply Kd.S_drewN | apply Kd.S_drew)); exact HO_8.out) hb); have n1_ := Aside0.mk (blk_below (g := gb118) (o := .cells #[.int .i64 a0, .slice (some ad127) l1.length c1, .map mr118] 70 (0, 0)) (by (with_reducible repeat (first | refine blk_drewN ?_ _ | refine blk_drew ?_ | refine blk_alloc ?_ _)); exact BK118.out) hb); have n2_ := Aside0.mk (below_step (by repeat (first | (with_reducible first | exact HB.out | apply below_alloc | apply pw_below_drewN | apply below_drew1 | refine below_set ?_ GE118.out) | exact HB.out)) hb); have n3_ := Aside0.mk (hbox); have n4_ := Aside0.mk ((by rw [hg]; exact (below_size (by repeat (first | (with_reducible first | exact HB.out | apply below_alloc | apply pw_below_drewN | apply below_drew1 | refine below_set ?_ GE118.out) | exact HB.out))) : w.heap.size ≤ gb128)); have n5_ := Aside0.mk ((by rw [hg]; exact (below_size (by repeat (first | (with_reducible first | exact HB.out | apply below_alloc | apply pw_below_drewN | apply below_drew1 | refine below_set ?_ GE118.out) | exact HB.out))) : w.heap.size ≤ gb128)); have n6_ := Aside0.mk ((by rw [hg]; exact Nat.ne_of_lt (blk_lt (g := gb118) (o := .cells #[.int .i64 a0, .slice (some ad127) l1.length c1, .map mr118] 70 (0, 0)) (by (with_reducible repeat (first | refine blk_drewN ?_ _ | refine blk_drew ?_ | refine blk_alloc ?_ _)); exact BK118.out)) : gb118 ≠ gb128)); have n7_ := Aside0.mk ((by rw [hg]; exact Nat.ne_of_gt (blk_lt (g := gb118) (o := .cells #[.int .i64 a0, .slice (some ad127) l1.length c1, .map mr118] 70 (0, 0)) (by (with_reducible repeat (first | refine blk_drewN ?_ _ | refine blk_drew ?_ | refine blk_alloc ?_ _)); exact BK118.out)) : gb128 ≠ gb118)); clear HO_8; clear BK118; clear HB; have HO_8 := n0_; have BK118 := n1_; have HB := n2_; have BK128 := n3_; have GW128 := n4_; have GE128 := n5_; have NB118_128 := n6_; have NB128_118 := n7_; clear n0_ n1_ n2_ n3_ n4_ n5_ n6_ n7_; clear hb hbox hg; have hnb52 := NB128_118.out; have hnc52 := NB118_128.out; have hcz53_0 : w51.cell? ⟨gb128, 0, none⟩ = some (.int .i64 0) := (blk_cell BK128.out 0).trans rfl; have hcz53_1 : w51.cell? ⟨gb128, 1, none⟩ = some (.int .i64 0) := (blk_cell BK128.out 1).trans rfl; have hcz53_2 : w51.cell? ⟨gb128, 2, none⟩ = some (.int .i64 0) := (blk_cell BK128.out 2).trans rfl; have hfz53_0 := blk_frozen BK128.out 0; have hfz53_1 := blk_frozen BK128.out 1; have hfz53_2 := blk_frozen BK128.out 2))
                                  have n0_ : Aside0 (Kd.S (Kd.slice 3 (Kd.int .i64)) 28 (((w51.setCell ⟨gb128, 0, none⟩ (.int .i64 ((rd_T30 l1 x41_2).f0))).setCell ⟨gb128, 1, none⟩ (.int .i64 ((rd_T30 l1 x41_2).f1))).setCell ⟨gb128, 2, none⟩ (.int .i64 ((rd_T30 l1 x41_2).f2))) w.heap.size (fun _ => True) (.slice Ao11 x8_2.length co11) x8_2) := ⟨by (with_reducible repeat (first | apply Kd.S_alloc | apply Kd.S_drewN | apply Kd.S_drew)); exact Kd.S_mono (Kd.S_far (p := ⟨gb128, 2, none⟩) (Kd.S_far (p := ⟨gb128, 1, none⟩) (Kd.S_far (p := ⟨gb128, 0, none⟩) (Kd.S_types HO_8.out BK128.out (by decide)) (fun _ hk => hk.2) (.int .i64 ((rd_T30 l1 x41_2).f0))) (fun _ hk => hk.2) (.int .i64 ((rd_T30 l1 x41_2).f1))) (fun _ hk => hk.2) (.int .i64 ((rd_T30 l1 x41_2).f2))) (fun _ hk => trivial)⟩
                                  have n1_ : Aside0 ((((w51.setCell ⟨gb128, 0, none⟩ (.int .i64 ((rd_T30 l1 x41_2).f0))).setCell ⟨gb128, 1, none⟩ (.int .i64 ((rd_T30 l1 x41_2).f1))).setCell ⟨gb128, 2, none⟩ (.int .i64 ((rd_T30 l1 x41_2).f2))).heap[gb118]? = some (.cells #[.int .i64 a0, .slice (some ad127) l1.length c1, .map mr118] 70 (0, 0))) := ⟨by (with_reducible repeat (first | refine blk_drewN ?_ _ | refine blk_drew ?_ | refine blk_alloc ?_ _)); refine blk_far ?_ NB118_128.out _; (with_reducible repeat (first | refine blk_drewN ?_ _ | refine blk_drew ?_ | refine blk_alloc ?_ _)); refine blk_far ?_ NB118_128.out _; (with_reducible repeat (first | refine blk_drewN ?_ _ | refine blk_drew ?_ | refine blk_alloc ?_ _)); refine blk_far ?_ NB118_128.out _; (with_reducible repeat (first | refine blk_drewN ?_ _ | refine blk_drew ?_ | refine blk_alloc ?_ _)); exact BK118.out⟩
                                  have n2_ : Aside0 ((((w51.setCell ⟨gb128, 0, none⟩ (.int .i64 ((rd_T30 l1 x41_2).f0))).setCell ⟨gb128, 1, none⟩ (.int .i64 ((rd_T30 l1 x41_2).f1))).setCell ⟨gb128, 2, none⟩ (.int .i64 ((rd_T30 l1 x41_2).f2))).heap[gb128]? = some (.cells #[.int .i64 ((rd_T30 l1 x41_2).f0), .int .i64 ((rd_T30 l1 x41_2).f1), .int .i64 ((rd_T30 l1 x41_2).f2)] 30 (0, 0))) := ⟨by (with_reducible repeat (first | refine blk_drewN ?_ _ | refine blk_drew ?_ | refine blk_alloc ?_ _)); refine blk_put (cs := #[.int .i64 ((rd_T30 l1 x41_2).f0), .int .i64 ((rd_T30 l1 x41_2).f1), .int .i64 0]) ?_ 2 _ rfl; (with_reducible repeat (first | refine blk_drewN ?_ _ | refine blk_drew ?_ | refine blk_alloc ?_ _)); refine blk_put (cs := #[.int .i64 ((rd_T30 l1 x41_2).f0), .int .i64 0, .int .i64 0]) ?_ 1 _ rfl; (with_reducible repeat (first | refine blk_drewN ?_ _ | refine blk_drew ?_ | refine blk_alloc ?_ _)); refine blk_put (cs := #[.int .i64 0, .int .i64 0, .int .i64 0]) ?_ 0 _ rfl; (with_reducible repeat (first | refine blk_drewN ?_ _ | refine blk_drew ?_ | refine blk_alloc ?_ _)); exact BK128.out⟩
                                  have n3_ : Aside0 (Below w.heap.size w (((w51.setCell ⟨gb128, 0, none⟩ (.int .i64 ((rd_T30 l1 x41_2).f0))).setCell ⟨gb128, 1, none⟩ (.int .i64 ((rd_T30 l1 x41_2).f1))).setCell ⟨gb128, 2, none⟩ (.int .i64 ((rd_T30 l1 x41_2).f2)))) := ⟨by repeat (first | (with_reducible first | exact HB.out | apply below_alloc | apply pw_below_drewN | apply below_drew1 | refine below_set ?_ GE118.out | refine below_set ?_ GE128.out) | exact HB.out)⟩
                                  (try clear HO_8)
                                  (try clear BK118)
                                  (try clear BK128)
                                  (try clear HB)
                                  generalize (((w51.setCell ⟨gb128, 0, none⟩ (.int .i64 ((rd_T30 l1 x41_2).f0))).setCell ⟨gb128, 1, none⟩ (.int .i64 ((rd_T30 l1 x41_2).f1))).setCell ⟨gb128, 2, none⟩ (.int .i64 ((rd_T30 l1 x41_2).f2))) = w54 at n0_ n1_ n2_ n3_ ⊢
                                  have HO_8 := n0_
                                  have BK118 := n1_
                                  have BK128 := n2_
                                  have HB := n3_
                                  clear n0_ n1_ n2_ n3_
                                  have n0_ := Aside0.mk (Kd.S_drew HO_8.out)
                                  have n1_ := Aside0.mk (blk_drew BK118.out)
                                  have n2_ := Aside0.mk (blk_drew BK128.out)
                                  have n3_ := Aside0.mk (below_drew1 HB.out)
                                  clear HO_8
                                  clear BK118
                                  clear BK128
                                  clear HB
                                  have HO_8 := n0_
                                  have BK118 := n1_
                                  have BK128 := n2_
                                  have HB := n3_
                                  clear n0_ n1_ n2_ n3_
                                  have p129 : 0 ≤ ((ji27) : Int) := of_decide_eq_true (by first | (with_reducible assumption) | assumption)
                                  have q129 : (ji27) < (x8_2.length : Int) := of_decide_eq_true (by first | (with_reducible assumption) | assumption)
                                  obtain ⟨ad129, A129_0, c129_0, e129, hx129_0, hl129_0, hi129_0⟩ := at_L12 (Kd.S_reads' HO_8.out).2.2 (ji27) p129 q129
                                  cases e129
                                  obtain ⟨ce129, hce129, hMe129, hcc129⟩ := Kd.S_get HO_8.out [] (ji27) p129 (by first | exact q129 | exact of_decide_eq_true (by first | (with_reducible assumption) | assumption) | (have e_ := (Kd.S_reads' HO_8.out).1; omega))
                                  obtain ⟨ve129_0, rfl, ge129_0⟩ := hMe129
                                  have hv129_0 := hcc129 0 _ rfl
                                  rw [Nat.add_zero, show ((Kd.slice 3 (Kd.int .i64))).sz = 1 from rfl, Nat.mul_one] at hv129_0
                                  replace hv129_0 := Option.some.inj (hv129_0.symm.trans hx129_0)
                                  rw [hv129_0] at ge129_0
                                  have HL129_0 := Aside0.mk (show Kd.R (Kd.int .i64) 3 _ _ _ _ (rd_L12 x8_2 (ji27)) from ge129_0)
                                  clear hv129_0 ge129_0
                                  have HX129_0 := Aside0.mk hx129_0
                                  clear hcc129 hce129
                                  have HR129_0 := Aside0.mk hi129_0
                                  have HC129_0 := Aside0.mk hl129_0
                                  clear hi129_0 hl129_0
                                  replace p129 := eq_true p129
                                  replace q129 := eq_true q129
                                  have p130 : 0 ≤ ((ji27) : Int) := of_decide_eq_true (by first | (with_reducible assumption) | assumption)
                                  have q130 : (ji27) < ((rd_L12 x8_2 (ji27)).length : Int) := of_decide_eq_true (by first | (with_reducible assumption) | assumption)
                                  obtain ⟨ad130, e130, hx130_0⟩ := Kd.at_int (by repeat (first | (with_reducible exact HR129_0.out) | (with_reducible refine Kd.C_alloc ?_ _) | (with_reducible refine Kd.C_drewN ?_ _) | (with_reducible refine Kd.C_drew ?_) | exact HR129_0.out)) (ji27) p130 q130
                                  cases e130
                                  replace p130 := eq_true p130
                                  replace q130 := eq_true q130
                                  have p31 : 0 ≤ ((ji27) : Int) := of_decide_eq_true (by first | (with_reducible assumption) | assumption)
                                  have q31 : ((ji27) : Int) < (((rd_L12 x8_2 (ji27)).length : Int) : Int) := of_decide_eq_true (by first | (with_reducible assumption) | assumption)
                                  obtain ⟨go31, co31, eo31, gb31, gl31, cl31, HG31⟩ := Kd.R_form HL129_0.out (by omega)
                                  (first | cases eo31 | (injection eo31 with ea_ en_ ec_; (first | subst ea_ | (injection ea_ with ea_; subst ea_)); subst ec_; clear en_))
                                  have GB31 := Aside0.mk gb31
                                  have GG31 := Aside0.mk HG31
                                  clear gb31 gl31 HG31
                                  (first | simp only [add_plain] at hx130_0 | skip)
                                  obtain ⟨hx31_0, hf31_0⟩ := Kd.R_celln 0 HL129_0.out ((ji27) : Int) p31 q31
                                  replace p31 := eq_true p31
                                  replace q31 := eq_true q31
                                  have hq56 : ((ji27) : Int) < (x8_2.length : Int) := (by have h_ : ((ji27) : Int) < ((x8_2.length : Int) : Int) := of_decide_eq_true (by first | (with_reducible assumption) | assumption); first | exact h_ | (have e_ := (Kd.S_reads' HO_8.out).1; omega) | simpa only [List.length_set, List.length_set] using h_)
                                  obtain ⟨oki56, ce56, hcl56, hM56, hcc56, hok56, hbk56⟩ := Kd.S_borrow HO_8.out [] ((ji27) : Int) (of_decide_eq_true (by first | (with_reducible assumption) | assumption)) (by first | exact hq56 | (have h_ := hq56; simpa only [List.length_set, List.length_set] using h_))
                                  obtain ⟨ve56_0, rfl, ge56_0⟩ := hM56
                                  have hv56 := hcc56 0 _ rfl
                                  rw [Nat.add_zero, show ((Kd.slice 3 (Kd.int .i64))).sz = 1 from rfl, Nat.mul_one] at hv56
                                  replace hv56 := Option.some.inj (hv56.symm.trans HX129_0.out)
                                  subst hv56
                                  clear hcc56 hcl56
                                  replace ge56_0 := (show Kd.R (Kd.int .i64) 3 _ _ _ _ (rd_L12 x8_2 (ji27)) from ge56_0)
                                  have HP56 := Kd.R_putg ge56_0 ((ji27) : Int) (wrap64 ((rd (rd_L12 x8_2 (ji27)) (ji27)) + 1))
                                  rw [← Ny131.out] at HP56
                                  have HS56 := hbk56 HP56.2 (fun k_ e_ => by injection e_ with e_; subst e_; exact ge56_0.1 _ rfl) (x' := y131) (Kd.M_row HP56.1)
                                  rw [← Ny133.out] at HS56
                                  have HQ56 := Aside0.mk HS56
                                  clear HP56 HS56 hbk56 hok56
                                  refine start_ (n := 14) (S := fun w' => w'.cell? ⟨gb128, 0, none⟩ = some (.int .i64 ((rd_T30 l1 x41_2).f0)) ∧ w'.cell? ⟨gb128, 1, none⟩ = some (.int .i64 ((rd_T30 l1 x41_2).f1)) ∧ w'.cell? ⟨gb128, 2, none⟩ = some (.int .i64 ((rd_T30 l1 x41_2).f2)) ∧ w'.cell? (ad129.add ((ji27)).toNat) = some (.slice (some ⟨go31, 0, none⟩) (rd_L12 x8_2 (ji27)).length c129_0) ∧ w'.cell? ⟨go31, ((ji27)).toNat, none⟩ = some (.int .i64 (rd (rd_L12 x8_2 (ji27)) (ji27)))) (ds := [13]) #[false, false, false, false, false, false, false, false, false, false, false, false, false, false] (by kernel_rfl) rfl rfl ⟨(blk_cell BK128.out 0).trans rfl, (blk_cell BK128.out 1).trans rfl, (blk_cell BK128.out 2).trans rfl, hx129_0, hx130_0⟩ (fun hHeld => ?_); refine with_tabW branch_Count.tab14 branch_Count.bits14 (fun HT_ HW_ => ?_)
                                  generalize w54.drew = w55 at HO_8 BK118 BK128 HB GG31 HL129_0 HQ56 HR129_0 HX129_0 hf31_0 hx129_0 hx130_0 hx31_0 hHeld ⊢
                                  refine pure_ (i := 0) (N := some 48) (v := ?_) (a' := ?_) #[true, false, false, false, false, false, false, false, false, false, false, false, false, false] rfl rfl (any_of HT_.out (by kernel_rfl)) (fun _ _ _ h => h) (Or.inl ⟨by rfl, ?_⟩) ?_ ?_
                                  rotate_left
                                  · intro w'
                                    go_simp
                                    with_reducible rfl
                                  rotate_left
                                  · simp only [Act.put, List.setIfInBounds_toArray, List.set_cons_zero, List.set_cons_succ, i64_w, i32_w]
                                    rfl
                                  refine pure_ (i := 1) (N := some 49) (v := ?_) (a' := ?_) #[true, true, false, false, false, false, false, false, false, false, false, false, false, false] rfl rfl (any_of HT_.out (by kernel_rfl)) (fun _ _ _ h => h) (Or.inl ⟨by rfl, ?_⟩) ?_ ?_
                                  rotate_left
                                  · intro w'
                                    go_simp
                                    with_reducible rfl
                                  rotate_left
                                  · simp only [Act.put, List.setIfInBounds_toArray, List.set_cons_zero, List.set_cons_succ, i64_w, i32_w]
                                    rfl
                                  refine pure_ (i := 6) (N := some 54) (v := ?_) (a' := ?_) #[true, true, false, false, false, false, true, false, false, false, false, false, false, false] rfl rfl (any_of HT_.out (by kernel_rfl)) (fun _ _ _ h => h) (Or.inl ⟨by rfl, ?_⟩) ?_ ?_
                                  rotate_left
                                  · intro w'
                                    go_simp
                                    with_reducible rfl
                                  rotate_left
                                  · simp only [Act.put, List.setIfInBounds_toArray, List.set_cons_zero, List.set_cons_succ, i64_w, i32_w]
                                    rfl
                                  refine take_ (i := 2) (N := some 50) (v := ?_) (a' := ?_) #[true, true, true, false, false, false, true, false, false, false, false, false, false, false] rfl rfl (take_ofW HT_.out HW_.out (by kernel_rfl)) (fun _ _ _ h => h) (Or.inl ⟨by rfl, ?_⟩) hHeld ?_ ?_
                                  rotate_left
                                  · rintro w' ⟨s0, s1, s2, s3, s4⟩
                                    go_simp
                                    with_reducible rfl
                                  rotate_left
                                  · simp only [Act.put, List.setIfInBounds_toArray, List.set_cons_zero, List.set_cons_succ, i64_w, i32_w]
                                    rfl
                                  refine pure_ (i := 3) (N := some 51) (v := ?_) (a' := ?_) #[true, true, true, true, false, false, true, false, false, false, false, false, false, false] rfl rfl (any_of HT_.out (by kernel_rfl)) (fun _ _ _ h => h) (Or.inl ⟨by rfl, ?_⟩) ?_ ?_
                                  rotate_left
                                  · intro w'
                                    go_simp
                                    with_reducible rfl
                                  rotate_left
                                  · simp only [Act.put, List.setIfInBounds_toArray, List.set_cons_zero, List.set_cons_succ, i64_w, i32_w]
                                    rfl
                                  refine pure_ (i := 4) (N := some 52) (v := ?_) (a' := ?_) #[true, true, true, true, true, false, true, false, false, false, false, false, false, false] rfl rfl (any_of HT_.out (by kernel_rfl)) (fun _ _ _ h => h) (Or.inl ⟨by rfl, ?_⟩) ?_ ?_
                                  rotate_left
                                  · intro w'
                                    go_simp
                                    with_reducible rfl
                                  rotate_left
                                  · simp only [Act.put, List.setIfInBounds_toArray, List.set_cons_zero, List.set_cons_succ, i64_w, i32_w]
                                    rfl
                                  refine take_ (i := 5) (N := some 53) (v := ?_) (a' := ?_) #[true, true, true, true, true, true, true, false, false, false, false, false, false, false] rfl rfl (take_ofW HT_.out HW_.out (by kernel_rfl)) (fun _ _ _ h => h) (Or.inl ⟨by rfl, ?_⟩) hHeld ?_ ?_
                                  rotate_left
                                  · rintro w' ⟨s0, s1, s2, s3, s4⟩
                                    go_simp
                                    with_reducible rfl
                                  rotate_left
                                  · simp only [Act.put, List.setIfInBounds_toArray, List.set_cons_zero, List.set_cons_succ, i64_w, i32_w]
                                    rfl
                                  refine take_ (i := 7) (N := some 55) (v := ?_) (a' := ?_) #[true, true, true, true, true, true, true, true, false, false, false, false, false, false] rfl rfl (take_ofW HT_.out HW_.out (by kernel_rfl)) (fun _ _ _ h => h) (Or.inl ⟨by rfl, ?_⟩) hHeld ?_ ?_
                                  rotate_left
                                  · rintro w' ⟨s0, s1, s2, s3, s4⟩
                                    go_simp
                                    with_reducible rfl
                                  rotate_left
                                  · simp only [Act.put, List.setIfInBounds_toArray, List.set_cons_zero, List.set_cons_succ, i64_w, i32_w]
                                    rfl
                                  refine pure_ (i := 8) (N := some 56) (v := ?_) (a' := ?_) #[true, true, true, true, true, true, true, true, true, false, false, false, false, false] rfl rfl (any_of HT_.out (by kernel_rfl)) (fun _ _ _ h => h) (Or.inl ⟨by rfl, ?_⟩) ?_ ?_
                                  rotate_left
                                  · intro w'
                                    go_simp
                                    with_reducible rfl
                                  rotate_left
                                  · simp only [Act.put, List.setIfInBounds_toArray, List.set_cons_zero, List.set_cons_succ, i64_w, i32_w]
                                    rfl
                                  refine pure_ (i := 9) (N := some 57) (v := ?_) (a' := ?_) #[true, true, true, true, true, true, true, true, true, true, false, false, false, false] rfl rfl (any_of HT_.out (by kernel_rfl)) (fun _ _ _ h => h) (Or.inl ⟨by rfl, ?_⟩) ?_ ?_
                                  rotate_left
                                  · intro w'
                                    go_simp
                                    with_reducible rfl
                                  rotate_left
                                  · simp only [Act.put, List.setIfInBounds_toArray, List.set_cons_zero, List.set_cons_succ, i64_w, i32_w]
                                    rfl
                                  refine take_ (i := 10) (N := some 58) (v := ?_) (a' := ?_) #[true, true, true, true, true, true, true, true, true, true, true, false, false, false] rfl rfl (take_ofW HT_.out HW_.out (by kernel_rfl)) (fun _ _ _ h => h) (Or.inl ⟨by rfl, ?_⟩) hHeld ?_ ?_
                                  rotate_left
                                  · rintro w' ⟨s0, s1, s2, s3, s4⟩
                                    go_simp
                                    with_reducible rfl
                                  rotate_left
                                  · simp only [Act.put, List.setIfInBounds_toArray, List.set_cons_zero, List.set_cons_succ, i64_w, i32_w]
                                    rfl
                                  refine pure_ (i := 11) (N := some 59) (v := ?_) (a' := ?_) #[true, true, true, true, true, true, true, true, true, true, true, true, false, false] rfl rfl (any_of HT_.out (by kernel_rfl)) (fun _ _ _ h => h) (Or.inl ⟨by rfl, ?_⟩) ?_ ?_
                                  rotate_left
                                  · intro w'
                                    go_simp
                                    with_reducible rfl
                                  rotate_left
                                  · simp only [Act.put, List.setIfInBounds_toArray, List.set_cons_zero, List.set_cons_succ, i64_w, i32_w]
                                    rfl
                                  refine pure_ (i := 12) (N := some 60) (v := ?_) (a' := ?_) #[true, true, true, true, true, true, true, true, true, true, true, true, true, false] rfl rfl (any_of HT_.out (by kernel_rfl)) (fun _ _ _ h => h) (Or.inl ⟨by rfl, ?_⟩) ?_ ?_
                                  rotate_left
                                  · intro w'
                                    go_simp
                                    with_reducible rfl
                                  rotate_left
                                  · simp only [Act.put, List.setIfInBounds_toArray, List.set_cons_zero, List.set_cons_succ, i64_w, i32_w]
                                    rfl
                                  refine last_ (i := 13) (N := none) #[true, true, true, true, true, true, true, true, true, true, true, true, true, true] rfl rfl (one_of HT_.out (by kernel_rfl)) (by decide) (fun K hK => ?_)
                                  refine skip_ (w1 := ?_) (by rfl) rfl ?_ ?_
                                  rotate_left
                                  · go_simp
                                    rfl
                                  refine hK.out _ _ ?_
                                  clear hK K
                                  refine done_ (done_of HT_.out (by kernel_rfl)) ?_
                                  have n0_ : Aside0 (Kd.S (Kd.slice 3 (Kd.int .i64)) 28 (w55.setCell ⟨go31, ((ji27) : Int).toNat, none⟩ (.int .i64 (wrap64 ((rd (rd_L12 x8_2 (ji27)) (ji27)) + 1)))) w.heap.size (fun _ => True) (.slice (some ad129) x8_2.length co11) y133) := ⟨by (with_reducible repeat (first | apply Kd.S_alloc | apply Kd.S_drewN | apply Kd.S_drew)); exact HQ56.out⟩
                                  have n1_ : Aside0 ((w55.setCell ⟨go31, ((ji27) : Int).toNat, none⟩ (.int .i64 (wrap64 ((rd (rd_L12 x8_2 (ji27)) (ji27)) + 1)))).heap[gb118]? = some (.cells #[.int .i64 a0, .slice (some ad127) l1.length c1, .map mr118] 70 (0, 0))) := ⟨by (with_reducible repeat (first | refine blk_drewN ?_ _ | refine blk_drew ?_ | refine blk_alloc ?_ _)); refine blk_far ?_ (by have h_ := Kd.R_ne HL129_0.out BK118.out (by decide); intro e_; exact h_ (by rw [e_]; rfl)) _; (with_reducible repeat (first | refine blk_drewN ?_ _ | refine blk_drew ?_ | refine blk_alloc ?_ _)); exact BK118.out⟩
                                  have n2_ : Aside0 ((w55.setCell ⟨go31, ((ji27) : Int).toNat, none⟩ (.int .i64 (wrap64 ((rd (rd_L12 x8_2 (ji27)) (ji27)) + 1)))).heap[gb128]? = some (.cells #[.int .i64 ((rd_T30 l1 x41_2).f0), .int .i64 ((rd_T30 l1 x41_2).f1), .int .i64 ((rd_T30 l1 x41_2).f2)] 30 (0, 0))) := ⟨by (with_reducible repeat (first | refine blk_drewN ?_ _ | refine blk_drew ?_ | refine blk_alloc ?_ _)); refine blk_far ?_ (by have h_ := Kd.R_ne HL129_0.out BK128.out (by decide); intro e_; exact h_ (by rw [e_]; rfl)) _; (with_reducible repeat (first | refine blk_drewN ?_ _ | refine blk_drew ?_ | refine blk_alloc ?_ _)); exact BK128.out⟩
                                  have n3_ : Aside0 (Below w.heap.size w (w55.setCell ⟨go31, ((ji27) : Int).toNat, none⟩ (.int .i64 (wrap64 ((rd (rd_L12 x8_2 (ji27)) (ji27)) + 1))))) := ⟨by repeat (first | (with_reducible first | exact HB.out | apply below_alloc | apply pw_below_drewN | apply below_drew1 | refine below_set ?_ GB31.out | refine below_set ?_ GE118.out | refine below_set ?_ GE128.out) | exact HB.out)⟩
                                  (try clear HO_8)
                                  (try clear BK118)
                                  (try clear BK128)
                                  (try clear HB)
                                  generalize (w55.setCell ⟨go31, ((ji27) : Int).toNat, none⟩ (.int .i64 (wrap64 ((rd (rd_L12 x8_2 (ji27)) (ji27)) + 1)))) = w58 at n0_ n1_ n2_ n3_ ⊢
                                  have HO_8 := n0_
                                  have BK118 := n1_
                                  have BK128 := n2_
                                  have HB := n3_
                                  clear n0_ n1_ n2_ n3_
                                  have hcz59_0 : w58.cell? ⟨gb128, 0, none⟩ = some (.int .i64 ((rd_T30 l1 x41_2).f0)) := (blk_cell BK128.out 0).trans rfl
                                  have hcz59_1 : w58.cell? ⟨gb128, 1, none⟩ = some (.int .i64 ((rd_T30 l1 x41_2).f1)) := (blk_cell BK128.out 1).trans rfl
                                  have hcz59_2 : w58.cell? ⟨gb128, 2, none⟩ = some (.int .i64 ((rd_T30 l1 x41_2).f2)) := (blk_cell BK128.out 2).trans rfl
                                  have hfz59_0 := blk_frozen BK128.out 0
                                  have hfz59_1 := blk_frozen BK128.out 1
                                  have hfz59_2 := blk_frozen BK128.out 2
                                  try go_wp2
                                  (try simp only [← hl8_2])
                                  go_roundg k2
                                  case measure => have := HK1.out; have := HK2.out; omega
                                  case rel => exact ⟨(y133), (wrap64 (x41_2 + 1)), (by first | rfl | (simp; done) | (simp [*]; done)), H', ⟨by have := HK1.out; have := HK2.out; omega⟩, ⟨by (try simp only [hl8_1]); (try simp only [hl8_2]); (with_reducible repeat (first | apply Kd.S_alloc | apply Kd.S_drewN | apply Kd.S_drew)); exact HO_8.out⟩, ⟨by (try simp only [hl8_1]); (try simp only [hl8_2]); (with_reducible repeat (first | refine blk_drewN ?_ _ | refine blk_drew ?_ | refine blk_alloc ?_ _)); exact BK118.out⟩, ⟨by repeat (first | (with_reducible first | exact HB.out | apply below_alloc | apply pw_below_drewN | apply below_drew1 | refine below_set ?_ GE118.out | refine below_set ?_ GE128.out) | exact HB.out)⟩⟩
                              · rw [if_neg c30] at H
                                exact absurd H (by simp)
                            · rw [if_neg c29] at H
                              exact absurd H (by simp)
                          · rw [if_neg c28] at H
                            exact absurd H (by simp)
                        · rw [if_neg c26] at H
                          have c26b0 : decide (0 < ((rd_T30 l1 x41_2).f1)) = false := decide_eq_false c26
                          clear c26
                          have H' := Aside0.mk H
                          clear H
                          have p127 : 0 ≤ (x41_2 : Int) := of_decide_eq_true (by first | (with_reducible assumption) | assumption)
                          have q127 : x41_2 < (l1.length : Int) := of_decide_eq_true (by first | (with_reducible assumption) | assumption)
                          obtain ⟨ad127, e127, hx127_0, hx127_1, hx127_2⟩ := at_T30 HR1.out x41_2 p127 q127
                          cases e127
                          replace hx127_0 := (HB.out.cell (World.block_lt_of_cell? w _ hx127_0)).trans hx127_0
                          replace hx127_1 := (HB.out.cell (World.block_lt_of_cell? w _ hx127_1)).trans hx127_1
                          replace hx127_2 := (HB.out.cell (World.block_lt_of_cell? w _ hx127_2)).trans hx127_2
                          replace p127 := eq_true p127
                          replace q127 := eq_true q127
                          go_wp2_with (first | ((with_reducible refine gate_dst (N := 11) rfl ?_); refine box_event ?hg (N := 11) ?hd (cs := #[.int .i64 0, .int .i64 0, .int .i64 0]) (t := 30) ?hr ?_; (case hd => rfl); (case hg => rfl); (case hr => first | (go_simp; done) | (go_simp; rfl)); intro gb128 hg w60 hbox hb; have n0_ := Aside0.mk (Kd.S_below (by (with_reducible repeat (first | apply Kd.S_alloc | apply Kd.S_drewN | apply Kd.S_drew)); exact HO_8.out) hb); have n1_ := Aside0.mk (blk_below (g := gb118) (o := .cells #[.int .i64 a0, .slice (some ad127) l1.length c1, .map mr118] 70 (0, 0)) (by (with_reducible repeat (first | refine blk_drewN ?_ _ | refine blk_drew ?_ | refine blk_alloc ?_ _)); exact BK118.out) hb); have n2_ := Aside0.mk (below_step (by repeat (first | (with_reducible first | exact HB.out | apply below_alloc | apply pw_below_drewN | apply below_drew1 | refine below_set ?_ GE118.out) | exact HB.out)) hb); have n3_ := Aside0.mk (hbox); have n4_ := Aside0.mk ((by rw [hg]; exact (below_size (by repeat (first | (with_reducible first | exact HB.out | apply below_alloc | apply pw_below_drewN | apply below_drew1 | refine below_set ?_ GE118.out) | exact HB.out))) : w.heap.size ≤ gb128)); have n5_ := Aside0.mk ((by rw [hg]; exact (below_size (by repeat (first | (with_reducible first | exact HB.out | apply below_alloc | apply pw_below_drewN | apply below_drew1 | refine below_set ?_ GE118.out) | exact HB.out))) : w.heap.size ≤ gb128)); have n6_ := Aside0.mk ((by rw [hg]; exact Nat.ne_of_lt (blk_lt (g := gb118) (o := .cells #[.int .i64 a0, .slice (some ad127) l1.length c1, .map mr118] 70 (0, 0)) (by (with_reducible repeat (first | refine blk_drewN ?_ _ | refine blk_drew ?_ | refine blk_alloc ?_ _)); exact BK118.out)) : gb118 ≠ gb128)); have n7_ := Aside0.mk ((by rw [hg]; exact Nat.ne_of_gt (blk_lt (g := gb118) (o := .cells #[.int .i64 a0, .slice (some ad127) l1.length c1, .map mr118] 70 (0, 0)) (by (with_reducible repeat (first | refine blk_drewN ?_ _ | refine blk_drew ?_ | refine blk_alloc ?_ _)); exact BK118.out)) : gb128 ≠ gb118)); clear HO_8; clear BK118; clear HB; have HO_8 := n0_; have BK118 := n1_; have HB := n2_; have BK128 := n3_; have GW128 := n4_; have GE128 := n5_; have NB118_128 := n6_; have NB128_118 := n7_; clear n0_ n1_ n2_ n3_ n4_ n5_ n6_ n7_; clear hb hbox hg; have hnb61 := NB128_118.out; have hnc61 := NB118_128.out; have hcz62_0 : w60.cell? ⟨gb128, 0, none⟩ = some (.int .i64 0) := (blk_cell BK128.out 0).trans rfl; have hcz62_1 : w60.cell? ⟨gb128, 1, none⟩ = some (.int .i64 0) := (blk_cell BK128.out 1).trans rfl; have hcz62_2 : w60.cell? ⟨gb128, 2, none⟩ = some (.int .i64 0) := (blk_cell BK128.out 2).trans rfl; have hfz62_0 := blk_frozen BK128.out 0; have hfz62_1 := blk_frozen BK128.out 1; have hfz62_2 := blk_frozen BK128.out 2))
                          (try simp only [← hl8_2])
                          go_roundg k2
                          case measure => have := HK1.out; have := HK2.out; omega
                          case rel => exact ⟨(x8_2), (wrap64 (x41_2 + 1)), (by first | rfl | (simp; done) | (simp [*]; done)), H', ⟨by have := HK1.out; have := HK2.out; omega⟩, ⟨by (try simp only [hl8_1]); (try simp only [hl8_2]); (with_reducible repeat (first | apply Kd.S_alloc | apply Kd.S_drewN | apply Kd.S_drew)); exact Kd.S_mono (Kd.S_far (p := ⟨gb128, 2, none⟩) (Kd.S_far (p := ⟨gb128, 1, none⟩) (Kd.S_far (p := ⟨gb128, 0, none⟩) (Kd.S_types HO_8.out BK128.out (by decide)) (fun _ hk => hk.2) (.int .i64 ((rd_T30 l1 x41_2).f0))) (fun _ hk => hk.2) (.int .i64 ((rd_T30 l1 x41_2).f1))) (fun _ hk => hk.2) (.int .i64 ((rd_T30 l1 x41_2).f2))) (fun _ hk => trivial)⟩, ⟨by (try simp only [hl8_1]); (try simp only [hl8_2]); (with_reducible repeat (first | refine blk_drewN ?_ _ | refine blk_drew ?_ | refine blk_alloc ?_ _)); refine blk_far ?_ NB118_128.out _; (with_reducible repeat (first | refine blk_drewN ?_ _ | refine blk_drew ?_ | refine blk_alloc ?_ _)); refine blk_far ?_ NB118_128.out _; (with_reducible repeat (first | refine blk_drewN ?_ _ | refine blk_drew ?_ | refine blk_alloc ?_ _)); refine blk_far ?_ NB118_128.out _; (with_reducible repeat (first | refine blk_drewN ?_ _ | refine blk_drew ?_ | refine blk_alloc ?_ _)); exact BK118.out⟩, ⟨by repeat (first | (with_reducible first | exact HB.out | apply below_alloc | apply pw_below_drewN | apply below_drew1 | refine below_set ?_ GE118.out | refine below_set ?_ GE128.out) | exact HB.out)⟩⟩
                      · rw [if_neg c25] at H
                        exact absurd H (by simp)
                    · rw [if_neg c24] at H
                      exact absurd H (by simp)
                  · rw [if_neg c23] at H
                    have c23b0 : decide (x41_2 < (l1.length : Int)) = false := decide_eq_false c23
                    (try (have c23b0l := c23b0; simp only [hl8_1] at c23b0l))
                    (try (have c23b0l := c23b0; simp only [hl8_2] at c23b0l))
                    clear c23
                    replace H := Option.bind_eq_some_iff.mp H
                    obtain ⟨t126, A630, H⟩ := H
                    replace H : (some (t126, 0)) = some (r1, r2) := H
                    have A63 := Aside0.mk A630
                    clear A630
                    simp only [Option.some.injEq, Prod.mk.injEq] at H
                    obtain ⟨rfl, rfl⟩ := H
                    go_wp2_with (first | ((with_reducible refine gate_callee (f := 45) rfl ?_); refine goesL_ (some 79) rfl rfl Try.func45 (by kernel_rfl) rfl #[.slice Ao11 x8_2.length co11] rfl (by (try simp only [List.map_toArray, List.map_cons, List.map_nil]); first | done | rfl | (simp only [List.length_drop, List.length_take]; rfl)) ?_; (with_reducible refine (branch_determinant.calls k2 _ _ x8_2 t126 _ ?side1 ?side2 A63.out).mono ?_); (case side1 => repeat (first | exact (Kd.S_reads' HO_8.out).2.2 | (with_reducible refine Kd.C_alloc ?_ _) | (with_reducible refine Kd.C_drewN ?_ _) | (with_reducible refine Kd.C_drew ?_))); (case side2 => exact (Kd.S_reads' HO_8.out).2.1); rintro e w64 ⟨rfl, hb⟩; refine ⟨_, rfl, ?_⟩; have n0_ := Aside0.mk (Kd.S_below (by (with_reducible repeat (first | apply Kd.S_alloc | apply Kd.S_drewN | apply Kd.S_drew)); exact HO_8.out) hb); have n1_ := Aside0.mk (blk_below (g := gb118) (o := .cells #[.int .i64 a0, .slice A1 l1.length c1, .map mr118] 70 (0, 0)) (by (with_reducible repeat (first | refine blk_drewN ?_ _ | refine blk_drew ?_ | refine blk_alloc ?_ _)); exact BK118.out) hb); have n2_ := Aside0.mk (below_step (by repeat (first | (with_reducible first | exact HB.out | apply below_alloc | apply pw_below_drewN | apply below_drew1 | refine below_set ?_ GE118.out) | exact HB.out)) hb); clear HO_8; clear BK118; clear HB; have HO_8 := n0_; have BK118 := n1_; have HB := n2_; clear n0_ n1_ n2_; (try clear hb); (try clear hb2); (try clear hk); (try clear hi)))
                    go_ret2
                    exact ⟨by first | rfl | (simp [errW_none, errW_some] <;> rfl) | (simp only [← hji5]; first | rfl | (simp [errW_none, errW_some] <;> rfl)) | (simp [*, errW_none, errW_some] <;> rfl), by repeat (first | (with_reducible first | exact HB.out | apply below_alloc | apply pw_below_drewN | apply below_drew1 | refine below_set ?_ GE118.out) | exact HB.out)⟩
      · rw [if_neg c7] at H
        exact absurd H (by simp)
    · rw [if_neg c6] at H
      exact absurd H (by simp)
  · rw [if_neg c4] at H
    have c4b0 : (t117 == 0) = false := beq_eq_false_iff_ne.mpr c4
    have c4b1 : (t117 != 0) = true := bne_iff_ne.mpr c4
    simp only [Option.some.injEq, Prod.mk.injEq] at H
    obtain ⟨rfl, rfl⟩ := H
    go_enter Try.func18, Try.ntmps18
    go_wp2_with (first | (go_at_call 44; (with_reducible refine (branch_read.calls_err a0 A1 c1 l1 t117 _ ?side1 ?side2 A3.out (by first | (with_reducible assumption) | assumption)).mono ?_); (case side1 => repeat (first | exact HR1.out | (with_reducible refine Kd.C_alloc ?_ _) | (with_reducible refine Kd.C_drewN ?_ _) | (with_reducible refine Kd.C_drew ?_))); (case side2 => exact HC1.out); rintro e w65 ⟨rfl, hb⟩; have n0_ := Aside0.mk (below_step (by repeat (first | (with_reducible first | exact HB.out | apply below_alloc | apply pw_below_drewN | apply below_drew1) | exact HB.out)) hb); clear HB; have HB := n0_; clear n0_; (try clear hb)))
    go_ret2
    exact ⟨by first | rfl | (simp [errW_none, errW_some] <;> rfl) | (simp [*, errW_none, errW_some] <;> rfl), by repeat (first | (with_reducible first | exact HB.out | apply below_alloc | apply pw_below_drewN | apply below_drew1) | exact HB.out)⟩
end Go.Proofs.Ytpmadffgdfholaa.B
namespace Go.Proofs.Ytpmadffgdfholaa.B
open Go.RowKit Go.Proofs.YtpmadffgdfholaaW.PrintWords Go.Proofs.YtpmadffgdfholaaW.PrintLast Go.Proofs.YtpmadffgdfholaaW.PrintMore
attribute [local go_sem] max2_int min2_int max_two min_two max_three min_three max_four min_four   -- for this text's walks alone
set_option linter.unusedVariables false
set_option linter.unusedSimpArgs false
mutual
def branch_town_narrow.l0 : Nat → (Int → Option Bool) → Int → Int → Int → Int → List (S30) → Option (Int × Int)
  | 0, _, _, _, _, _, _ => none
  | k + 1, x1, x6, x7, x8, x1000, x1001 => (branch_town_everybody.f x1000 x1001).bind fun t101 => (if x8 ≤ t101 then ((branch_town_entering.f k x1000 x1001 x8).bind fun t102 => (branch_town_narrow.l1 k x1 x6 x7 x8 0 t102 (t102.length : Int) 0 x1000 x1001)) else (some (x6, x7)))
def branch_town_narrow.l1 : Nat → (Int → Option Bool) → Int → Int → Int → Int → List Int → Int → Int → Int → List (S30) → Option (Int × Int)
  | 0, _, _, _, _, _, _, _, _, _, _ => none
  | k + 1, x1, x6, x7, x8, x9, x20, x21, x22, x1000, x1001 => if x22 < x21 then (if 0 ≤ x22 then (if x22 < (x20.length : Int) then ((x1 (rd x20 x22)).bind fun t106 => (if t106 = true then (branch_town_narrow.l1 k x1 x6 x7 x8 x9 x20 x21 (wrap64 (x22 + 1)) x1000 x1001) else (branch_town_narrow.l1 k x1 x6 x7 x8 (wrap64 (x9 + 1)) x20 x21 (wrap64 (x22 + 1)) x1000 x1001))) else (none)) else (none)) else (if x6 < 0 then (branch_town_narrow.l0 k x1 x9 x8 (wrap64 (x8 + 2)) x1000 x1001) else (if x9 < x6 then (branch_town_narrow.l0 k x1 x9 x8 (wrap64 (x8 + 2)) x1000 x1001) else (branch_town_narrow.l0 k x1 x6 x7 (wrap64 (x8 + 2)) x1000 x1001)))
end
def branch_town_narrow.f (k : Nat) (a0_0 : Int) (l0_1 : List (S30)) (a1 : (Int → Option Bool)) : Option (Int × Int) := branch_town_narrow.l0 k a1 (-1) 0 2 a0_0 l0_1
theorem branch_town_narrow.mono_l : ∀ k, (∀ y0 y1 y2 y3 y4 y5, LeO (branch_town_narrow.l0 k y0 y1 y2 y3 y4 y5) (branch_town_narrow.l0 (k + 1) y0 y1 y2 y3 y4 y5)) ∧ (∀ y0 y1 y2 y3 y4 y5 y6 y7 y8 y9, LeO (branch_town_narrow.l1 k y0 y1 y2 y3 y4 y5 y6 y7 y8 y9) (branch_town_narrow.l1 (k + 1) y0 y1 y2 y3 y4 y5 y6 y7 y8 y9))
  | 0 => ⟨fun _ _ _ _ _ _ r h => by simp [branch_town_narrow.l0] at h, fun _ _ _ _ _ _ _ _ _ _ r h => by simp [branch_town_narrow.l1] at h⟩
  | k + 1 => by
    obtain ⟨ih0, ih1⟩ := branch_town_narrow.mono_l k
    refine ⟨?_, ?_⟩
    · intro y0 y1 y2 y3 y4 y5
      unfold branch_town_narrow.l0
      repeat' first
      | (with_reducible exact ih0 _ _ _ _ _ _)
      | (with_reducible exact ih1 _ _ _ _ _ _ _ _ _ _)
      | (with_reducible exact branch_town_entering.mono _ _ _ _)
      | (with_reducible exact LeO.refl _)
      | (with_reducible exact LeO.none _)
      | (with_reducible refine LeO.ite ?_ ?_)
      | (with_reducible refine LeO.bind ?_ (fun _ => ?_))
      | exact ih0 _ _ _ _ _ _
      | exact ih1 _ _ _ _ _ _ _ _ _ _
      | exact branch_town_entering.mono _ _ _ _
      | exact LeO.none _
      | refine LeO.ite ?_ ?_
      | refine LeO.bind ?_ (fun _ => ?_)
    · intro y0 y1 y2 y3 y4 y5 y6 y7 y8 y9
      unfold branch_town_narrow.l1
      repeat' first
      | (with_reducible exact ih0 _ _ _ _ _ _)
      | (with_reducible exact ih1 _ _ _ _ _ _ _ _ _ _)
      | (with_reducible exact branch_town_entering.mono _ _ _ _)
      | (with_reducible exact LeO.refl _)
      | (with_reducible exact LeO.none _)
      | (with_reducible refine LeO.ite ?_ ?_)
      | (with_reducible refine LeO.bind ?_ (fun _ => ?_))
      | exact ih0 _ _ _ _ _ _
      | exact ih1 _ _ _ _ _ _ _ _ _ _
      | exact branch_town_entering.mono _ _ _ _
      | exact LeO.none _
      | refine LeO.ite ?_ ?_
      | refine LeO.bind ?_ (fun _ => ?_)
theorem branch_town_narrow.mono : ∀ a0 a1 a2 k, LeO (branch_town_narrow.f k a0 a1 a2) (branch_town_narrow.f (k + 1) a0 a1 a2) := by
  intro a0 a1 a2 k
  obtain ⟨ih0, ih1⟩ := branch_town_narrow.mono_l k
  unfold branch_town_narrow.f
  repeat' first
      | (with_reducible exact ih0 _ _ _ _ _ _)
      | (with_reducible exact ih1 _ _ _ _ _ _ _ _ _ _)
      | (with_reducible exact branch_town_entering.mono _ _ _ _)
      | (with_reducible exact LeO.refl _)
      | (with_reducible exact LeO.none _)
      | (with_reducible refine LeO.ite ?_ ?_)
      | (with_reducible refine LeO.bind ?_ (fun _ => ?_))
      | exact ih0 _ _ _ _ _ _
      | exact ih1 _ _ _ _ _ _ _ _ _ _
      | exact branch_town_entering.mono _ _ _ _
      | exact LeO.none _
      | refine LeO.ite ?_ ?_
      | refine LeO.bind ?_ (fun _ => ?_)
set_option maxHeartbeats 8000000 in
set_option maxRecDepth 100000 in
theorem branch_town_narrow.calls (k : Nat) (g0 : Nat) (a0_0 : Int) (A0_1 : Option Addr) (c0_1 : Nat) (l0_1 : List (S30)) (a0_2 : Option Nat) (vf1 : Value) (a1 : (Int → Option Bool)) (r1 : Int) (r2 : Int) (w : World) (hP0 : w.heap[g0]? = some (.cells #[.int .i64 a0_0, .slice A0_1 l0_1.length c0_1, .map a0_2] 70 (0, 0))) (hr0_1 : Kd.C k30 w A0_1 l0_1.length l0_1) (hc0_1 : l0_1.length ≤ c0_1) (hF1 : IsLook Try.prog 92 w vf1 a1) (h : branch_town_narrow.f k a0_0 l0_1 a1 = some (r1, r2)) :
    Calls Try.prog 53 #[.pointer (some ⟨g0, 0, none⟩), vf1] w fun e w' => e = .returned (.tuple #[.int .i64 r1, .int .i64 r2]) ∧ Below w.heap.size w w' := by
  have HP0 := Aside0.mk hP0
  clear hP0
  have HR0_1 := Aside0.mk hr0_1
  have HC0_1 := Aside0.mk hc0_1
  clear hr0_1 hc0_1
  have HF1 := Aside0.mk hF1
  clear hF1
  have HB := Aside0.mk (Below.refl w.heap.size w)
  have H : (branch_town_narrow.l0 k a1 (-1) 0 2 a0_0 l0_1) = some (r1, r2) := h
  clear h
  have H' := Aside0.mk H
  clear H
  go_enter Try.func53, Try.ntmps53
  go_wp2
  go_loopg [6, 7, 8] k (fun kq v6 v7 v8 w' => ∃ (x6_1 : Int) (x7_1 : Int) (x8_1 : Int), v6 = .int .i64 x6_1 ∧ v7 = .int .i64 x7_1 ∧ v8 = .int .i64 x8_1 ∧ Aside0 (branch_town_narrow.l0 kq a1 x6_1 x7_1 x8_1 a0_0 l0_1 = some (r1, r2)) ∧ Aside0 (kq ≤ k) ∧ Aside0 (Below w.heap.size w w'))
  case atStart => exact ⟨((-1)), (0), (2), (by first | rfl | (simp; done) | (simp [*]; done)), (by first | rfl | (simp; done) | (simp [*]; done)), (by first | rfl | (simp; done) | (simp [*]; done)), H', ⟨Nat.le_refl _⟩, ⟨by repeat (first | (with_reducible first | exact HB.out | apply below_alloc | apply pw_below_drewN | apply below_drew1) | exact HB.out)⟩⟩
  case round =>
    clear H'
    try clear p2
    obtain ⟨x6_1, x7_1, x8_1, rfl, rfl, rfl, HA, HK1, HB⟩ := hrel
    cases gk with
    | zero => exact absurd HA.out (by simp [branch_town_narrow.l0])
    | succ k1 =>
      have H := HA.out
      clear HA
      simp only [branch_town_narrow.l0] at H
      replace H := Option.bind_eq_some_iff.mp H
      obtain ⟨t101, A30, H⟩ := H
      replace H : (if x8_1 ≤ t101 then ((branch_town_entering.f k1 a0_0 l0_1 x8_1).bind fun t102 => (branch_town_narrow.l1 k1 a1 x6_1 x7_1 x8_1 0 t102 (t102.length : Int) 0 a0_0 l0_1)) else (some (x6_1, x7_1))) = some (r1, r2) := H
      have A3 := Aside0.mk A30
      clear A30
      by_cases c4 : x8_1 ≤ t101
      · rw [if_pos c4] at H
        have c4b0 : decide (x8_1 ≤ t101) = true := decide_eq_true c4
        clear c4
        replace H := Option.bind_eq_some_iff.mp H
        obtain ⟨t102, A50, H⟩ := H
        replace H : (branch_town_narrow.l1 k1 a1 x6_1 x7_1 x8_1 0 t102 (t102.length : Int) 0 a0_0 l0_1) = some (r1, r2) := H
        have A5 := Aside0.mk A50
        clear A50
        have H' := Aside0.mk H
        clear H
        go_wp2_with (first | ((with_reducible refine gate_callee (f := 74) rfl ?_); refine goesL_ (some 14) rfl rfl Try.func74 (by kernel_rfl) rfl #[.pointer (some ⟨g0, 0, none⟩)] rfl (by (try simp only [List.map_toArray, List.map_cons, List.map_nil]); first | done | rfl | (simp only [List.length_drop, List.length_take]; rfl)) ?_; (with_reducible refine (branch_town_everybody.calls g0 a0_0 A0_1 c0_1 l0_1 a0_2 t101 _ ?side1 ?side2 ?side3 A3.out).mono ?_); (case side1 => exact ((show Below _ _ _ from by repeat (first | (with_reducible first | exact HB.out | apply below_alloc | apply pw_below_drewN | apply below_drew1) | exact HB.out)).block _ (blk_lt HP0.out)).trans HP0.out); (case side2 => repeat (first | exact (Kd.C_below HR0_1.out HB.out) | (with_reducible refine Kd.C_alloc ?_ _) | (with_reducible refine Kd.C_drewN ?_ _) | (with_reducible refine Kd.C_drew ?_))); (case side3 => exact HC0_1.out); rintro e w' ⟨rfl, ⟨nd, rfl⟩⟩; refine ⟨_, rfl, ?_⟩) | ((with_reducible refine gate_callee (f := 59) rfl ?_); refine goesL_ (some 20) rfl rfl Try.func59 (by kernel_rfl) rfl #[.pointer (some ⟨g0, 0, none⟩), .int .i64 x8_1] rfl (by (try simp only [List.map_toArray, List.map_cons, List.map_nil]); first | done | rfl | (simp only [List.length_drop, List.length_take]; rfl)) ?_; (with_reducible refine (branch_town_entering.calls k1 g0 a0_0 A0_1 c0_1 l0_1 a0_2 x8_1 t102 _ ?side1 ?side2 ?side3 A5.out).mono ?_); (case side1 => exact ((show Below _ _ _ from by repeat (first | (with_reducible first | exact HB.out | apply below_alloc | apply pw_below_drewN | apply below_drew1) | exact HB.out)).block _ (blk_lt HP0.out)).trans HP0.out); (case side2 => repeat (first | exact (Kd.C_below HR0_1.out (by repeat (first | (with_reducible first | exact HB.out | apply below_alloc | apply pw_below_drewN | apply below_drew1) | exact HB.out))) | (with_reducible refine Kd.C_alloc ?_ _) | (with_reducible refine Kd.C_drewN ?_ _) | (with_reducible refine Kd.C_drew ?_))); (case side3 => exact HC0_1.out); rintro e w6 ⟨v103, rfl, ho0, hb⟩; refine ⟨_, rfl, ?_⟩; have n0_ := Aside0.mk (Kd.R_lower ho0 (below_size (by repeat (first | (with_reducible first | exact HB.out | apply below_alloc | apply pw_below_drewN | apply below_drew1) | exact HB.out)))); have n1_ := Aside0.mk (below_step (by repeat (first | (with_reducible first | exact HB.out | apply below_alloc | apply pw_below_drewN | apply below_drew1) | exact HB.out)) hb); clear HB; have HO104 := n0_; have HB := n1_; clear n0_ n1_; (try clear hb); (try clear hb2); (try clear hk); (try clear hi); (try clear ho0); obtain ⟨Ao7, co7, eo7⟩ := Kd.R_slice HO104.out; subst eo7))
        go_loopg [9, 22] k1 (fun kq v9 v22 w' => ∃ (x9_2 : Int) (x22_2 : Int), v9 = .int .i64 x9_2 ∧ v22 = .int .i64 x22_2 ∧ Aside0 (branch_town_narrow.l1 kq a1 x6_1 x7_1 x8_1 x9_2 t102 (t102.length : Int) x22_2 a0_0 l0_1 = some (r1, r2)) ∧ Aside0 (kq ≤ k1) ∧ Aside0 (Kd.R (Kd.int .i64) 3 w' w.heap.size (fun _ => True) (.slice Ao7 t102.length co7) t102) ∧ Aside0 (Below w.heap.size w w'))
        case atStart => exact ⟨(0), (0), (by first | rfl | (simp; done) | (simp [*]; done)), (by first | rfl | (simp; done) | (simp [*]; done)), H', ⟨Nat.le_refl _⟩, ⟨by (with_reducible repeat (first | apply Kd.R_alloc | apply Kd.R_drewN | apply Kd.R_drew)); exact HO104.out⟩, ⟨by repeat (first | (with_reducible first | exact HB.out | apply below_alloc | apply pw_below_drewN | apply below_drew1) | exact HB.out)⟩⟩
        case round =>
          clear H'
          try clear p2
          try clear c4
          try clear c4b0
          try clear c5
          try clear c7
          try clear p2
          obtain ⟨x9_2, x22_2, rfl, rfl, HA, HK2, HO_20, HB⟩ := hrel
          cases gk with
          | zero => exact absurd HA.out (by simp [branch_town_narrow.l1])
          | succ k2 =>
            have H := HA.out
            clear HA
            simp only [branch_town_narrow.l1] at H
            by_cases c8 : x22_2 < (t102.length : Int)
            · rw [if_pos c8] at H
              have c8b0 : decide (x22_2 < (t102.length : Int)) = true := decide_eq_true c8
              clear c8
              by_cases c9 : 0 ≤ x22_2
              · rw [if_pos c9] at H
                have c9b0 : decide (0 ≤ x22_2) = true := decide_eq_true c9
                clear c9
                by_cases c10 : x22_2 < (t102.length : Int)
                · rw [if_pos c10] at H
                  have c10b0 : decide (x22_2 < (t102.length : Int)) = true := decide_eq_true c10
                  clear c10
                  replace H := Option.bind_eq_some_iff.mp H
                  obtain ⟨t106, A110, H⟩ := H
                  replace H : (if t106 = true then (branch_town_narrow.l1 k2 a1 x6_1 x7_1 x8_1 x9_2 t102 (t102.length : Int) (wrap64 (x22_2 + 1)) a0_0 l0_1) else (branch_town_narrow.l1 k2 a1 x6_1 x7_1 x8_1 (wrap64 (x9_2 + 1)) t102 (t102.length : Int) (wrap64 (x22_2 + 1)) a0_0 l0_1)) = some (r1, r2) := H
                  have A11 := Aside0.mk A110
                  clear A110
                  by_cases c12 : t106 = true
                  · subst c12
                    have H1 : (branch_town_narrow.l1 k2 a1 x6_1 x7_1 x8_1 x9_2 t102 (t102.length : Int) (wrap64 (x22_2 + 1)) a0_0 l0_1) = some (r1, r2) := by rw [if_pos rfl] at H; exact H
                    clear H
                    have H := H1
                    clear H1
                    have H' := Aside0.mk H
                    clear H
                    have p105 : 0 ≤ (x22_2 : Int) := of_decide_eq_true (by first | (with_reducible assumption) | assumption)
                    have q105 : x22_2 < (t102.length : Int) := of_decide_eq_true (by first | (with_reducible assumption) | assumption)
                    obtain ⟨ad105, e105, hx105_0⟩ := Kd.at_int (Kd.R_reads' HO_20.out).2.2 x22_2 p105 q105
                    cases e105
                    replace p105 := eq_true p105
                    replace q105 := eq_true q105
                    go_wp2_with (first | ((with_reducible refine gate_dst (N := 28) rfl ?_); refine goesK_ (some 28) rfl rfl HF1.out rfl rfl (i := (rd t102 x22_2)) rfl ?sideB A11.out ?_; (case sideB => exact by repeat (first | (with_reducible first | exact HB.out | apply below_alloc | apply pw_below_drewN | apply below_drew1) | exact HB.out)); intro w13 hb; have n0_ := Aside0.mk (Kd.R_below (by (with_reducible repeat (first | apply Kd.R_alloc | apply Kd.R_drewN | apply Kd.R_drew)); exact HO_20.out) hb); have n1_ := Aside0.mk (below_step (by repeat (first | (with_reducible first | exact HB.out | apply below_alloc | apply pw_below_drewN | apply below_drew1) | exact HB.out)) hb); clear HO_20; clear HB; have HO_20 := n0_; have HB := n1_; clear n0_ n1_; (try clear hb); (try clear hb2); (try clear hk); (try clear hi)))
                    go_roundg k2
                    case measure => have := HK1.out; have := HK2.out; omega
                    case rel => exact ⟨(x9_2), (wrap64 (x22_2 + 1)), (by first | rfl | (simp; done) | (simp [*]; done)), (by first | rfl | (simp; done) | (simp [*]; done)), H', ⟨by have := HK1.out; have := HK2.out; omega⟩, ⟨by (with_reducible repeat (first | apply Kd.R_alloc | apply Kd.R_drewN | apply Kd.R_drew)); exact HO_20.out⟩, ⟨by repeat (first | (with_reducible first | exact HB.out | apply below_alloc | apply pw_below_drewN | apply below_drew1) | exact HB.out)⟩⟩
                  · replace c12 := Bool.eq_false_iff.mpr c12
                    subst c12
                    have H1 : (branch_town_narrow.l1 k2 a1 x6_1 x7_1 x8_1 (wrap64 (x9_2 + 1)) t102 (t102.length : Int) (wrap64 (x22_2 + 1)) a0_0 l0_1) = some (r1, r2) := by rw [if_neg (show ¬ (false = true) by decide)] at H; exact H
                    clear H
                    have H := H1
                    clear H1
                    have H' := Aside0.mk H
                    clear H
                    have p105 : 0 ≤ (x22_2 : Int) := of_decide_eq_true (by first | (with_reducible assumption) | assumption)
                    have q105 : x22_2 < (t102.length : Int) := of_decide_eq_true (by first | (with_reducible assumption) | assumption)
                    obtain ⟨ad105, e105, hx105_0⟩ := Kd.at_int (Kd.R_reads' HO_20.out).2.2 x22_2 p105 q105
                    cases e105
                    replace p105 := eq_true p105
                    replace q105 := eq_true q105
                    go_wp2_with (first | ((with_reducible refine gate_dst (N := 28) rfl ?_); refine goesK_ (some 28) rfl rfl HF1.out rfl rfl (i := (rd t102 x22_2)) rfl ?sideB A11.out ?_; (case sideB => exact by repeat (first | (with_reducible first | exact HB.out | apply below_alloc | apply pw_below_drewN | apply below_drew1) | exact HB.out)); intro w14 hb; have n0_ := Aside0.mk (Kd.R_below (by (with_reducible repeat (first | apply Kd.R_alloc | apply Kd.R_drewN | apply Kd.R_drew)); exact HO_20.out) hb); have n1_ := Aside0.mk (below_step (by repeat (first | (with_reducible first | exact HB.out | apply below_alloc | apply pw_below_drewN | apply below_drew1) | exact HB.out)) hb); clear HO_20; clear HB; have HO_20 := n0_; have HB := n1_; clear n0_ n1_; (try clear hb); (try clear hb2); (try clear hk); (try clear hi)))
                    go_roundg k2
                    case measure => have := HK1.out; have := HK2.out; omega
                    case rel => exact ⟨(wrap64 (x9_2 + 1)), (wrap64 (x22_2 + 1)), (by first | rfl | (simp; done) | (simp [*]; done)), (by first | rfl | (simp; done) | (simp [*]; done)), H', ⟨by have := HK1.out; have := HK2.out; omega⟩, ⟨by (with_reducible repeat (first | apply Kd.R_alloc | apply Kd.R_drewN | apply Kd.R_drew)); exact HO_20.out⟩, ⟨by repeat (first | (with_reducible first | exact HB.out | apply below_alloc | apply pw_below_drewN | apply below_drew1) | exact HB.out)⟩⟩
                · rw [if_neg c10] at H
                  exact absurd H (by simp)
              · rw [if_neg c9] at H
                exact absurd H (by simp)
            · rw [if_neg c8] at H
              have c8b0 : decide (x22_2 < (t102.length : Int)) = false := decide_eq_false c8
              clear c8
              by_cases c15 : x6_1 < 0
              · rw [if_pos c15] at H
                have c15b0 : decide (x6_1 < 0) = true := decide_eq_true c15
                clear c15
                have H' := Aside0.mk H
                clear H
                go_wp2
                go_roundg k2
                case measure => have := HK1.out; have := HK2.out; omega
                case rel => exact ⟨(x9_2), (x8_1), (wrap64 (x8_1 + 2)), (by first | rfl | (simp; done) | (simp [*]; done)), (by first | rfl | (simp; done) | (simp [*]; done)), (by first | rfl | (simp; done) | (simp [*]; done)), H', ⟨by have := HK1.out; have := HK2.out; omega⟩, ⟨by repeat (first | (with_reducible first | exact HB.out | apply below_alloc | apply pw_below_drewN | apply below_drew1) | exact HB.out)⟩⟩
              · rw [if_neg c15] at H
                have c15b0 : decide (x6_1 < 0) = false := decide_eq_false c15
                clear c15
                by_cases c16 : x9_2 < x6_1
                · rw [if_pos c16] at H
                  have c16b0 : decide (x9_2 < x6_1) = true := decide_eq_true c16
                  clear c16
                  have H' := Aside0.mk H
                  clear H
                  go_wp2
                  go_roundg k2
                  case measure => have := HK1.out; have := HK2.out; omega
                  case rel => exact ⟨(x9_2), (x8_1), (wrap64 (x8_1 + 2)), (by first | rfl | (simp; done) | (simp [*]; done)), (by first | rfl | (simp; done) | (simp [*]; done)), (by first | rfl | (simp; done) | (simp [*]; done)), H', ⟨by have := HK1.out; have := HK2.out; omega⟩, ⟨by repeat (first | (with_reducible first | exact HB.out | apply below_alloc | apply pw_below_drewN | apply below_drew1) | exact HB.out)⟩⟩
                · rw [if_neg c16] at H
                  have c16b0 : decide (x9_2 < x6_1) = false := decide_eq_false c16
                  clear c16
                  have H' := Aside0.mk H
                  clear H
                  go_wp2
                  go_roundg k2
                  case measure => have := HK1.out; have := HK2.out; omega
                  case rel => exact ⟨(x6_1), (x7_1), (wrap64 (x8_1 + 2)), (by first | rfl | (simp; done) | (simp [*]; done)), (by first | rfl | (simp; done) | (simp [*]; done)), (by first | rfl | (simp; done) | (simp [*]; done)), H', ⟨by have := HK1.out; have := HK2.out; omega⟩, ⟨by repeat (first | (with_reducible first | exact HB.out | apply below_alloc | apply pw_below_drewN | apply below_drew1) | exact HB.out)⟩⟩
      · rw [if_neg c4] at H
        have c4b0 : decide (x8_1 ≤ t101) = false := decide_eq_false c4
        clear c4
        simp only [Option.some.injEq, Prod.mk.injEq] at H
        obtain ⟨rfl, rfl⟩ := H
        go_wp2_with (first | ((with_reducible refine gate_callee (f := 74) rfl ?_); refine goesL_ (some 14) rfl rfl Try.func74 (by kernel_rfl) rfl #[.pointer (some ⟨g0, 0, none⟩)] rfl (by (try simp only [List.map_toArray, List.map_cons, List.map_nil]); first | done | rfl | (simp only [List.length_drop, List.length_take]; rfl)) ?_; (with_reducible refine (branch_town_everybody.calls g0 a0_0 A0_1 c0_1 l0_1 a0_2 t101 _ ?side1 ?side2 ?side3 A3.out).mono ?_); (case side1 => exact ((show Below _ _ _ from by repeat (first | (with_reducible first | exact HB.out | apply below_alloc | apply pw_below_drewN | apply below_drew1) | exact HB.out)).block _ (blk_lt HP0.out)).trans HP0.out); (case side2 => repeat (first | exact (Kd.C_below HR0_1.out HB.out) | (with_reducible refine Kd.C_alloc ?_ _) | (with_reducible refine Kd.C_drewN ?_ _) | (with_reducible refine Kd.C_drew ?_))); (case side3 => exact HC0_1.out); rintro e w' ⟨rfl, ⟨nd, rfl⟩⟩; refine ⟨_, rfl, ?_⟩))
        go_ret2
        exact ⟨by first | rfl | (simp [errW_none, errW_some] <;> rfl) | (simp [*, errW_none, errW_some] <;> rfl), by repeat (first | (with_reducible first | exact HB.out | apply below_alloc | apply pw_below_drewN | apply below_drew1) | exact HB.out)⟩
def branch_Narrow.f (k : Nat) (a0 : Int) (l1 : List (S30)) : Option (Int × Int × Int) := (branch_read.f a0 l1).bind fun t107 => (if t107 = 0 then ((branch_town_narrow.f k a0 l1 (fun _ => some false)).bind fun bt109 => (some (bt109.1, bt109.2, 0))) else (some (0, 0, t107)))
theorem branch_Narrow.mono : ∀ a0 a1 k, LeO (branch_Narrow.f k a0 a1) (branch_Narrow.f (k + 1) a0 a1) := by
  intro a0 a1 k
  unfold branch_Narrow.f
  repeat' first
      | (with_reducible exact branch_town_narrow.mono _ _ _ _)
      | (with_reducible exact LeO.refl _)
      | (with_reducible exact LeO.none _)
      | (with_reducible refine LeO.ite ?_ ?_)
      | (with_reducible refine LeO.bind ?_ (fun _ => ?_))
      | exact branch_town_narrow.mono _ _ _ _
      | exact LeO.none _
      | refine LeO.ite ?_ ?_
      | refine LeO.bind ?_ (fun _ => ?_)
set_option maxHeartbeats 8000000 in
set_option maxRecDepth 100000 in
theorem branch_Narrow.calls (k : Nat) (a0 : Int) (A1 : Option Addr) (c1 : Nat) (l1 : List (S30)) (r1 : Int) (r2 : Int) (r3 : Int) (w : World) (hr1 : Kd.C k30 w A1 l1.length l1) (hc1 : l1.length ≤ c1) (h : branch_Narrow.f k a0 l1 = some (r1, r2, r3)) :
    Calls Try.prog 30 #[.int .i64 a0, .slice A1 l1.length c1] w fun e w' => e = .returned (.tuple #[.int .i64 r1, .int .i64 r2, .int .i64 r3]) ∧ Below w.heap.size w w' := by
  have HR1 := Aside0.mk hr1
  have HC1 := Aside0.mk hc1
  clear hr1 hc1
  have HB := Aside0.mk (Below.refl w.heap.size w)
  have H : ((branch_read.f a0 l1).bind fun t107 => (if t107 = 0 then ((branch_town_narrow.f k a0 l1 (fun _ => some false)).bind fun bt109 => (some (bt109.1, bt109.2, 0))) else (some (0, 0, t107)))) = some (r1, r2, r3) := h
  clear h
  replace H := Option.bind_eq_some_iff.mp H
  obtain ⟨t107, A30, H⟩ := H
  replace H : (if t107 = 0 then ((branch_town_narrow.f k a0 l1 (fun _ => some false)).bind fun bt109 => (some (bt109.1, bt109.2, 0))) else (some (0, 0, t107))) = some (r1, r2, r3) := H
  have A3 := Aside0.mk A30
  clear A30
  by_cases c4 : t107 = 0
  · rw [if_pos c4] at H
    have c4b0 : (t107 == 0) = true := beq_iff_eq.mpr c4
    have c4b1 : (t107 != 0) = false := bne_eq_false_iff_eq.mpr c4
    clear c4
    replace H := Option.bind_eq_some_iff.mp H
    obtain ⟨⟨t109, t110⟩, A50, H⟩ := H
    replace H : (some (t109, t110, 0)) = some (r1, r2, r3) := H
    have A5 := Aside0.mk A50
    clear A50
    simp only [Option.some.injEq, Prod.mk.injEq] at H
    obtain ⟨rfl, rfl, rfl⟩ := H
    go_enter Try.func30, Try.ntmps30
    go_wp2_with (first | (go_at_call 44; (with_reducible refine (branch_read.calls_ok a0 A1 c1 l1 t107 _ ?side1 ?side2 A3.out (by first | (with_reducible assumption) | assumption)).mono ?_); (case side1 => repeat (first | exact HR1.out | (with_reducible refine Kd.C_alloc ?_ _) | (with_reducible refine Kd.C_drewN ?_ _) | (with_reducible refine Kd.C_drew ?_))); (case side2 => exact HC1.out); rintro e w6 ⟨gb108, mr108, rfl, hg, hbox, hb⟩; have n0_ := Aside0.mk (below_step (by repeat (first | (with_reducible first | exact HB.out | apply below_alloc | apply pw_below_drewN | apply below_drew1) | exact HB.out)) hb); have n1_ := Aside0.mk (hbox); have n2_ := Aside0.mk ((Nat.le_trans (below_size (by repeat (first | (with_reducible first | exact HB.out | apply below_alloc | apply pw_below_drewN | apply below_drew1) | exact HB.out))) hg : w.heap.size ≤ gb108)); have n3_ := Aside0.mk ((Nat.le_trans (below_size (by repeat (first | (with_reducible first | exact HB.out | apply below_alloc | apply pw_below_drewN | apply below_drew1) | exact HB.out))) hg : w.heap.size ≤ gb108)); clear HB; have HB := n0_; have BK108 := n1_; have GW108 := n2_; have GE108 := n3_; clear n0_ n1_ n2_ n3_; clear hb hbox hg) | ((with_reducible refine gate_callee (f := 53) rfl ?_); refine goesL_ (some 22) rfl rfl Try.func53 (by kernel_rfl) rfl #[.pointer (some ⟨gb108, 0, none⟩), (.map none)] rfl (by (try simp only [List.map_toArray, List.map_cons, List.map_nil]); first | done | rfl | (simp only [List.length_drop, List.length_take]; rfl)) ?_; (with_reducible refine (branch_town_narrow.calls k gb108 a0 A1 c1 l1 mr108 (.map none) (fun _ => some false) t109 t110 _ ?side1 ?side2 ?side3 ?side4 A5.out).mono ?_); (case side1 => exact by (with_reducible repeat (first | refine blk_drewN ?_ _ | refine blk_drew ?_ | refine blk_alloc ?_ _)); exact BK108.out); (case side2 => repeat (first | exact (Kd.C_below HR1.out HB.out) | (with_reducible refine Kd.C_alloc ?_ _) | (with_reducible refine Kd.C_drewN ?_ _) | (with_reducible refine Kd.C_drew ?_))); (case side3 => exact HC1.out); (case side4 => exact IsLook.nil rfl rfl (fun _ => by first | rfl | (go_simp; done)) _); rintro e w7 ⟨rfl, hb⟩; refine ⟨_, rfl, ?_⟩; have n0_ := Aside0.mk (blk_below (g := gb108) (o := .cells #[.int .i64 a0, .slice A1 l1.length c1, .map mr108] 70 (0, 0)) (by (with_reducible repeat (first | refine blk_drewN ?_ _ | refine blk_drew ?_ | refine blk_alloc ?_ _)); exact BK108.out) hb); have n1_ := Aside0.mk (below_step (by repeat (first | (with_reducible first | exact HB.out | apply below_alloc | apply pw_below_drewN | apply below_drew1 | refine below_set ?_ GE108.out) | exact HB.out)) hb); clear BK108; clear HB; have BK108 := n0_; have HB := n1_; clear n0_ n1_; (try clear hb); (try clear hb2); (try clear hk); (try clear hi)))
    go_ret3
    exact ⟨by first | rfl | (simp [errW_none, errW_some] <;> rfl) | (simp [*, errW_none, errW_some] <;> rfl), by repeat (first | (with_reducible first | exact HB.out | apply below_alloc | apply pw_below_drewN | apply below_drew1 | refine below_set ?_ GE108.out) | exact HB.out)⟩
  · rw [if_neg c4] at H
    have c4b0 : (t107 == 0) = false := beq_eq_false_iff_ne.mpr c4
    have c4b1 : (t107 != 0) = true := bne_iff_ne.mpr c4
    simp only [Option.some.injEq, Prod.mk.injEq] at H
    obtain ⟨rfl, rfl, rfl⟩ := H
    go_enter Try.func30, Try.ntmps30
    go_wp2_with (first | (go_at_call 44; (with_reducible refine (branch_read.calls_err a0 A1 c1 l1 t107 _ ?side1 ?side2 A3.out (by first | (with_reducible assumption) | assumption)).mono ?_); (case side1 => repeat (first | exact HR1.out | (with_reducible refine Kd.C_alloc ?_ _) | (with_reducible refine Kd.C_drewN ?_ _) | (with_reducible refine Kd.C_drew ?_))); (case side2 => exact HC1.out); rintro e w8 ⟨rfl, hb⟩; have n0_ := Aside0.mk (below_step (by repeat (first | (with_reducible first | exact HB.out | apply below_alloc | apply pw_below_drewN | apply below_drew1) | exact HB.out)) hb); clear HB; have HB := n0_; clear n0_; (try clear hb)))
    go_ret3
    exact ⟨by first | rfl | (simp [errW_none, errW_some] <;> rfl) | (simp [*, errW_none, errW_some] <;> rfl), by repeat (first | (with_reducible first | exact HB.out | apply below_alloc | apply pw_below_drewN | apply below_drew1) | exact HB.out)⟩
end Go.Proofs.Ytpmadffgdfholaa.B
namespace Go.Proofs.Ytpmadffgdfholaa.B
open Go.RowKit Go.MapKept Go.Proofs.YtpmadffgdfholaaW.PrintWords Go.Proofs.YtpmadffgdfholaaW.PrintLast Go.Proofs.YtpmadffgdfholaaW.PrintMore
set_option linter.unusedVariables false
set_option linter.unusedSimpArgs false
attribute [local go_sem ↓] Go.wp_at_zero Go.wp_at_succ
/-- What is left of the costs when a price is taken from the streets of a list; none inside: one of them has less. -/
def takeB : List Int → List Int → Int → Option (Option (List Int))
  | left, [], _ => some (some left)
  | left, i :: E, w => if 0 ≤ i ∧ i < (left.length : Int) then (if rd left i < w then some none else takeB (left.set i.toNat (wrap64 (rd left i - w))) E w) else none
/-- Price by price. -/
def provesL (k : Nat) (n : Int) (l : List S30) : List S41 → List Int → (Int → Bool) → Int → Option (Int × Bool × Int)
  | [], _, _, worth => some (worth, true, 0)
  | p :: ps, left, met, worth => (branch_town_isSet.f n l p.f0).bind fun b => if (!b || decide (p.f1 < 1) || decide (1000 < p.f1) || met p.f0) = true then some (0, false, 0) else
      (branch_town_entering.f k n l p.f0).bind fun E => if E.length < 17592186044416 then (takeB left E p.f1).bind fun o => match o with
        | none => some (0, false, 0)
        | some left' => provesL k n l ps left' (fun j => decide (j = p.f0) || met j) (wrap64 (worth + p.f1)) else none
def branch_Proves.f (k : Nat) (a0 : Int) (l1 : List S30) (l2 : List S41) : Option (Int × Bool × Int) :=
  if l2.length < 17592186044416 then if readB a0 l1 = 0 then (branch_town_costs.f k a0 l1).bind fun left => provesL k a0 l1 l2 left (fun _ => false) 0 else some (0, false, readB a0 l1) else none
theorem provesL_mono (k : Nat) (n : Int) (l : List S30) : ∀ ps left met worth, LeO (provesL k n l ps left met worth) (provesL (k + 1) n l ps left met worth)
  | [], _, _, _ => LeO.refl _
  | p :: ps, left, met, worth => by
    unfold provesL
    refine LeO.bind (LeO.refl _) fun b => ?_
    refine LeO.ite (LeO.refl _) ?_
    refine LeO.bind (branch_town_entering.mono _ _ _ k) fun E => ?_
    refine LeO.ite ?_ (LeO.refl _)
    refine LeO.bind (LeO.refl _) fun o => ?_
    cases o with
    | none => exact LeO.refl _
    | some left' => exact provesL_mono k n l ps left' _ _
theorem branch_Proves.mono : ∀ a0 a1 a2 k, LeO (branch_Proves.f k a0 a1 a2) (branch_Proves.f (k + 1) a0 a1 a2) := by
  intro a0 a1 a2 k
  unfold branch_Proves.f
  refine LeO.ite ?_ (LeO.refl _)
  refine LeO.ite ?_ (LeO.refl _)
  exact LeO.bind (branch_town_costs.mono _ _ k) fun left => provesL_mono k a0 a1 a2 left _ _
theorem drop_rd41 (ps : List S41) (i : Nat) (h : i < ps.length) : ps.drop i = rd_T41 ps (i : Int) :: ps.drop (i + 1) := by
  rw [List.drop_eq_getElem_cons h]
  simp [rd_T41, List.getD, List.getElem?_eq_getElem h]
theorem drop_rdI (ps : List Int) (i : Nat) (h : i < ps.length) : ps.drop i = rd ps (i : Int) :: ps.drop (i + 1) := by
  rw [List.drop_eq_getElem_cons h]
  simp [rd, List.getD, List.getElem?_eq_getElem h]
theorem val_succ2 (i : Nat) (h : i < 17592186044416) : Value.int .i64 (wrap64 ((i : Int) + 1)) = Value.int .i64 ((i + 1 : Nat) : Int) := by rw [show wrap64 ((i : Int) + 1) = ((i + 1 : Nat) : Int) from by unfold wrap64; omega]
theorem update_event {P : Program} {ops : Array Oper} {rest : List Oper} {o : Oper} {a : Act} {Q : Exit → Act → World → Prop} {w : World} {m mt kt et : Nat} {g : Int → Bool} (hM : SetM w m g) (ht : P.underlying mt = some (.map kt et)) (hk : P.underlying kt = some (.int .i64))
    (hg : o.guard = none) (mo xo vo : Operand) (hop : o.op = Op.mapUpdate mt mo xo vo) {i : Int} (hm : a.eval mo = .map (some m)) (hx : a.eval xo = .int .i64 i) (hv : a.eval vo = .bool true)
    (hK : ∀ w2, SetM w2 m (fun j => decide (j = i) || g j) → w.grownBy w2 (some m) → wpList P ops Q rest (a.put o.dst undef) w2) : wpList P ops Q (o :: rest) a w := by
  refine wpList_plain hg fun K' hK' => ?_
  obtain ⟨w2, hrun, r1, r2⟩ := hM.update ht hk i
  unfold Oper.wp
  simp [execOp, hop, hm, hx, hv, hrun, Result.andThen]
  exact hK' _ _ (hK w2 r1 r2)
/-- A row of cells stands where a map is written. -/
theorem Kd.R_map {α : Type} {d : Kd α} {e base m : Nat} {ok : Nat → Prop} {w w2 : World} {v : Value} {xs : List α} {g : Int → Bool} (h : d.R e w base ok v xs) (hM : SetM w m g) (hg : w.grownBy w2 (some m)) : d.R e w2 base ok v xs := by
  refine Kd.R_mono (Kd.R_grown (Kd.R_bound h) hg (fun k hk he => ?_)) (fun _ hk => hk.1)
  obtain ⟨_, _, _, q, _, cells, hc⟩ := hk
  injection he with he
  subst he
  exact hM.ne_cells hc rfl
/-- A row that was made behind a block stands where that block is written. -/
theorem Kd.R_low {α : Type} {d : Kd α} {e base : Nat} {ok : Nat → Prop} {w : World} {v : Value} {xs : List α} (h : d.R e w base ok v xs) {p : Addr} (hp : p.block < base) (u : Value) : d.R e (w.setCell p u) base ok v xs :=
  Kd.R_mono (Kd.R_far (Kd.R_bound h) (fun k hk => by have := hk.2.1; omega) u) (fun _ hk => hk.1)
theorem SetM.set {w : World} {m : Nat} {g : Int → Bool} (h : SetM w m g) {a i : Nat} {cs : Array Value} {t : TypeId} {fr : Nat × Nat} (hb : w.heap[a]? = some (.cells cs t fr)) (u : Value) : SetM (w.setCell ⟨a, i, none⟩ u) m g := h.far (p := ⟨a, i, none⟩) (h.ne_cells hb) u
theorem SetM.self {w : World} {m : Nat} {g : Int → Bool} (_ : SetM w m g) : Below w.heap.size w w := Below.refl _ _
set_option maxHeartbeats 8000000 in
set_option maxRecDepth 100000 in
theorem branch_Proves.calls (k : Nat) (a0 : Int) (A1 : Option Addr) (c1 : Nat) (l1 : List S30) (A2 : Option Addr) (c2 : Nat) (l2 : List S41) (r1 : Int) (r2 : Bool) (r3 : Int) (w : World) (hr1 : Kd.C k30 w A1 l1.length l1) (hc1 : l1.length ≤ c1) (hr2 : Kd.C k41 w A2 l2.length l2) (hc2 : l2.length ≤ c2) (h : branch_Proves.f k a0 l1 l2 = some (r1, r2, r3)) :
    Calls Try.prog 37 #[.int .i64 a0, .slice A1 l1.length c1, .slice A2 l2.length c2] w fun e w' => e = .returned (.tuple #[.int .i64 r1, .bool r2, .int .i64 r3]) ∧ Below w.heap.size w w' := by
  have hu41 := Try.underlying41
  have HR1 := Aside0.mk hr1
  have HC1 := Aside0.mk hc1
  have HR2 := Aside0.mk hr2
  have HC2 := Aside0.mk hc2
  clear hr1 hc1 hr2 hc2
  have HB := Aside0.mk (Below.refl w.heap.size w)
  unfold branch_Proves.f at h
  split at h
  case isFalse => exact absurd h (by simp)
  rename_i hlen
  have HLEN := Aside0.mk hlen
  clear hlen
  obtain ⟨t, ht⟩ : ∃ t, readB a0 l1 = t := ⟨_, rfl⟩
  rw [ht] at h
  have HT0 := Aside0.mk (show branch_read.f a0 l1 = some t by unfold branch_read.f; rw [ht])
  clear ht
  by_cases c3 : t = 0
  case neg =>
    rw [if_neg c3] at h
    have c3b : (t == 0) = false := beq_eq_false_iff_ne.mpr c3
    have c3c : (t != 0) = true := bne_iff_ne.mpr c3
    simp only [Option.some.injEq, Prod.mk.injEq] at h
    obtain ⟨rfl, rfl, rfl⟩ := h
    clear c3
    go_enter Try.func37, Try.ntmps37
    go_wp2_with (first | (go_at_call 44; (refine (branch_read.calls_err a0 A1 c1 l1 t _ HR1.out HC1.out HT0.out (by assumption)).mono ?_); rintro e w1 ⟨rfl, hb⟩; clear HB; have HB := Aside0.mk hb; clear hb))
    go_ret3
    exact ⟨by first | rfl | (simp; done), HB.out⟩
  rw [if_pos c3] at h
  have c3b : (t == 0) = true := beq_iff_eq.mpr c3
  have c3c : (t != 0) = false := bne_eq_false_iff_eq.mpr c3
  clear c3
  obtain ⟨left0, hl0, H⟩ := Option.bind_eq_some_iff.1 h
  have HL0 := Aside0.mk hl0
  have H0 := Aside0.mk H
  clear h hl0 H
  go_enter Try.func37, Try.ntmps37
  go_wp2_with (first | (go_at_call 44; (refine (branch_read.calls_ok a0 A1 c1 l1 t _ HR1.out HC1.out HT0.out (by assumption)).mono ?_); rintro e w1 ⟨gt, mr, rfl, hg, hbox, hb⟩; have GT := Aside0.mk hg; have HT := Aside0.mk hbox; clear HB; have HB := Aside0.mk hb; clear hg hbox hb) | (go_at_call 47; (refine (branch_town_costs.calls k gt a0 A1 c1 l1 mr left0 _ HT.out (Kd.C_below HR1.out HB.out) HC1.out HL0.out).mono ?_); rintro e w2 ⟨vl, rfl, ho, hb⟩; obtain ⟨Al, cl, rfl⟩ := Kd.R_slice ho; have HO := Aside0.mk (Kd.R_lower ho (below_size HB.out)); have n0_ := Aside0.mk (blk_below HT.out hb); have n1_ := Aside0.mk (below_step HB.out hb); clear HT HB; have HT := n0_; have HB := n1_; clear n0_ n1_ ho hb) | ((with_reducible refine gate_dst (N := 29) rfl ?_); refine map_event ?hg (N := 29) ?hd ?hr ?_; (case hd => rfl); (case hg => rfl); (case hr => rfl); intro m hm w3 hmap hb; have HM := Aside0.mk (SetM.new hmap); have n0_ := Aside0.mk (Kd.R_below (by (with_reducible repeat (first | apply Kd.R_alloc | apply Kd.R_drewN | apply Kd.R_drew)); exact HO.out) hb); have n1_ := Aside0.mk (blk_below (by (with_reducible repeat (first | refine blk_drewN ?_ _ | refine blk_drew ?_ | refine blk_alloc ?_ _)); exact HT.out) hb); have n2_ := Aside0.mk (below_step (by repeat (first | (with_reducible first | exact HB.out | apply below_alloc | apply pw_below_drewN | apply below_drew1) | exact HB.out)) hb); have GM := Aside0.mk ((by rw [hm]; exact (below_size (by repeat (first | (with_reducible first | exact HB.out | apply below_alloc | apply pw_below_drewN | apply below_drew1) | exact HB.out)))) : w.heap.size ≤ m); clear HO HT HB; have HO := n0_; have HT := n1_; have HB := n2_; clear n0_ n1_ n2_ hm hmap hb))
  go_loopg [13, 32] l2.length (fun kq v13 v32 w' => ∃ (i : Nat) (left : List Int) (met : Int → Bool) (worth : Int), v32 = .int .i64 (i : Int) ∧ v13 = .int .i64 worth ∧ Aside0 (i + kq = l2.length) ∧ Aside0 (provesL k a0 l1 (l2.drop i) left met worth = some (r1, r2, r3)) ∧ Aside0 (Kd.R (Kd.int .i64) 3 w' w.heap.size (fun _ => True) (.slice Al left0.length cl) left) ∧ Aside0 (SetM w' m met) ∧ Aside0 (w'.heap[gt]? = some (.cells #[.int .i64 a0, .slice A1 l1.length c1, .map mr] 70 (0, 0))) ∧ Aside0 (Below w.heap.size w w'))
  case atStart => exact ⟨0, left0, _, 0, rfl, rfl, ⟨by simp⟩, ⟨H0.out⟩, ⟨by (with_reducible repeat (first | apply Kd.R_alloc | apply Kd.R_drewN | apply Kd.R_drew)); exact HO.out⟩, ⟨HM.out⟩, ⟨by (with_reducible repeat (first | refine blk_drewN ?_ _ | refine blk_drew ?_ | refine blk_alloc ?_ _)); exact HT.out⟩, ⟨by repeat (first | (with_reducible first | exact HB.out | apply below_alloc | apply pw_below_drewN | apply below_drew1) | exact HB.out)⟩⟩
  case round =>
    clear HO HM HT HB H0
    obtain ⟨i, left, met, worth, rfl, rfl, HI, HH, HO, HM, HT, HB⟩ := hrel
    cases gk with
    | zero =>
      have hi := HI.out
      have c4b : decide ((i : Int) < (l2.length : Int)) = false := decide_eq_false (by omega)
      have c4b2 : decide (i < l2.length) = false := decide_eq_false (by omega)
      have hh := HH.out
      rw [List.drop_eq_nil_of_le (by omega)] at hh
      simp only [provesL, Option.some.injEq, Prod.mk.injEq] at hh
      obtain ⟨rfl, rfl, rfl⟩ := hh
      clear hi
      go_wp2
      go_ret3
      exact ⟨by first | rfl | (simp; done), HB.out⟩
    | succ k1 =>
      have hi0 : (0 : Int) ≤ (i : Int) := Int.natCast_nonneg _
      have hi1 : (i : Int) < (l2.length : Int) := by have := HI.out; omega
      have c4b : decide ((i : Int) < (l2.length : Int)) = true := decide_eq_true hi1
      have c4b2 : decide (i < l2.length) = true := decide_eq_true (by omega)
      have hi2 : i < l2.length := by omega
      have hh := HH.out
      rw [drop_rd41 l2 i hi2] at hh
      obtain ⟨ad, e, hx_0, hx_1⟩ := at_T41 HR2.out (i : Int) hi0 hi1
      cases e
      obtain ⟨x, hx⟩ : ∃ x, rd_T41 l2 (i : Int) = x := ⟨_, rfl⟩
      rw [hx] at hx_0 hx_1 hh
      clear hx HH
      simp only [Int.toNat_natCast] at hx_0 hx_1
      replace hx_0 := (HB.out.cell (World.block_lt_of_cell? w _ hx_0)).trans hx_0
      replace hx_1 := (HB.out.cell (World.block_lt_of_cell? w _ hx_1)).trans hx_1
      replace hi0 := eq_true hi0
      replace hi1 := eq_true hi1
      replace hi2 := eq_true hi2
      unfold provesL at hh
      obtain ⟨bs, hbs, hh⟩ := Option.bind_eq_some_iff.1 hh
      have HBS := Aside0.mk hbs
      have HH := Aside0.mk hh
      clear hbs hh
      have HB0 := Aside0.mk HM.out.self
      go_upto_region 10 with (fail)
      (try simp only [Act.put, List.setIfInBounds_toArray, List.set_cons_zero, List.set_cons_succ])
      obtain ⟨gb, hgb⟩ : ∃ gb, wr.heap.size = gb := ⟨_, rfl⟩
      rw [hgb]
      obtain ⟨wq, hwq⟩ : ∃ wq, wr.alloc (.cells #[.int .i64 x.f0, .int .i64 x.f1] 41) = wq := ⟨_, rfl⟩
      rw [hwq]
      have HB1 := Aside0.mk (hwq ▸ below_alloc HB0.out _ : Below wr.heap.size wr wq)
      have BK := Aside0.mk (hgb ▸ hwq ▸ heap_alloc_new wr _ : wq.heap[gb]? = some (.cells #[.int .i64 x.f0, .int .i64 x.f1] 41 (0, 0)))
      have GEB := Aside0.mk (hgb ▸ HB.out.size : w.heap.size ≤ gb)
      have n0_ := Aside0.mk (below_step HB.out HB1.out)
      have n1_ := Aside0.mk (blk_below HT.out HB1.out)
      have n2_ := Aside0.mk (HM.out.below HB1.out)
      have n3_ := Aside0.mk (Kd.R_below HO.out HB1.out)
      clear hgb hwq HB HT HM HO HB0 HB1 hx_0 hx_1
      have HB := n0_; have HT := n1_; have HM := n2_; have HO := n3_
      clear n0_ n1_ n2_ n3_
      have hb_0 : wq.cell? ⟨gb, 0, none⟩ = some (.int .i64 x.f0) := (blk_cell BK.out 0).trans rfl
      have hb_1 : wq.cell? ⟨gb, 1, none⟩ = some (.int .i64 x.f1) := (blk_cell BK.out 1).trans rfl
      have hlook : ∀ W, Below wq.heap.size wq W → (Instr.lookup 92 (.map (some m)) (.int .i64 x.f0) false).run Try.prog W = .ok (.bool (met x.f0)) W := fun W hW => (HM.out.below hW).lookup Try.underlying92 Try.underlying3 x.f0 (by first | rfl | (go_simp; done))
      have HLK := Aside0.mk hlook
      clear hlook
      obtain ⟨bm, hbm⟩ : ∃ bm, met x.f0 = bm := ⟨_, rfl⟩
      rw [hbm] at HLK HH
      have HBM := Aside0.mk hbm
      clear hbm
      obtain ⟨bz, hbz⟩ : ∃ bz, (!bs || decide (x.f1 < 1) || decide (1000 < x.f1) || bm) = bz := ⟨_, rfl⟩
      rw [hbz] at HH
      have HBZ := Aside0.mk hbz
      clear hbz
      go_cut [56] (fun v56 wc => ∃ b, v56 = .bool b ∧ Aside0 (b = bz) ∧ Aside0 (wc.heap[gb]? = some (.cells #[.int .i64 x.f0, .int .i64 x.f1] 41 (0, 0))) ∧ Aside0 (Kd.R (Kd.int .i64) 3 wc w.heap.size (fun _ => True) (.slice Al left0.length cl) left) ∧ Aside0 (SetM wc m met) ∧ Aside0 (wc.heap[gt]? = some (.cells #[.int .i64 a0, .slice A1 l1.length c1, .map mr] 70 (0, 0))) ∧ Aside0 (Below w.heap.size w wc))
      case first =>
        cases bs with
        | false =>
          go_wp2_with (first | (go_at_call 58; (refine (branch_town_isSet.calls gt a0 A1 c1 l1 mr x.f0 _ _ HT.out (Kd.C_below HR1.out HB.out) HC1.out HBS.out).mono ?_); rintro e w5 ⟨rfl, hdr⟩; obtain ⟨n_, hw5⟩ := hdr.out; have hb : Below wq.heap.size wq w5 := (by rw [hw5]; exact pw_below_drewN (Below.refl _ _) n_); clear hw5 hdr; have n0_ := Aside0.mk (Kd.R_below HO.out hb); have n1_ := Aside0.mk (blk_below HT.out hb); have n2_ := Aside0.mk (HM.out.below hb); have n3_ := Aside0.mk (below_step HB.out hb); have n4_ := Aside0.mk (blk_below BK.out hb); have hlk := HLK.out w5 hb; clear HO HT HM HB BK hb hb_0 hb_1; have HO := n0_; have HT := n1_; have HM := n2_; have HB := n3_; have BK := n4_; clear n0_ n1_ n2_ n3_ n4_; have hb_0 : w5.cell? ⟨gb, 0, none⟩ = some (.int .i64 x.f0) := (blk_cell BK.out 0).trans rfl; have hb_1 : w5.cell? ⟨gb, 1, none⟩ = some (.int .i64 x.f1) := (blk_cell BK.out 1).trans rfl))
          go_meet
          case rel => exact ⟨_, rfl, ⟨by rw [← HBZ.out]; simp only [Bool.not_false, Bool.true_or]; first | done | rfl | simp⟩, BK, HO, HM, HT, HB⟩
        | true =>
          by_cases t0 : x.f1 < 1
          · have s0 : decide (x.f1 < 1) = true := decide_eq_true t0
            clear t0
            go_wp2_with (first | (go_at_call 58; (refine (branch_town_isSet.calls gt a0 A1 c1 l1 mr x.f0 _ _ HT.out (Kd.C_below HR1.out HB.out) HC1.out HBS.out).mono ?_); rintro e w5 ⟨rfl, hdr⟩; obtain ⟨n_, hw5⟩ := hdr.out; have hb : Below wq.heap.size wq w5 := (by rw [hw5]; exact pw_below_drewN (Below.refl _ _) n_); clear hw5 hdr; have n0_ := Aside0.mk (Kd.R_below HO.out hb); have n1_ := Aside0.mk (blk_below HT.out hb); have n2_ := Aside0.mk (HM.out.below hb); have n3_ := Aside0.mk (below_step HB.out hb); have n4_ := Aside0.mk (blk_below BK.out hb); have hlk := HLK.out w5 hb; clear HO HT HM HB BK hb hb_0 hb_1; have HO := n0_; have HT := n1_; have HM := n2_; have HB := n3_; have BK := n4_; clear n0_ n1_ n2_ n3_ n4_; have hb_0 : w5.cell? ⟨gb, 0, none⟩ = some (.int .i64 x.f0) := (blk_cell BK.out 0).trans rfl; have hb_1 : w5.cell? ⟨gb, 1, none⟩ = some (.int .i64 x.f1) := (blk_cell BK.out 1).trans rfl))
            go_meet
            case rel => exact ⟨_, rfl, ⟨by rw [← HBZ.out]; simp only [Bool.not_true, Bool.false_or, Bool.or_true, Bool.true_or, s0]; first | done | rfl | simp⟩, BK, HO, HM, HT, HB⟩
          have s0 : decide (x.f1 < 1) = false := decide_eq_false t0
          clear t0
          by_cases t1 : 1000 < x.f1
          · have s1 : decide (1000 < x.f1) = true := decide_eq_true t1
            clear t1
            go_wp2_with (first | (go_at_call 58; (refine (branch_town_isSet.calls gt a0 A1 c1 l1 mr x.f0 _ _ HT.out (Kd.C_below HR1.out HB.out) HC1.out HBS.out).mono ?_); rintro e w5 ⟨rfl, hdr⟩; obtain ⟨n_, hw5⟩ := hdr.out; have hb : Below wq.heap.size wq w5 := (by rw [hw5]; exact pw_below_drewN (Below.refl _ _) n_); clear hw5 hdr; have n0_ := Aside0.mk (Kd.R_below HO.out hb); have n1_ := Aside0.mk (blk_below HT.out hb); have n2_ := Aside0.mk (HM.out.below hb); have n3_ := Aside0.mk (below_step HB.out hb); have n4_ := Aside0.mk (blk_below BK.out hb); have hlk := HLK.out w5 hb; clear HO HT HM HB BK hb hb_0 hb_1; have HO := n0_; have HT := n1_; have HM := n2_; have HB := n3_; have BK := n4_; clear n0_ n1_ n2_ n3_ n4_; have hb_0 : w5.cell? ⟨gb, 0, none⟩ = some (.int .i64 x.f0) := (blk_cell BK.out 0).trans rfl; have hb_1 : w5.cell? ⟨gb, 1, none⟩ = some (.int .i64 x.f1) := (blk_cell BK.out 1).trans rfl))
            go_meet
            case rel => exact ⟨_, rfl, ⟨by rw [← HBZ.out]; simp only [Bool.not_true, Bool.false_or, Bool.or_true, Bool.true_or, s0, s1]; first | done | rfl | simp⟩, BK, HO, HM, HT, HB⟩
          have s1 : decide (1000 < x.f1) = false := decide_eq_false t1
          clear t1
          cases bm with
          | true =>
            go_wp2_with (first | (go_at_call 58; (refine (branch_town_isSet.calls gt a0 A1 c1 l1 mr x.f0 _ _ HT.out (Kd.C_below HR1.out HB.out) HC1.out HBS.out).mono ?_); rintro e w5 ⟨rfl, hdr⟩; obtain ⟨n_, hw5⟩ := hdr.out; have hb : Below wq.heap.size wq w5 := (by rw [hw5]; exact pw_below_drewN (Below.refl _ _) n_); clear hw5 hdr; have n0_ := Aside0.mk (Kd.R_below HO.out hb); have n1_ := Aside0.mk (blk_below HT.out hb); have n2_ := Aside0.mk (HM.out.below hb); have n3_ := Aside0.mk (below_step HB.out hb); have n4_ := Aside0.mk (blk_below BK.out hb); have hlk := HLK.out w5 hb; clear HO HT HM HB BK hb hb_0 hb_1; have HO := n0_; have HT := n1_; have HM := n2_; have HB := n3_; have BK := n4_; clear n0_ n1_ n2_ n3_ n4_; have hb_0 : w5.cell? ⟨gb, 0, none⟩ = some (.int .i64 x.f0) := (blk_cell BK.out 0).trans rfl; have hb_1 : w5.cell? ⟨gb, 1, none⟩ = some (.int .i64 x.f1) := (blk_cell BK.out 1).trans rfl))
            go_meet
            case rel => exact ⟨_, rfl, ⟨by rw [← HBZ.out]; simp only [Bool.not_true, Bool.false_or, Bool.or_true, s0, s1]; first | done | rfl | simp⟩, BK, HO, HM, HT, HB⟩
          | false =>
            go_wp2_with (first | (go_at_call 58; (refine (branch_town_isSet.calls gt a0 A1 c1 l1 mr x.f0 _ _ HT.out (Kd.C_below HR1.out HB.out) HC1.out HBS.out).mono ?_); rintro e w5 ⟨rfl, hdr⟩; obtain ⟨n_, hw5⟩ := hdr.out; have hb : Below wq.heap.size wq w5 := (by rw [hw5]; exact pw_below_drewN (Below.refl _ _) n_); clear hw5 hdr; have n0_ := Aside0.mk (Kd.R_below HO.out hb); have n1_ := Aside0.mk (blk_below HT.out hb); have n2_ := Aside0.mk (HM.out.below hb); have n3_ := Aside0.mk (below_step HB.out hb); have n4_ := Aside0.mk (blk_below BK.out hb); have hlk := HLK.out w5 hb; clear HO HT HM HB BK hb hb_0 hb_1; have HO := n0_; have HT := n1_; have HM := n2_; have HB := n3_; have BK := n4_; clear n0_ n1_ n2_ n3_ n4_; have hb_0 : w5.cell? ⟨gb, 0, none⟩ = some (.int .i64 x.f0) := (blk_cell BK.out 0).trans rfl; have hb_1 : w5.cell? ⟨gb, 1, none⟩ = some (.int .i64 x.f1) := (blk_cell BK.out 1).trans rfl))
            go_meet
            case rel => exact ⟨_, rfl, ⟨by rw [← HBZ.out]; simp only [Bool.not_true, Bool.false_or, Bool.or_false, s0, s1]; first | done | rfl | simp⟩, BK, HO, HM, HT, HB⟩
      case rest =>
        clear BK HO HT HM HB hb_0 hb_1 HLK
        obtain ⟨b, rfl, hbb, BK, HO, HM, HT, HB⟩ := hcut
        obtain rfl := hbb.out
        clear hbb HBZ
        have hh := HH.out
        clear HH
        cases b with
        | true =>
          rw [if_pos rfl] at hh
          simp only [Option.some.injEq, Prod.mk.injEq] at hh
          obtain ⟨rfl, rfl, rfl⟩ := hh
          go_wp2
          go_ret3
          exact ⟨by first | rfl | (simp; done), HB.out⟩
        | false =>
          rw [if_neg (by decide)] at hh
          obtain ⟨E, hE, hh⟩ := Option.bind_eq_some_iff.1 hh
          by_cases hEl : E.length < 17592186044416
          case neg => rw [if_neg hEl] at hh; exact absurd hh (by simp)
          rw [if_pos hEl] at hh
          obtain ⟨o, ho, hh⟩ := Option.bind_eq_some_iff.1 hh
          have HEL := Aside0.mk hEl
          have HEE := Aside0.mk hE
          have HTK := Aside0.mk ho
          have HH := Aside0.mk hh
          clear hEl hE ho hh
          have hb_0 : wc.cell? ⟨gb, 0, none⟩ = some (.int .i64 x.f0) := (blk_cell BK.out 0).trans rfl
          have hb_1 : wc.cell? ⟨gb, 1, none⟩ = some (.int .i64 x.f1) := (blk_cell BK.out 1).trans rfl
          go_wp2_with (first | (at_mapUpdate; refine update_event HM.out Try.underlying92 Try.underlying3 rfl _ _ _ rfl (i := x.f0) rfl rfl rfl ?_; intro w6 hm6 hg6; have n0_ := Aside0.mk (Kd.R_map HO.out HM.out hg6); have n1_ := Aside0.mk (blk_grown HT.out hg6 (by have := HM.out.ne_cells HT.out; intro h; injection h with h; exact this h.symm)); have n2_ := Aside0.mk (blk_grown BK.out hg6 (by have := HM.out.ne_cells BK.out; intro h; injection h with h; exact this h.symm)); have n3_ := Aside0.mk (HB.out.grown hg6 HB.out.size (fun j hj => by cases hj; exact GM.out)); clear HO HT BK HB HM hb_0 hb_1; have HO := n0_; have HT := n1_; have BK := n2_; have HB := n3_; have HM := Aside0.mk hm6; clear n0_ n1_ n2_ n3_ hm6 hg6; have hb_0 : w6.cell? ⟨gb, 0, none⟩ = some (.int .i64 x.f0) := (blk_cell BK.out 0).trans rfl; have hb_1 : w6.cell? ⟨gb, 1, none⟩ = some (.int .i64 x.f1) := (blk_cell BK.out 1).trans rfl) | (go_at_call 59; (refine (branch_town_entering.calls k gt a0 A1 c1 l1 mr x.f0 E _ HT.out (Kd.C_below HR1.out HB.out) HC1.out HEE.out).mono ?_); rintro e w7 ⟨ve, rfl, hoe, hb⟩; obtain ⟨Ae, ce, rfl⟩ := Kd.R_slice hoe; have hlt := Kd.R_lt HO.out; obtain ⟨nb, hnb⟩ : ∃ nb, w6.heap.size = nb := ⟨_, rfl⟩; rw [hnb] at hoe hlt; have HE := Aside0.mk hoe; have HLT := Aside0.mk hlt; have n0_ := Aside0.mk (Kd.R_below HO.out hb); have n1_ := Aside0.mk (blk_below HT.out hb); have n2_ := Aside0.mk (HM.out.below hb); have n3_ := Aside0.mk (below_step HB.out hb); have n4_ := Aside0.mk (blk_below BK.out hb); clear HO HT HM HB BK hb hb_0 hb_1 hoe hlt hnb; have HO := n0_; have HT := n1_; have HM := n2_; have HB := n3_; have BK := n4_; clear n0_ n1_ n2_ n3_ n4_; have hb_0 : w7.cell? ⟨gb, 0, none⟩ = some (.int .i64 x.f0) := (blk_cell BK.out 0).trans rfl; have hb_1 : w7.cell? ⟨gb, 1, none⟩ = some (.int .i64 x.f1) := (blk_cell BK.out 1).trans rfl))
          go_loopg [65] E.length (fun kq v65 w' => ∃ (j : Nat) (lf : List Int), v65 = .int .i64 (j : Int) ∧ Aside0 (j + kq = E.length) ∧ Aside0 (takeB lf (E.drop j) x.f1 = some o) ∧ Aside0 (Kd.R (Kd.int .i64) 3 w' w.heap.size (fun _ => True) (.slice Al left0.length cl) lf) ∧ Aside0 (Kd.R (Kd.int .i64) 3 w' nb (fun _ => True) (.slice Ae E.length ce) E) ∧ Aside0 (SetM w' m (fun j => decide (j = x.f0) || met j)) ∧ Aside0 (w'.heap[gt]? = some (.cells #[.int .i64 a0, .slice A1 l1.length c1, .map mr] 70 (0, 0))) ∧ Aside0 (w'.heap[gb]? = some (.cells #[.int .i64 x.f0, .int .i64 x.f1] 41 (0, 0))) ∧ Aside0 (Below w.heap.size w w'))
          case atStart => exact ⟨0, left, rfl, ⟨by simp⟩, ⟨HTK.out⟩, ⟨by (with_reducible repeat (first | apply Kd.R_alloc | apply Kd.R_drewN | apply Kd.R_drew)); exact HO.out⟩, ⟨by (with_reducible repeat (first | apply Kd.R_alloc | apply Kd.R_drewN | apply Kd.R_drew)); exact HE.out⟩, HM, ⟨by (with_reducible repeat (first | refine blk_drewN ?_ _ | refine blk_drew ?_ | refine blk_alloc ?_ _)); exact HT.out⟩, ⟨by (with_reducible repeat (first | refine blk_drewN ?_ _ | refine blk_drew ?_ | refine blk_alloc ?_ _)); exact BK.out⟩, ⟨by repeat (first | (with_reducible first | exact HB.out | apply below_alloc | apply pw_below_drewN | apply below_drew1) | exact HB.out)⟩⟩
          case round =>
            clear HO HM HT HB BK HE hb_0 hb_1 HTK
            obtain ⟨j, lf, rfl, HJ, HTK, HO, HE, HM, HT, BK, HB⟩ := hrel
            have hb_0 : wr.cell? ⟨gb, 0, none⟩ = some (.int .i64 x.f0) := (blk_cell BK.out 0).trans rfl
            have hb_1 : wr.cell? ⟨gb, 1, none⟩ = some (.int .i64 x.f1) := (blk_cell BK.out 1).trans rfl
            cases gk with
            | zero =>
              have hj := HJ.out
              have d4b : decide ((j : Int) < (E.length : Int)) = false := decide_eq_false (by omega)
              have d4b2 : decide (j < E.length) = false := decide_eq_false (by omega)
              have hh := HTK.out
              rw [List.drop_eq_nil_of_le (by omega)] at hh
              simp only [takeB, Option.some.injEq] at hh
              subst hh
              clear hj
              go_wp2
              go_roundg k1
              case measure => omega
              case rel => exact ⟨i + 1, lf, _, wrap64 (worth + x.f1), val_succ2 i (by have := HI.out; have := HLEN.out; omega), by first | rfl | (simp; done), ⟨by have := HI.out; omega⟩, ⟨HH.out⟩, ⟨by (with_reducible repeat (first | apply Kd.R_alloc | apply Kd.R_drewN | apply Kd.R_drew)); exact HO.out⟩, ⟨HM.out⟩, ⟨by (with_reducible repeat (first | refine blk_drewN ?_ _ | refine blk_drew ?_ | refine blk_alloc ?_ _)); exact HT.out⟩, ⟨by repeat (first | (with_reducible first | exact HB.out | apply below_alloc | apply pw_below_drewN | apply below_drew1) | exact HB.out)⟩⟩
            | succ k2 =>
              have hj0 : (0 : Int) ≤ (j : Int) := Int.natCast_nonneg _
              have hj1 : (j : Int) < (E.length : Int) := by have := HJ.out; omega
              have d4b : decide ((j : Int) < (E.length : Int)) = true := decide_eq_true hj1
              have hj2 : j < E.length := by omega
              have d4b2 : decide (j < E.length) = true := decide_eq_true hj2
              have hh := HTK.out
              rw [drop_rdI E j hj2] at hh
              obtain ⟨ade, e, hy_0⟩ := Kd.at_int (Kd.R_reads' HE.out).2.2 (j : Int) hj0 hj1
              cases e
              obtain ⟨y, hy⟩ : ∃ y, rd E (j : Int) = y := ⟨_, rfl⟩
              rw [hy] at hy_0 hh
              simp only [Int.toNat_natCast] at hy_0
              clear hy HTK
              replace hj0 := eq_true hj0
              replace hj1 := eq_true hj1
              replace hj2 := eq_true hj2
              unfold takeB at hh
              by_cases hr : 0 ≤ y ∧ y < (lf.length : Int)
              case neg => rw [if_neg hr] at hh; exact absurd hh (by simp)
              rw [if_pos hr] at hh
              obtain ⟨y0, y1⟩ := hr
              have hlen : left0.length = lf.length := (Kd.R_reads' HO.out).1
              obtain ⟨go, cap, eo, gbo, glo, clo, hgo⟩ := Kd.R_form HO.out (by omega)
              injection eo with ea_ en_ ec_
              subst ea_ ec_
              clear en_
              have GO := Aside0.mk gbo
              have GC := Aside0.mk hgo
              have GN := Aside0.mk (HLT.out go rfl)
              have y1' : y < (left0.length : Int) := by rw [hlen]; exact y1
              obtain ⟨hc, hf⟩ := Kd.R_celln 0 HO.out y y0 y1'
              replace hc := (show wr.cell? ⟨go, y.toNat, none⟩ = some (.int .i64 (rd lf y)) from hc)
              have HLE := Aside0.mk hlen
              clear hlen gbo glo hgo y1
              obtain ⟨z, hz⟩ : ∃ z, rd lf y = z := ⟨_, rfl⟩
              rw [hz] at hc hh
              clear hz
              have y0b := eq_true y0
              have y1b := eq_true y1'
              by_cases t3 : z < x.f1
              · rw [if_pos t3] at hh
                have s3 : decide (z < x.f1) = true := decide_eq_true t3
                clear t3
                obtain rfl := Option.some.inj hh
                have h3 := HH.out
                simp only [Option.some.injEq, Prod.mk.injEq] at h3
                obtain ⟨rfl, rfl, rfl⟩ := h3
                go_wp2_with fail
                go_region_held3 (fun w' => w'.cell? ⟨go, y.toNat, none⟩ = some (.int .i64 z) ∧ w'.cell? ⟨gb, 1, none⟩ = some (.int .i64 x.f1)) (go_keep) (fail)
                all_goals go_wp2
                go_ret3
                exact ⟨by first | rfl | (simp; done), by repeat (first | (with_reducible first | exact HB.out | apply below_alloc | apply pw_below_drewN | apply below_drew1) | exact HB.out)⟩
              rw [if_neg t3] at hh
              have s3 : decide (z < x.f1) = false := decide_eq_false t3
              clear t3
              have HTK := Aside0.mk hh
              clear hh
              go_wp2_with fail
              go_region_held3 (fun w' => w'.cell? ⟨go, y.toNat, none⟩ = some (.int .i64 z) ∧ w'.cell? ⟨gb, 1, none⟩ = some (.int .i64 x.f1)) (go_keep) (fail)
              all_goals go_wp2
              have hne : gb ≠ go := blk_ne BK.out GC.out (by decide)
              have hne2 : go ≠ gb := fun h => hne h.symm
              have hnt : gt ≠ go := blk_ne HT.out GC.out (by decide)
              go_region_with (fail)
              all_goals (go_wp2; go_roundg k2; (case measure => omega); (case rel => exact ⟨j + 1, lf.set y.toNat (wrap64 (z - x.f1)), val_succ2 j (by have := HJ.out; have := HEL.out; omega), ⟨by have := HJ.out; omega⟩, HTK, ⟨by (try simp only [i64_w]); (with_reducible repeat (first | apply Kd.R_alloc | apply Kd.R_drewN | apply Kd.R_drew)); exact Kd.R_putn HO.out y (wrap64 (z - x.f1))⟩, ⟨by (with_reducible repeat (first | apply Kd.R_alloc | apply Kd.R_drewN | apply Kd.R_drew)); exact Kd.R_low HE.out GN.out _⟩, ⟨(SetM.set HM.out GC.out _).of_block rfl⟩, ⟨by (with_reducible repeat (first | refine blk_drewN ?_ _ | refine blk_drew ?_ | refine blk_alloc ?_ _)); exact blk_far HT.out hnt _⟩, ⟨by (with_reducible repeat (first | refine blk_drewN ?_ _ | refine blk_drew ?_ | refine blk_alloc ?_ _)); exact blk_far BK.out hne _⟩, ⟨by repeat (first | (with_reducible first | exact HB.out | apply below_alloc | apply pw_below_drewN | apply below_drew1 | refine below_set ?_ GO.out) | exact HB.out)⟩⟩))
end Go.Proofs.Ytpmadffgdfholaa.B
namespace Go.Proofs.Ytpmadffgdfholaa.B
open Go.RowKit Go.MapKept Go.ChangeMaps Go.Proofs.YtpmadffgdfholaaW.PrintWords Go.Proofs.YtpmadffgdfholaaW.PrintLast Go.Proofs.YtpmadffgdfholaaW.PrintMore
/-- Block r ranges over the set g in block m; done: the keys that have come; cnt: how many are still to come. -/
def IterM (w : World) (m r : Nat) (g done : Int → Bool) (cnt : Nat) : Prop :=
  ∃ es clock since seen c0, w.heap[m]? = some (.map es clock) ∧ Good es clock ∧ (∀ e ∈ es.toList, e.val = .bool true) ∧ (∀ i, g i = true ↔ ∃ e ∈ es.toList, e.key = .int .i64 i) ∧
    w.heap[r]? = some (.mapIter (some m) since seen c0) ∧ (∀ x ∈ es.toList, x.born < since) ∧ since ≤ c0 ∧ since ≤ clock ∧ cnt = (leftOf es seen).size ∧
    (∀ e ∈ es.toList, ∀ i, e.key = .int .i64 i → done i = seen.contains e.born) ∧ ∀ i, done i = true → g i = true
theorem IterM.set {w : World} {m r : Nat} {g done : Int → Bool} {cnt : Nat} (h : IterM w m r g done cnt) : SetM w m g := by
  obtain ⟨es, clock, since, seen, c0, hb, hg, hv, hi, _⟩ := h
  exact ⟨es, clock, hb, hg, hv, hi⟩
theorem IterM.lt {w : World} {m r : Nat} {g done : Int → Bool} {cnt : Nat} (h : IterM w m r g done cnt) : r < w.heap.size := by
  obtain ⟨es, clock, since, seen, c0, hb, hg, hv, hi, hr, _⟩ := h
  exact blk_lt hr
theorem IterM.of_blocks {w w1 : World} {m r : Nat} {g done : Int → Bool} {cnt : Nat} (h : IterM w m r g done cnt) (hm : w1.heap[m]? = w.heap[m]?) (hr : w1.heap[r]? = w.heap[r]?) : IterM w1 m r g done cnt := by
  obtain ⟨es, clock, since, seen, c0, hb, hg, hv, hi, hrr, rest⟩ := h
  exact ⟨es, clock, since, seen, c0, hm.trans hb, hg, hv, hi, hr.trans hrr, rest⟩
theorem IterM.ne {w : World} {m r : Nat} {g done : Int → Bool} {cnt : Nat} (h : IterM w m r g done cnt) : r ≠ m := by
  rintro rfl
  obtain ⟨es, clock, since, seen, c0, hb, hg, hv, hi, hr, _⟩ := h
  rw [hb] at hr; injection hr with hr; cases hr
theorem IterM.ne_map {w : World} {m r a : Nat} {g done g2 : Int → Bool} {cnt : Nat} (h : IterM w m r g done cnt) (h2 : SetM w a g2) : r ≠ a := by
  rintro rfl
  obtain ⟨es, clock, since, seen, c0, hb, hg, hv, hi, hr, _⟩ := h
  obtain ⟨es2, clock2, hb2, _⟩ := h2
  rw [hb2] at hr; injection hr with hr; cases hr
theorem IterM.ne_cells {w : World} {m r a : Nat} {g done : Int → Bool} {cnt : Nat} {cs : Array Value} {t : TypeId} {fr : Nat × Nat} (h : IterM w m r g done cnt) (hb : w.heap[a]? = some (.cells cs t fr)) : r ≠ a := by
  rintro rfl
  obtain ⟨es, clock, since, seen, c0, _, hg, hv, hi, hr, _⟩ := h
  rw [hb] at hr; injection hr with hr; cases hr
section
variable {P : Program} {w : World} {m r mt kt et : Nat} {g done : Int → Bool} {cnt : Nat}
theorem SetM.range (h : SetM w m g) (ht : P.underlying mt = some (.map kt et)) :
    ∃ w1 cnt, (Instr.range mt (.map (some m))).run P w = .ok (.pointer (some ⟨w.heap.size, 0, none⟩)) w1 ∧ IterM w1 m w.heap.size g (fun _ => false) cnt ∧ Below w.heap.size w w1 := by
  have hlt := h.lt
  obtain ⟨es, clock, hb, hg, hv, hi⟩ := h
  refine ⟨_, _, run_range_map w mt kt et m es clock ht hb, ⟨es, clock, clock, #[], clock, (Below.heap_alloc w _ m hlt).trans hb, hg, hv, hi, heap_alloc_new w _, hg.old, Nat.le_refl _, Nat.le_refl _, rfl, ?_, ?_⟩, below_alloc (Below.refl _ _) _⟩
  · intro e _ i _; simp
  · intro i h; exact absurd h (by simp)
theorem IterM.next (h : IterM w m r g done cnt) (ty : TypeId) :
    (cnt = 0 ∧ (∀ i, done i = g i) ∧ (Instr.next (.pointer (some ⟨r, 0, none⟩)) false ty).run P w = .ok (.tuple #[.bool false]) w) ∨
    ∃ i w1 cnt1, g i = true ∧ done i = false ∧ (Instr.next (.pointer (some ⟨r, 0, none⟩)) false ty).run P w = .ok (.tuple #[.bool true, .int .i64 i, .bool true]) w1 ∧
      IterM w1 m r g (fun j => decide (j = i) || done j) cnt1 ∧ cnt1 < cnt ∧ w.grownBy w1 (some r) ∧ (Instr.entry (.pointer (some ⟨r, 0, none⟩))).run P w1 = .ok (.tuple #[.int .i64 i, .bool true]) w1 := by
  have hne := h.ne
  obtain ⟨es, clock, since, seen, c0, hb, hg, hv, hi, hr, hold, hsc, hsk, rfl, hd, hdg⟩ := h
  rcases run_next_at (P := P) w ty r m since c0 seen es clock hr hb hold hsc with ⟨h0, hrun⟩ | ⟨e, he, w1, hal, hrun⟩
  · refine .inl ⟨h0, fun i => ?_, hrun⟩
    cases hgi : g i with
    | true =>
      obtain ⟨x, hx, hk⟩ := (hi i).1 hgi
      rw [hd x hx i hk, all_seen es seen h0 x hx]
    | false =>
      cases hdi : done i with
      | false => rfl
      | true => rw [hdg i hdi] at hgi; exact hgi
  · obtain ⟨hem, hes⟩ := mem_left he
    obtain ⟨i, hk⟩ := hg.keys e hem
    have hev := hv e hem
    have hr1 : w1.heap[r]? = some (.mapIter (some m) since seen c0) := by rcases hal with rfl | rfl <;> exact hr
    have hb1 : w1.heap[m]? = some (.map es clock) := by rcases hal with rfl | rfl <;> exact hb
    have hset := heap_set (o' := .mapIter (some m) since (seen.push e.born) clock) hr1
    have hb' : (setBlock w1 r (.mapIter (some m) since (seen.push e.born) clock)).heap[m]? = some (.map es clock) := (hset.2 m (fun e1 => hne e1.symm)).trans hb1
    rw [hk, hev] at hrun
    refine .inr ⟨i, _, _, (hi i).2 ⟨e, hem, hk⟩, by rw [hd e hem i hk]; exact hes, hrun, ⟨es, clock, since, seen.push e.born, clock, hb', hg, hv, hi, hset.1, hold, hsk, hsk, rfl, ?_, ?_⟩, left_shrinks es seen e he, ?_, ?_⟩
    · intro x hx j hj
      show (decide (j = i) || done j) = _
      rw [contains_push, hd x hx j hj]
      by_cases hji : j = i
      · subst hji
        have hxe : x = e := by
          obtain ⟨p, hp⟩ := List.getElem?_of_mem hx
          obtain ⟨q, hq⟩ := List.getElem?_of_mem hem
          have h1 : (es.toList.map (·.key))[p]? = some (.int .i64 j) := by rw [List.getElem?_map, hp]; simp [hj]
          have h2 : (es.toList.map (·.key))[q]? = some (.int .i64 j) := by rw [List.getElem?_map, hq]; simp [hk]
          obtain ⟨l1, _⟩ := List.getElem?_eq_some_iff.1 h1
          have hpq := (List.getElem?_inj l1 hg.once).1 (h1.trans h2.symm)
          subst hpq
          rw [hp] at hq; injection hq
        subst hxe
        simp
      · have hbe : (x.born == e.born) = false := by
          rw [beq_eq_false_iff_ne]
          intro hbb
          apply hji
          have hxe : x = e := by
            obtain ⟨p, hp⟩ := List.getElem?_of_mem hx
            obtain ⟨q, hq⟩ := List.getElem?_of_mem hem
            have h1 : (es.toList.map (·.born))[p]? = some x.born := by rw [List.getElem?_map, hp]; rfl
            have h2 : (es.toList.map (·.born))[q]? = some x.born := by rw [List.getElem?_map, hq, hbb]; rfl
            obtain ⟨l1, _⟩ := List.getElem?_eq_some_iff.1 h1
            have hpq := (List.getElem?_inj l1 hg.born).1 (h1.trans h2.symm)
            subst hpq
            rw [hp] at hq; injection hq
          subst hxe
          rw [hj] at hk; injection hk
        rw [hbe]
        simp [hji]
    · intro j hj
      simp only [Bool.or_eq_true, decide_eq_true_eq] at hj
      rcases hj with rfl | hj
      · exact (hi j).2 ⟨e, hem, hk⟩
      · exact hdg j hj
    · rcases hal with rfl | rfl <;> exact ⟨rfl, rfl, rfl, by simp [setBlock], fun i _ hi => hset.2 i (fun e1 => hi (by rw [e1]))⟩
    · have := run_entry_at (P := P) _ r m since seen es clock e hset.1 hb' hem hg.born
      rw [hk, hev] at this
      exact this
/-- The two operations as_ steps of a walk. -/
theorem range_event {ops : Array Oper} {rest : List Oper} {o : Oper} {a : Act} {Q : Exit → Act → World → Prop} (hM : SetM w m g) (ht : P.underlying mt = some (.map kt et)) (hg : o.guard = none) (mo : Operand) (hop : o.op = Op.range mt mo) (hm : a.eval mo = .map (some m))
    (hK : ∀ r w1 cnt, w.heap.size ≤ r → IterM w1 m r g (fun _ => false) cnt → Below w.heap.size w w1 → wpList P ops Q rest (a.put o.dst (.pointer (some ⟨r, 0, none⟩))) w1) : wpList P ops Q (o :: rest) a w := by
  refine wpList_plain hg fun K' hK' => ?_
  obtain ⟨w1, cnt, hrun, h1, h2⟩ := hM.range ht
  unfold Oper.wp
  simp [execOp, hop, hm, hrun, Result.andThen]
  exact hK' _ _ (hK _ _ _ (Nat.le_refl _) h1 h2)
theorem next_event {ops : Array Oper} {rest : List Oper} {o : Oper} {a : Act} {Q : Exit → Act → World → Prop} (hI : IterM w m r g done cnt) (hg : o.guard = none) (it : Operand) (hop : o.op = Op.next it false) (hm : a.eval it = .pointer (some ⟨r, 0, none⟩))
    (hD : cnt = 0 → (∀ i, done i = g i) → wpList P ops Q rest (a.put o.dst (.tuple #[.bool false])) w)
    (hK : ∀ i w1 cnt1, g i = true → done i = false → IterM w1 m r g (fun j => decide (j = i) || done j) cnt1 → cnt1 < cnt → w.grownBy w1 (some r) → (Instr.entry (.pointer (some ⟨r, 0, none⟩))).run P w1 = .ok (.tuple #[.int .i64 i, .bool true]) w1 →
      wpList P ops Q rest (a.put o.dst (.tuple #[.bool true, .int .i64 i, .bool true])) w1) : wpList P ops Q (o :: rest) a w := by
  refine wpList_plain hg fun K' hK' => ?_
  unfold Oper.wp
  rcases hI.next (P := P) o.type with ⟨h0, hd, hrun⟩ | ⟨i, w1, cnt1, h1, h2, hrun, h3, h4, h5, h6⟩
  · simp [execOp, hop, hm, hrun, Result.andThen]
    exact hK' _ _ (hD h0 hd)
  · simp [execOp, hop, hm, hrun, Result.andThen]
    exact hK' _ _ (hK i w1 cnt1 h1 h2 h3 h4 h5 h6)
end
end Go.Proofs.Ytpmadffgdfholaa.B
namespace Go.Proofs.Ytpmadffgdfholaa.B
open Go.RowKit Go.MapKept Go.Proofs.YtpmadffgdfholaaW.PrintWords Go.Proofs.YtpmadffgdfholaaW.PrintLast Go.Proofs.YtpmadffgdfholaaW.PrintMore
set_option linter.unusedVariables false
set_option linter.unusedSimpArgs false
attribute [local go_sem ↓] Go.wp_at_zero Go.wp_at_succ
set_option maxHeartbeats 800000 in
set_option maxRecDepth 100000 in
theorem first3_calls (i : Int) (ga gb m1 m2 : Nat) (g1 g2 : Int → Bool) (w : World) (hA : w.heap[ga]? = some (.cells #[.map (some m1)] 92 (0, 0))) (hB : w.heap[gb]? = some (.cells #[.map (some m2)] 92 (0, 0))) (h1 : SetM w m1 g1) (h2 : SetM w m2 g2) :
    Calls Try.prog 72 #[.int .i64 i, .pointer (some ⟨ga, 0, none⟩), .pointer (some ⟨gb, 0, none⟩)] w fun e w' => e = .returned (.bool (g1 i || g2 i)) ∧ Below w.heap.size w w' := by
  have hl1 := h1.lookup Try.underlying92 Try.underlying3 i (by first | rfl | (go_simp; done))
  have hl2 := h2.lookup Try.underlying92 Try.underlying3 i (by first | rfl | (go_simp; done))
  have ha := (blk_cell hA 0).trans rfl
  have hb := (blk_cell hB 0).trans rfl
  have HB := Aside0.mk (Below.refl w.heap.size w)
  obtain ⟨b1, hb1⟩ : ∃ b, g1 i = b := ⟨_, rfl⟩
  obtain ⟨b2, hb2⟩ : ∃ b, g2 i = b := ⟨_, rfl⟩
  rw [hb1] at hl1 ⊢
  rw [hb2] at hl2 ⊢
  clear hb1 hb2 h1 h2 hA hB
  go_enter Try.func72, Try.ntmps72
  cases b1 with
  | true =>
    go_wp2
    go_ret
    exact ⟨by first | rfl | (simp; done), HB.out⟩
  | false =>
    go_wp2
    go_ret
    exact ⟨by first | rfl | (simp; done), HB.out⟩
theorem first3_fn {w : World} {ga gb m1 m2 : Nat} {g1 g2 : Int → Bool} (hA : w.heap[ga]? = some (.cells #[.map (some m1)] 92 (0, 0))) (hB : w.heap[gb]? = some (.cells #[.map (some m2)] 92 (0, 0))) (h1 : SetM w m1 g1) (h2 : SetM w m2 g2) :
    IsFn Try.prog w (.func (.func 72) #[] #[.pointer (some ⟨ga, 0, none⟩), .pointer (some ⟨gb, 0, none⟩)]) (fun i => some (g1 i || g2 i)) := by
  refine ⟨72, _, Try.f72, rfl, Try.func72, by kernel_rfl, rfl, fun W hW i r hf => ?_⟩
  obtain rfl := Option.some.inj hf
  exact first3_calls i ga gb m1 m2 g1 g2 W (blk_below hA hW) (blk_below hB hW) (h1.below hW) (h2.below hW)
theorem first2_fn {w : World} {g1 gg1 g2 : Nat} {n : Int} {A : Option Addr} {c : Nat} {l : List S30} {m : Option Nat} {tk : Int} (hP1 : w.heap[g1]? = some (.cells #[.pointer (some ⟨gg1, 0, none⟩)] 65 (0, 0))) (hQ1 : w.heap[gg1]? = some (.cells #[.int .i64 n, .slice A l.length c, .map m] 70 (0, 0)))
    (hr : Kd.C k30 w A l.length l) (hc : l.length ≤ c) (hP2 : w.heap[g2]? = some (.cells #[.int .i64 tk] 3 (0, 0))) :
    IsFn Try.prog w (.func (.func 71) #[] #[.pointer (some ⟨g1, 0, none⟩), .pointer (some ⟨g2, 0, none⟩)]) (fun i => branch_town_first_2.f i n l tk) := by
  refine ⟨71, _, Try.f71, rfl, Try.func71, by kernel_rfl, rfl, fun W hW i r hf => ?_⟩
  refine (branch_town_first_2.calls i g1 gg1 n A c l m g2 tk r W (blk_below hP1 hW) (blk_below hQ1 hW) (Kd.C_below hr hW) hc (blk_below hP2 hW) hf).mono (fun e_ w_ x_ => ⟨x_.1, by obtain ⟨_, n_, rfl⟩ := x_; exact pw_below_drewN (Below.refl _ _) n_⟩)
theorem first1_fn (w : World) : IsFn Try.prog w (.func (.func 69) #[] #[]) (fun i => branch_town_first_1.f i) :=
  ⟨69, #[], Try.f69, rfl, Try.func69, by kernel_rfl, rfl, fun W_ _ i_ r_ h_ => (branch_town_first_1.calls i_ r_ W_ h_).mono (fun e_ w_ x_ => ⟨x_.1, by obtain ⟨_, n_, rfl⟩ := x_; exact pw_below_drewN (Below.refl _ _) n_⟩)⟩
/-- The streets of a list but one. -/
def moreL (i : Int) (T : List Int) : Int → Bool := fun j => decide (j ∈ T) && decide (j ≠ i)
theorem moreL_nil (i : Int) : moreL i [] = fun _ => false := by funext j; simp [moreL]
theorem moreL_snoc_ne (i x : Int) (T : List Int) (h : x ≠ i) : moreL i (T ++ [x]) = fun j => decide (j = x) || moreL i T j := by
  funext j
  simp only [moreL, List.mem_append, List.mem_singleton]
  by_cases h1 : j = x
  · subst h1; simp [h]
  · simp [h1]
theorem moreL_snoc_eq (i : Int) (T : List Int) : moreL i (T ++ [i]) = moreL i T := by
  funext j
  simp only [moreL, List.mem_append, List.mem_singleton]
  by_cases h1 : j = i
  · subst h1; simp
  · simp [h1]
def firstL (k : Nat) (n : Int) (l : List S30) (price : List Int) (cost : Int) : Nat → Nat → List Int → (Int → Bool) → Option (List Int × Int × Int)
  | 0, _, list, _ => some (list, cost, 0)
  | c + 1, i, list, gone =>
    (if (rd_T30 l (i : Int)).f1 = 0 then some true else slices_ContainsFunc_int_int.f k list (fun j => branch_town_first_2.f j n l (rd_T30 l (i : Int)).f1)).bind fun sk =>
      if sk = true then firstL k n l price cost c (i + 1) list (fun j => decide (j = (i : Int)) || gone j) else
        (branch_town_cheapest.f k n l price (fun j => some (gone j || moreL (i : Int) (toB l l.length (rd_T30 l (i : Int)).f1) j))).bind fun bt =>
          if (bt.2.2 && (bt.1 == cost)) = true then (if list.length < 1000000 then firstL k n l price cost c (i + 1) (list ++ [(i : Int)]) (fun j => gone j || moreL (i : Int) (toB l l.length (rd_T30 l (i : Int)).f1) j) else none)
          else firstL k n l price cost c (i + 1) list (fun j => decide (j = (i : Int)) || gone j)
def branch_town_first.f (k : Nat) (a0_0 : Int) (l0_1 : List S30) (l1 : List Int) : Option (List Int × Int × Int) :=
  if l0_1.length < 1000000 then (branch_town_cheapest.f k a0_0 l0_1 l1 (fun i => branch_town_first_1.f i)).bind fun bt => if bt.2.2 = true then firstL k a0_0 l0_1 l1 bt.1 l0_1.length 0 [] (fun _ => false) else some ([], 0, 10) else none
theorem firstL_mono (k : Nat) (n : Int) (l : List S30) (price : List Int) (cost : Int) : ∀ c i list gone, LeO (firstL k n l price cost c i list gone) (firstL (k + 1) n l price cost c i list gone)
  | 0, _, _, _ => LeO.refl _
  | c + 1, i, list, gone => by
    unfold firstL
    refine LeO.bind (LeO.ite (LeO.refl _) (slices_ContainsFunc_int_int.mono _ _ k)) fun sk => ?_
    refine LeO.ite (firstL_mono k n l price cost c _ _ _) ?_
    refine LeO.bind (branch_town_cheapest.mono _ _ _ _ k) fun bt => ?_
    exact LeO.ite (LeO.ite (firstL_mono k n l price cost c _ _ _) (LeO.refl _)) (firstL_mono k n l price cost c _ _ _)
theorem branch_town_first.mono : ∀ a0 a1 a2 k, LeO (branch_town_first.f k a0 a1 a2) (branch_town_first.f (k + 1) a0 a1 a2) := by
  intro a0 a1 a2 k
  unfold branch_town_first.f
  refine LeO.ite ?_ (LeO.refl _)
  refine LeO.bind (branch_town_cheapest.mono _ _ _ _ k) fun bt => ?_
  exact LeO.ite (firstL_mono k a0 a1 a2 _ _ _ _ _) (LeO.refl _)
/-- What a walk of first knows of its world: the variables' blocks, the list, what is gone. -/
structure FEnv (w W : World) (tb g0 gq m : Nat) (vl : Value) (list : List Int) (gone : Int → Bool) : Prop where
  hB : Below w.heap.size w W
  tB : W.heap[tb]? = some (.cells #[.pointer (some ⟨g0, 0, none⟩)] 65 (0, 0))
  qB : W.heap[gq]? = some (.cells #[.map (some m)] 92 (0, 0))
  hM : SetM W m gone
  hL : Kd.R (Kd.int .i64) 3 W w.heap.size (fun _ => True) vl list
  gm : w.heap.size ≤ m
theorem FEnv.below {w W W2 : World} {tb g0 gq m : Nat} {vl : Value} {list : List Int} {gone : Int → Bool} (h : FEnv w W tb g0 gq m vl list gone) (hb : Below W.heap.size W W2) : FEnv w W2 tb g0 gq m vl list gone :=
  ⟨below_step h.hB hb, blk_below h.tB hb, blk_below h.qB hb, h.hM.below hb, Kd.R_below h.hL hb, h.gm⟩
theorem FEnv.upd {w W W2 : World} {tb g0 gq m : Nat} {vl : Value} {list : List Int} {gone gone2 : Int → Bool} (h : FEnv w W tb g0 gq m vl list gone) (hM2 : SetM W2 m gone2) (hg : W.grownBy W2 (some m)) : FEnv w W2 tb g0 gq m vl list gone2 :=
  ⟨h.hB.grown hg h.hB.size (fun j hj => by cases hj; exact h.gm), blk_grown h.tB hg (by have := h.hM.ne_cells h.tB; intro e; injection e with e; exact this e.symm), blk_grown h.qB hg (by have := h.hM.ne_cells h.qB; intro e; injection e with e; exact this e.symm), hM2, Kd.R_map h.hL h.hM hg, h.gm⟩
theorem FEnv.other {w W W2 : World} {tb g0 gq m m2 : Nat} {vl : Value} {list : List Int} {gone g2 : Int → Bool} (h : FEnv w W tb g0 gq m vl list gone) (hM2 : SetM W m2 g2) (hne : m ≠ m2) (hlo : w.heap.size ≤ m2) (hg : W.grownBy W2 (some m2)) : FEnv w W2 tb g0 gq m vl list gone :=
  ⟨h.hB.grown hg h.hB.size (fun j hj => by cases hj; exact hlo), blk_grown h.tB hg (by have := hM2.ne_cells h.tB; intro e; injection e with e; exact this e.symm), blk_grown h.qB hg (by have := hM2.ne_cells h.qB; intro e; injection e with e; exact this e.symm), h.hM.of_block (hg.block m h.hM.lt (fun e => hne (by injection e))), Kd.R_map h.hL hM2 hg, h.gm⟩
theorem FEnv.iter {w W W2 : World} {tb g0 gq m m2 r cnt : Nat} {vl : Value} {list : List Int} {gone g2 d2 : Int → Bool} (h : FEnv w W tb g0 gq m vl list gone) (hI : IterM W m2 r g2 d2 cnt) (hlo : w.heap.size ≤ r) (hg : W.grownBy W2 (some r)) : FEnv w W2 tb g0 gq m vl list gone := by
  refine ⟨h.hB.grown hg h.hB.size (fun j hj => by cases hj; exact hlo), blk_grown h.tB hg (by have := hI.ne_cells h.tB; intro e; injection e with e; exact this e.symm), blk_grown h.qB hg (by have := hI.ne_cells h.qB; intro e; injection e with e; exact this e.symm), h.hM.of_block (hg.block m h.hM.lt (fun e => hI.ne_map h.hM (by injection e with e; exact e.symm))), ?_, h.gm⟩
  refine Kd.R_mono (Kd.R_grown (Kd.R_bound h.hL) hg (fun k hk he => ?_)) (fun _ hk => hk.1)
  obtain ⟨_, _, _, q, _, cells, hc⟩ := hk
  injection he with he
  subst he
  exact hI.ne_cells hc rfl
theorem IterM.turn {w w2 : World} {m r k : Nat} {g done : Int → Bool} {cnt : Nat} (h : IterM w m r g done cnt) (hg : w.grownBy w2 (some k)) (h1 : m ≠ k) (h2 : r ≠ k) : IterM w2 m r g done cnt :=
  h.of_blocks (hg.block m h.set.lt (fun e => h1 (by injection e))) (hg.block r h.lt (fun e => h2 (by injection e)))
theorem SetM.row {w w2 : World} {m base : Nat} {g : Int → Bool} {ok : Nat → Prop} {v : Value} {xs : List Int} (h : SetM w m g) (hR : Kd.R (Kd.int .i64) 3 w base ok v xs) (hg : w.grownBy w2 v.ownBlock) : SetM w2 m g :=
  h.of_block (hg.block m h.lt (fun e => by
    obtain ⟨cells, hc⟩ := own_typed (Kd.own_of_R hR) m e.symm
    exact h.ne_cells hc rfl))
theorem FEnv.app {w W W2 : World} {tb g0 gq m : Nat} {vl v2 : Value} {list list2 : List Int} {gone : Int → Bool} (h : FEnv w W tb g0 gq m vl list gone) (hb : Below w.heap.size w W2) (hg : W.grownBy W2 vl.ownBlock) (hL : Kd.R (Kd.int .i64) 3 W2 w.heap.size (fun _ => True) v2 list2) : FEnv w W2 tb g0 gq m v2 list2 gone :=
  ⟨hb, blk_grown h.tB hg (Kd.R_ne h.hL h.tB (by decide)), blk_grown h.qB hg (Kd.R_ne h.hL h.qB (by decide)), h.hM.row h.hL hg, hL, h.gm⟩
theorem take_rdI (T : List Int) (q : Nat) (h : q < T.length) : T.take (q + 1) = T.take q ++ [rd T (q : Int)] := by
  rw [List.take_add_one, List.getElem?_eq_getElem h]
  simp [rd, List.getD, List.getElem?_eq_getElem h]
theorem drop_cell {w W : World} {a : Addr} {v : Value} (h : w.cell? a = some v) (hB : Below w.heap.size w W) : W.cell? a = some v := (hB.cell (World.block_lt_of_cell? w _ h)).trans h
set_option maxHeartbeats 8000000 in
set_option maxRecDepth 100000 in
theorem branch_town_first.calls (k : Nat) (g0 : Nat) (a0_0 : Int) (A0_1 : Option Addr) (c0_1 : Nat) (l0_1 : List S30) (mm base0 : Nat) (A1 : Option Addr) (c1 : Nat) (l1 : List Int) (r1 : List Int) (r2 r3 : Int) (w : World) (hP0 : w.heap[g0]? = some (.cells #[.int .i64 a0_0, .slice A0_1 l0_1.length c0_1, .map (some mm)] 70 (0, 0))) (hr0_1 : Kd.C k30 w A0_1 l0_1.length l0_1) (hc0_1 : l0_1.length ≤ c0_1) (hr1 : Kd.C (Kd.int .i64) w A1 l1.length l1) (hc1 : l1.length ≤ c1) (hG : GrpM w base0 mm (toB l0_1 l0_1.length)) (h : branch_town_first.f k a0_0 l0_1 l1 = some (r1, r2, r3)) :
    Calls Try.prog 51 #[.pointer (some ⟨g0, 0, none⟩), .slice A1 l1.length c1] w fun e w' => ∃ v0_ : Value, e = .returned (.tuple #[v0_, .int .i64 r2, .int .i64 r3]) ∧ Kd.R (Kd.int .i64) 3 w' w.heap.size (fun _ => True) v0_ r1 ∧ Below w.heap.size w w' := by
  have hu30 := Try.underlying30
  have hu65 := Try.underlying65
  have HP0 := Aside0.mk hP0
  have HR0 := Aside0.mk hr0_1
  have HC0 := Aside0.mk hc0_1
  have HR1 := Aside0.mk hr1
  have HC1 := Aside0.mk hc1
  have HG := Aside0.mk hG
  have HX1 := Aside0.mk (show w.cell? ⟨g0, 1, none⟩ = some (.slice A0_1 l0_1.length c0_1) from (blk_cell hP0 1).trans rfl)
  have HX2 := Aside0.mk (show w.cell? ⟨g0, 2, none⟩ = some (.map (some mm)) from (blk_cell hP0 2).trans rfl)
  clear hP0 hr0_1 hc0_1 hr1 hc1 hG
  have HB := Aside0.mk (Below.refl w.heap.size w)
  have hmf : ∀ (fn : Fn) (first cap : Array Value) (w : World), (Instr.makeFunc fn first cap).run Try.prog w = .ok (.func fn first cap) w := fun _ _ _ _ => rfl
  unfold branch_town_first.f at h
  split at h
  case isFalse => exact absurd h (by simp)
  rename_i hlen
  have HLEN := Aside0.mk hlen
  clear hlen
  obtain ⟨⟨b1, b2, b3⟩, hbt, h⟩ := Option.bind_eq_some_iff.1 h
  have HBT := Aside0.mk hbt
  have H0 := Aside0.mk h
  clear hbt h
  cases b3 with
  | false =>
    have h := H0.out
    simp only [Bool.false_eq_true, if_false, Option.some.injEq, Prod.mk.injEq] at h
    obtain ⟨rfl, rfl, rfl⟩ := h
    go_enter Try.func51, Try.ntmps51
    go_wp2_with (first | ((with_reducible refine gate_dst (N := 2) rfl ?_); refine box_event ?hg (N := 2) ?hd (cs := #[.pointer (some ⟨g0, 0, none⟩)]) (t := 65) ?hr ?_; (case hd => rfl); (case hg => rfl); (case hr => first | (go_simp; done) | (go_simp; rfl)); intro tb hg w1 hbox hb; have TB := Aside0.mk hbox; have GT := Aside0.mk (show w.heap.size ≤ tb by rw [hg]; exact Nat.le_refl _); clear HB; have HB := Aside0.mk hb; clear hg hbox hb; have ht_0 : w1.cell? ⟨tb, 0, none⟩ = some (.pointer (some ⟨g0, 0, none⟩)) := (blk_cell TB.out 0).trans rfl) | (go_at_call 46; (refine (branch_town_cheapest.calls k g0 a0_0 A0_1 c0_1 l0_1 (some mm) A1 c1 l1 _ (fun i => branch_town_first_1.f i) b1 b2 _ _ (blk_below HP0.out HB.out) (Kd.C_below HR0.out HB.out) HC0.out (Kd.C_below HR1.out HB.out) HC1.out (first1_fn _) HBT.out).mono ?_); rintro e w2 ⟨vb, rfl, ho, hb⟩; have n0_ := Aside0.mk (below_step HB.out hb); have n1_ := Aside0.mk (blk_below TB.out hb); clear HB TB; have HB := n0_; have TB := n1_; clear n0_ n1_ ho hb ht_0; have ht_0 : w2.cell? ⟨tb, 0, none⟩ = some (.pointer (some ⟨g0, 0, none⟩)) := (blk_cell TB.out 0).trans rfl; have hp_1 := drop_cell HX1.out HB.out; have hp_2 := drop_cell HX2.out HB.out))
    go_ret3
    exact ⟨_, by first | rfl | (simp; done), Kd.R_nil _ _ _ _ _, by repeat (first | (with_reducible first | exact HB.out | apply below_alloc | apply pw_below_drewN | apply below_drew1) | exact HB.out)⟩
  | true =>
    have h := H0.out
    simp only [if_true] at h
    clear H0
    have H0 := Aside0.mk h
    clear h
    go_enter Try.func51, Try.ntmps51
    go_upto_region 7 with (first | ((with_reducible refine gate_dst (N := 2) rfl ?_); refine box_event ?hg (N := 2) ?hd (cs := #[.pointer (some ⟨g0, 0, none⟩)]) (t := 65) ?hr ?_; (case hd => rfl); (case hg => rfl); (case hr => first | (go_simp; done) | (go_simp; rfl)); intro tb hg w1 hbox hb; have TB := Aside0.mk hbox; have GT := Aside0.mk (show w.heap.size ≤ tb by rw [hg]; exact Nat.le_refl _); clear HB; have HB := Aside0.mk hb; clear hg hbox hb; have ht_0 : w1.cell? ⟨tb, 0, none⟩ = some (.pointer (some ⟨g0, 0, none⟩)) := (blk_cell TB.out 0).trans rfl) | (go_at_call 46; (refine (branch_town_cheapest.calls k g0 a0_0 A0_1 c0_1 l0_1 (some mm) A1 c1 l1 _ (fun i => branch_town_first_1.f i) b1 b2 _ _ (blk_below HP0.out HB.out) (Kd.C_below HR0.out HB.out) HC0.out (Kd.C_below HR1.out HB.out) HC1.out (first1_fn _) HBT.out).mono ?_); rintro e w2 ⟨vb, rfl, ho, hb⟩; have n0_ := Aside0.mk (below_step HB.out hb); have n1_ := Aside0.mk (blk_below TB.out hb); clear HB TB; have HB := n0_; have TB := n1_; clear n0_ n1_ ho hb ht_0; have ht_0 : w2.cell? ⟨tb, 0, none⟩ = some (.pointer (some ⟨g0, 0, none⟩)) := (blk_cell TB.out 0).trans rfl; have hp_1 := drop_cell HX1.out HB.out; have hp_2 := drop_cell HX2.out HB.out) | ((with_reducible refine gate_dst (N := 32) rfl ?_); refine map_event ?hg (N := 32) ?hd ?hr ?_; (case hd => rfl); (case hg => rfl); (case hr => rfl); intro m hm w3 hmap hb; have HM := Aside0.mk (SetM.new hmap); have n0_ := Aside0.mk (blk_below (by (with_reducible repeat (first | refine blk_drewN ?_ _ | refine blk_drew ?_ | refine blk_alloc ?_ _)); exact TB.out) hb); have n1_ := Aside0.mk (below_step (by repeat (first | (with_reducible first | exact HB.out | apply below_alloc | apply pw_below_drewN | apply below_drew1) | exact HB.out)) hb); have GM := Aside0.mk ((by rw [hm]; exact (below_size (by repeat (first | (with_reducible first | exact HB.out | apply below_alloc | apply pw_below_drewN | apply below_drew1) | exact HB.out)))) : w.heap.size ≤ m); clear TB HB; have TB := n0_; have HB := n1_; clear n0_ n1_ hm hmap hb))
    obtain ⟨gq, hgq⟩ : ∃ gq, w3.heap.size = gq := ⟨_, rfl⟩
    rw [hgq]
    obtain ⟨wq, hwq⟩ : ∃ wq, w3.alloc (.cells #[.map (some m)] 92) = wq := ⟨_, rfl⟩
    rw [hwq]
    have n0_ : Below w3.heap.size w3 wq := hwq ▸ below_alloc (Below.refl _ _) _
    have FE := Aside0.mk (show FEnv w wq tb g0 gq m (.slice none 0 0) [] (fun _ => false) from ⟨below_step HB.out n0_, blk_below TB.out n0_, hgq ▸ hwq ▸ heap_alloc_new w3 _, HM.out.below n0_, Kd.R_nil _ _ _ _ _, GM.out⟩)
    clear n0_ hgq hwq HB TB HM ht_0 hp_1 hp_2
    have ht_0 : wq.cell? ⟨tb, 0, none⟩ = some (.pointer (some ⟨g0, 0, none⟩)) := (blk_cell FE.out.tB 0).trans rfl
    have hp_1 := drop_cell HX1.out FE.out.hB
    have hp_2 := drop_cell HX2.out FE.out.hB
    have hq_0 : wq.cell? ⟨gq, 0, none⟩ = some (.map (some m)) := (blk_cell FE.out.qB 0).trans rfl
    go_wp2
    go_loopg [11, 38] l0_1.length (fun kq v11 v38 w' => ∃ (i : Nat) (list : List Int) (gone : Int → Bool), v38 = .int .i64 (i : Int) ∧ Aside0 (i + kq = l0_1.length) ∧ Aside0 (firstL k a0_0 l0_1 l1 b1 kq i list gone = some (r1, r2, r3)) ∧ Aside0 (FEnv w w' tb g0 gq m v11 list gone))
    case atStart => exact ⟨0, [], _, rfl, ⟨by simp⟩, ⟨H0.out⟩, FE⟩
    case round =>
      clear H0 FE ht_0 hp_1 hp_2 hq_0
      obtain ⟨i, list, gone, rfl, HI, HH, FE⟩ := hrel
      have ht_0 : wr.cell? ⟨tb, 0, none⟩ = some (.pointer (some ⟨g0, 0, none⟩)) := (blk_cell FE.out.tB 0).trans rfl
      have hp_1 := drop_cell HX1.out FE.out.hB
      have hp_2 := drop_cell HX2.out FE.out.hB
      have hq_0 : wr.cell? ⟨gq, 0, none⟩ = some (.map (some m)) := (blk_cell FE.out.qB 0).trans rfl
      cases gk with
      | zero =>
        have hi := HI.out
        have c4b : decide ((i : Int) < (l0_1.length : Int)) = false := decide_eq_false (by omega)
        have c4b2 : decide (i < l0_1.length) = false := decide_eq_false (by omega)
        have hh := HH.out
        simp only [firstL, Option.some.injEq, Prod.mk.injEq] at hh
        obtain ⟨rfl, rfl, rfl⟩ := hh
        clear hi
        go_wp2
        go_ret3
        exact ⟨_, by first | rfl | (simp; done), FE.out.hL, FE.out.hB⟩
      | succ k1 =>
        have hi0 : (0 : Int) ≤ (i : Int) := Int.natCast_nonneg _
        have hi1 : (i : Int) < (l0_1.length : Int) := by have := HI.out; omega
        have c4b : decide ((i : Int) < (l0_1.length : Int)) = true := decide_eq_true hi1
        have c4b2 : decide (i < l0_1.length) = true := decide_eq_true (by omega)
        have hi2 : i < l0_1.length := by omega
        have hh := HH.out
        unfold firstL at hh
        obtain ⟨ad, e, hx_0, hx_1, hx_2⟩ := at_T30 HR0.out (i : Int) hi0 hi1
        cases e
        obtain ⟨tk, htk⟩ : ∃ tk, (rd_T30 l0_1 (i : Int)).f1 = tk := ⟨_, rfl⟩
        rw [htk] at hx_1 hh
        simp only [Int.toNat_natCast] at hx_1
        clear htk hx_0 hx_2 HH
        replace hx_1 := drop_cell hx_1 FE.out.hB
        replace hi0 := eq_true hi0
        replace hi1 := eq_true hi1
        replace hi2 := eq_true hi2
        obtain ⟨sk, hsk, hh⟩ := Option.bind_eq_some_iff.1 hh
        have HSK := Aside0.mk hsk
        have HH := Aside0.mk hh
        clear hsk hh
        go_upto_region 11 with (fail)
        (try simp only [Act.put, List.setIfInBounds_toArray, List.set_cons_zero, List.set_cons_succ])
        obtain ⟨gt, hgt⟩ : ∃ gt, wr.heap.size = gt := ⟨_, rfl⟩
        rw [hgt]
        obtain ⟨wq1, hwq⟩ : ∃ wq, wr.alloc (.cells #[.int .i64 tk] 3) = wq := ⟨_, rfl⟩
        rw [hwq]
        have n0_ : Below wr.heap.size wr wq1 := hwq ▸ below_alloc (Below.refl _ _) _
        have TK := Aside0.mk (hgt ▸ hwq ▸ heap_alloc_new wr _ : wq1.heap[gt]? = some (.cells #[.int .i64 tk] 3 (0, 0)))
        have GTK := Aside0.mk (hgt ▸ FE.out.hB.size : w.heap.size ≤ gt)
        have n1_ := Aside0.mk (FE.out.below n0_)
        clear FE ht_0 hp_1 hp_2 hq_0 hx_1 n0_ hgt hwq
        have FE := n1_
        clear n1_
        have ht_0 : wq1.cell? ⟨tb, 0, none⟩ = some (.pointer (some ⟨g0, 0, none⟩)) := (blk_cell FE.out.tB 0).trans rfl
        have hp_1 := drop_cell HX1.out FE.out.hB
        have hp_2 := drop_cell HX2.out FE.out.hB
        have hq_0 : wq1.cell? ⟨gq, 0, none⟩ = some (.map (some m)) := (blk_cell FE.out.qB 0).trans rfl
        have hk_0 : wq1.cell? ⟨gt, 0, none⟩ = some (.int .i64 tk) := (blk_cell TK.out 0).trans rfl
        obtain ⟨Al, cl, hvl⟩ := Kd.R_slice FE.out.hL
        subst hvl
        by_cases t0 : tk = 0
        · have hsk := HSK.out
          rw [if_pos t0] at hsk
          obtain rfl := Option.some.inj hsk
          have hh := HH.out
          simp only [if_true] at hh
          clear HH hsk
          have HH := Aside0.mk hh
          clear hh
          have s0 : (tk == 0) = true := beq_iff_eq.mpr t0
          have s0b : decide (tk = 0) = true := decide_eq_true t0
          clear t0
          go_wp2_with (first | (at_mapUpdate; refine update_event FE.out.hM Try.underlying92 Try.underlying3 rfl _ _ _ rfl (i := (i : Int)) rfl rfl rfl ?_; intro w6 hm6 hg6; have n0_ := Aside0.mk (FE.out.upd hm6 hg6); clear FE ht_0 hp_1 hp_2 hq_0 hk_0 hm6 hg6; have FE := n0_; clear n0_))
          go_roundg k1
          case measure => omega
          case rel => exact ⟨i + 1, list, _, val_succ2 i (by have := HI.out; have := HLEN.out; omega), ⟨by have := HI.out; omega⟩, ⟨HH.out⟩, FE⟩
        have hsk := HSK.out
        rw [if_neg t0] at hsk
        have HSK2 := Aside0.mk hsk
        have s0 : (tk == 0) = false := beq_eq_false_iff_ne.mpr t0
        have s0b : decide (tk = 0) = false := decide_eq_false t0
        clear t0 hsk HSK
        cases sk with
        | true =>
          have hh := HH.out
          simp only [if_true] at hh
          clear HH
          have HH := Aside0.mk hh
          clear hh
          go_wp2_with (first | (go_at_call 70; (refine (slices_ContainsFunc_int_int.calls k Al cl list _ (fun j => branch_town_first_2.f j a0_0 l0_1 tk) _ _ (Kd.R_reads' FE.out.hL).2.2 (Kd.R_reads' FE.out.hL).2.1 (first2_fn FE.out.tB (blk_below HP0.out FE.out.hB) (Kd.C_below HR0.out FE.out.hB) HC0.out TK.out) HSK2.out).mono ?_); rintro e w5 ⟨rfl, hb⟩; have n0_ := Aside0.mk (FE.out.below hb); have n1_ := Aside0.mk (blk_below TK.out hb); clear FE TK hb; have FE := n0_; have TK := n1_; clear n0_ n1_; clear ht_0 hp_1 hp_2 hq_0 hk_0; have ht_0 : w5.cell? ⟨tb, 0, none⟩ = some (.pointer (some ⟨g0, 0, none⟩)) := (blk_cell FE.out.tB 0).trans rfl; have hp_1 := drop_cell HX1.out FE.out.hB; have hp_2 := drop_cell HX2.out FE.out.hB; have hq_0 : w5.cell? ⟨gq, 0, none⟩ = some (.map (some m)) := (blk_cell FE.out.qB 0).trans rfl; have hk_0 : w5.cell? ⟨gt, 0, none⟩ = some (.int .i64 tk) := (blk_cell TK.out 0).trans rfl) | (at_mapUpdate; refine update_event FE.out.hM Try.underlying92 Try.underlying3 rfl _ _ _ rfl (i := (i : Int)) rfl rfl rfl ?_; intro w6 hm6 hg6; have n0_ := Aside0.mk (FE.out.upd hm6 hg6); clear FE ht_0 hp_1 hp_2 hq_0 hk_0 hm6 hg6; have FE := n0_; clear n0_))
          go_roundg k1
          case measure => omega
          case rel => exact ⟨i + 1, list, _, val_succ2 i (by have := HI.out; have := HLEN.out; omega), ⟨by have := HI.out; omega⟩, ⟨HH.out⟩, FE⟩
        | false =>
          have hh := HH.out
          simp only [Bool.false_eq_true, if_false] at hh
          obtain ⟨⟨d1, d2, d3⟩, hdt, hh⟩ := Option.bind_eq_some_iff.1 hh
          have HDT := Aside0.mk hdt
          have HH2 := Aside0.mk hh
          clear HH hdt hh
          go_upto_region 14 with (first | (go_at_call 70; (refine (slices_ContainsFunc_int_int.calls k Al cl list _ (fun j => branch_town_first_2.f j a0_0 l0_1 tk) _ _ (Kd.R_reads' FE.out.hL).2.2 (Kd.R_reads' FE.out.hL).2.1 (first2_fn FE.out.tB (blk_below HP0.out FE.out.hB) (Kd.C_below HR0.out FE.out.hB) HC0.out TK.out) HSK2.out).mono ?_); rintro e w5 ⟨rfl, hb⟩; have n0_ := Aside0.mk (FE.out.below hb); have n1_ := Aside0.mk (blk_below TK.out hb); clear FE TK hb; have FE := n0_; have TK := n1_; clear n0_ n1_; clear ht_0 hp_1 hp_2 hq_0 hk_0; have ht_0 : w5.cell? ⟨tb, 0, none⟩ = some (.pointer (some ⟨g0, 0, none⟩)) := (blk_cell FE.out.tB 0).trans rfl; have hp_1 := drop_cell HX1.out FE.out.hB; have hp_2 := drop_cell HX2.out FE.out.hB; have hq_0 : w5.cell? ⟨gq, 0, none⟩ = some (.map (some m)) := (blk_cell FE.out.qB 0).trans rfl; have hk_0 : w5.cell? ⟨gt, 0, none⟩ = some (.int .i64 tk) := (blk_cell TK.out 0).trans rfl) | ((with_reducible refine gate_dst (N := 58) rfl ?_); refine map_event ?hg (N := 58) ?hd ?hr ?_; (case hd => rfl); (case hg => rfl); (case hr => rfl); intro m2 hm w7 hmap hb; have HM2 := Aside0.mk (SetM.new hmap); have n0_ := Aside0.mk (FE.out.below hb); have n1_ := Aside0.mk (blk_below TK.out hb); have GM2 := Aside0.mk ((by rw [hm]; exact FE.out.hB.size) : w.heap.size ≤ m2); have NM := Aside0.mk ((by have := FE.out.hM.lt; rw [hm]; omega) : m ≠ m2); clear FE TK; have FE := n0_; have TK := n1_; clear n0_ n1_ hm hmap hb; clear ht_0 hp_1 hp_2 hq_0 hk_0; have ht_0 : w7.cell? ⟨tb, 0, none⟩ = some (.pointer (some ⟨g0, 0, none⟩)) := (blk_cell FE.out.tB 0).trans rfl; have hp_1 := drop_cell HX1.out FE.out.hB; have hp_2 := drop_cell HX2.out FE.out.hB; have hq_0 : w7.cell? ⟨gq, 0, none⟩ = some (.map (some m)) := (blk_cell FE.out.qB 0).trans rfl; have hk_0 : w7.cell? ⟨gt, 0, none⟩ = some (.int .i64 tk) := (blk_cell TK.out 0).trans rfl))
          obtain ⟨g2, hg2⟩ : ∃ g2, w7.heap.size = g2 := ⟨_, rfl⟩
          rw [hg2]
          obtain ⟨wq2, hwq⟩ : ∃ wq, w7.alloc (.cells #[.map (some m2)] 92) = wq := ⟨_, rfl⟩
          rw [hwq]
          have n0_ : Below w7.heap.size w7 wq2 := hwq ▸ below_alloc (Below.refl _ _) _
          have MB := Aside0.mk (hg2 ▸ hwq ▸ heap_alloc_new w7 _ : wq2.heap[g2]? = some (.cells #[.map (some m2)] 92 (0, 0)))
          have n1_ := Aside0.mk (FE.out.below n0_)
          have n2_ := Aside0.mk (blk_below TK.out n0_)
          have n3_ := Aside0.mk (HM2.out.below n0_)
          clear FE TK HM2 ht_0 hp_1 hp_2 hq_0 hk_0 n0_ hg2 hwq
          have FE := n1_; have TK := n2_; have HM2 := n3_
          clear n1_ n2_ n3_
          have ht_0 : wq2.cell? ⟨tb, 0, none⟩ = some (.pointer (some ⟨g0, 0, none⟩)) := (blk_cell FE.out.tB 0).trans rfl
          have hp_1 := drop_cell HX1.out FE.out.hB
          have hp_2 := drop_cell HX2.out FE.out.hB
          have hq_0 : wq2.cell? ⟨gq, 0, none⟩ = some (.map (some m)) := (blk_cell FE.out.qB 0).trans rfl
          have hk_0 : wq2.cell? ⟨gt, 0, none⟩ = some (.int .i64 tk) := (blk_cell TK.out 0).trans rfl
          have hm3 : ∀ w, (zeroValue 28).run Try.prog w = .ok (.slice none 0 0) w := fun w => by first | rfl | (go_simp; done)
          obtain ⟨vt, hlook, hRt, _, _⟩ := GrpM.lookup HG.out Try.underlying68 Try.underlying3 tk hm3
          obtain ⟨At, ct, hvt⟩ := Kd.R_slice hRt
          subst hvt
          have HRT := Aside0.mk (Kd.R_reads' hRt).2.2
          have hlk : (Instr.lookup 68 (.map (some mm)) (.int .i64 tk) false).run Try.prog wq2.drew = .ok (.slice At (toB l0_1 l0_1.length tk).length ct) wq2.drew := hlook _ (FE.out.hB.block mm HG.out.lt)
          obtain ⟨T, hT⟩ : ∃ T, toB l0_1 l0_1.length tk = T := ⟨_, rfl⟩
          have HTL := Aside0.mk (show T.length ≤ l0_1.length by rw [← hT]; exact toB_len _ _ _)
          rw [hT] at HRT hlk HH2 HDT
          clear hT hRt hlook hm3
          go_wp2_with fail
          go_region_held3 (fun w' => w'.cell? ⟨tb, 0, none⟩ = some (.pointer (some ⟨g0, 0, none⟩)) ∧ w'.cell? ⟨g0, 2, none⟩ = some (.map (some mm)) ∧ w'.cell? ⟨gt, 0, none⟩ = some (.int .i64 tk)) (go_keep) (fail)
          obtain ⟨wq3, hwq⟩ : ∃ wq, wq2.drew = wq := ⟨_, rfl⟩
          rw [hwq]
          have n0_ : Below wq2.heap.size wq2 wq3 := hwq ▸ below_drew1 (Below.refl _ _)
          have n1_ := Aside0.mk (FE.out.below n0_)
          have n2_ := Aside0.mk (blk_below TK.out n0_)
          have n3_ := Aside0.mk (HM2.out.below n0_)
          have n4_ := Aside0.mk (blk_below MB.out n0_)
          clear FE TK HM2 MB ht_0 hp_1 hp_2 hq_0 hk_0 n0_ hwq hlk
          have FE := n1_; have TK := n2_; have HM2 := n3_; have MB := n4_
          clear n1_ n2_ n3_ n4_
          go_wp2
          go_loopg [66] T.length (fun kq v66 w' => ∃ q : Nat, v66 = .int .i64 (q : Int) ∧ Aside0 (q + kq = T.length) ∧ Aside0 (FEnv w w' tb g0 gq m (.slice Al list.length cl) list gone) ∧ Aside0 (w'.heap[gt]? = some (.cells #[.int .i64 tk] 3 (0, 0))) ∧ Aside0 (w'.heap[g2]? = some (.cells #[.map (some m2)] 92 (0, 0))) ∧ Aside0 (SetM w' m2 (moreL (i : Int) (T.take q))))
          case atStart => exact ⟨0, rfl, ⟨by simp⟩, FE, TK, MB, ⟨by rw [List.take_zero, moreL_nil]; exact HM2.out⟩⟩
          case round =>
            clear FE TK MB HM2
            obtain ⟨q, rfl, HQ, FE, TK, MB, HM2⟩ := hrel
            have ht_0 : wr.cell? ⟨tb, 0, none⟩ = some (.pointer (some ⟨g0, 0, none⟩)) := (blk_cell FE.out.tB 0).trans rfl
            have hp_1 := drop_cell HX1.out FE.out.hB
            have hp_2 := drop_cell HX2.out FE.out.hB
            have hq_0 : wr.cell? ⟨gq, 0, none⟩ = some (.map (some m)) := (blk_cell FE.out.qB 0).trans rfl
            have hm_0 : wr.cell? ⟨g2, 0, none⟩ = some (.map (some m2)) := (blk_cell MB.out 0).trans rfl
            cases gk with
            | zero =>
              have hq := HQ.out
              have d4b : decide ((q : Int) < (T.length : Int)) = false := decide_eq_false (by omega)
              have d4b2 : decide (q < T.length) = false := decide_eq_false (by omega)
              have hM2 := HM2.out
              rw [List.take_of_length_le (by omega)] at hM2
              clear HM2 hq
              have HM2 := Aside0.mk hM2
              clear hM2
              cases d3 with
              | false =>
                have hh := HH2.out
                simp only [Bool.false_and, Bool.false_eq_true, if_false] at hh
                clear HH2
                have HH := Aside0.mk hh
                clear hh
                go_wp2_with (first | (go_at_call 46; (refine (branch_town_cheapest.calls k g0 a0_0 _ c0_1 l0_1 (some mm) A1 c1 l1 _ (fun j => some (gone j || moreL (i : Int) T j)) d1 d2 _ _ (blk_below HP0.out FE.out.hB) (Kd.C_below HR0.out FE.out.hB) HC0.out (Kd.C_below HR1.out FE.out.hB) HC1.out (first3_fn FE.out.qB MB.out FE.out.hM HM2.out) HDT.out).mono ?_); rintro e w9 ⟨ve, rfl, ho, hb⟩; have n0_ := Aside0.mk (FE.out.below hb); have n1_ := Aside0.mk (blk_below MB.out hb); have n2_ := Aside0.mk (HM2.out.below hb); clear FE MB HM2 ho hb ht_0 hp_1 hp_2 hq_0 hm_0; have FE := n0_; have MB := n1_; have HM2 := n2_; clear n0_ n1_ n2_; have hq_0 : w9.cell? ⟨gq, 0, none⟩ = some (.map (some m)) := (blk_cell FE.out.qB 0).trans rfl; have hm_0 : w9.cell? ⟨g2, 0, none⟩ = some (.map (some m2)) := (blk_cell MB.out 0).trans rfl) | (at_mapUpdate; refine update_event FE.out.hM Try.underlying92 Try.underlying3 rfl _ _ _ rfl (i := (i : Int)) rfl rfl rfl ?_; intro w6 hm6 hg6; have n0_ := Aside0.mk (FE.out.upd hm6 hg6); clear FE hq_0 hm_0 hm6 hg6; have FE := n0_; clear n0_))
                go_roundg k1
                case measure => omega
                case rel => exact ⟨i + 1, list, _, val_succ2 i (by have := HI.out; have := HLEN.out; omega), ⟨by have := HI.out; omega⟩, ⟨HH.out⟩, FE⟩
              | true =>
                by_cases t5 : d1 = b1
                case neg =>
                  have s5 : (d1 == b1) = false := beq_eq_false_iff_ne.mpr t5
                  have s5b : decide (d1 = b1) = false := decide_eq_false t5
                  clear t5
                  have hh := HH2.out
                  simp only [s5, Bool.and_false, Bool.false_eq_true, if_false] at hh
                  clear HH2
                  have HH := Aside0.mk hh
                  clear hh
                  go_wp2_with (first | (go_at_call 46; (refine (branch_town_cheapest.calls k g0 a0_0 _ c0_1 l0_1 (some mm) A1 c1 l1 _ (fun j => some (gone j || moreL (i : Int) T j)) d1 d2 _ _ (blk_below HP0.out FE.out.hB) (Kd.C_below HR0.out FE.out.hB) HC0.out (Kd.C_below HR1.out FE.out.hB) HC1.out (first3_fn FE.out.qB MB.out FE.out.hM HM2.out) HDT.out).mono ?_); rintro e w9 ⟨ve, rfl, ho, hb⟩; have n0_ := Aside0.mk (FE.out.below hb); have n1_ := Aside0.mk (blk_below MB.out hb); have n2_ := Aside0.mk (HM2.out.below hb); clear FE MB HM2 ho hb ht_0 hp_1 hp_2 hq_0 hm_0; have FE := n0_; have MB := n1_; have HM2 := n2_; clear n0_ n1_ n2_; have hq_0 : w9.cell? ⟨gq, 0, none⟩ = some (.map (some m)) := (blk_cell FE.out.qB 0).trans rfl; have hm_0 : w9.cell? ⟨g2, 0, none⟩ = some (.map (some m2)) := (blk_cell MB.out 0).trans rfl) | (at_mapUpdate; refine update_event FE.out.hM Try.underlying92 Try.underlying3 rfl _ _ _ rfl (i := (i : Int)) rfl rfl rfl ?_; intro w6 hm6 hg6; have n0_ := Aside0.mk (FE.out.upd hm6 hg6); clear FE hq_0 hm_0 hm6 hg6; have FE := n0_; clear n0_))
                  go_roundg k1
                  case measure => omega
                  case rel => exact ⟨i + 1, list, _, val_succ2 i (by have := HI.out; have := HLEN.out; omega), ⟨by have := HI.out; omega⟩, ⟨HH.out⟩, FE⟩
                have s5 : (d1 == b1) = true := beq_iff_eq.mpr t5
                have s5b : decide (d1 = b1) = true := decide_eq_true t5
                clear t5
                have hh := HH2.out
                simp only [s5, Bool.and_true, if_true] at hh
                by_cases hll : list.length < 1000000
                case neg => rw [if_neg hll] at hh; exact absurd hh (by simp)
                rw [if_pos hll] at hh
                have HLL := Aside0.mk hll
                clear HH2 hll
                have HH := Aside0.mk hh
                clear hh
                go_wp2_with (first | (go_at_call 46; (refine (branch_town_cheapest.calls k g0 a0_0 _ c0_1 l0_1 (some mm) A1 c1 l1 _ (fun j => some (gone j || moreL (i : Int) T j)) d1 d2 _ _ (blk_below HP0.out FE.out.hB) (Kd.C_below HR0.out FE.out.hB) HC0.out (Kd.C_below HR1.out FE.out.hB) HC1.out (first3_fn FE.out.qB MB.out FE.out.hM HM2.out) HDT.out).mono ?_); rintro e w9 ⟨ve, rfl, ho, hb⟩; have n0_ := Aside0.mk (FE.out.below hb); have n1_ := Aside0.mk (blk_below MB.out hb); have n2_ := Aside0.mk (HM2.out.below hb); clear FE MB HM2 ho hb ht_0 hp_1 hp_2 hq_0 hm_0; have FE := n0_; have MB := n1_; have HM2 := n2_; clear n0_ n1_ n2_; have hq_0 : w9.cell? ⟨gq, 0, none⟩ = some (.map (some m)) := (blk_cell FE.out.qB 0).trans rfl; have hm_0 : w9.cell? ⟨g2, 0, none⟩ = some (.map (some m2)) := (blk_cell MB.out 0).trans rfl) | ((with_reducible refine gate_builtin (b := .append) (xs := #[.tmp 90, .tmp 92]) rfl ?_); at_builtin; refine Kd.R_append (Kd.int .i64) (w0 := w) w.heap.size rfl (.tmp 90) (.tmp 92) 28 3 (.int .i64 0) 8 rfl Try.underlying28 info3 rfl (by decide) (by omega) (.slice Al list.length cl) list (i : Int) [.int .i64 (i : Int)] (fun _ => True) (fun _ => False) rfl (by first | (go_simp; done) | (go_simp; rfl)) ?aP (fun _ hk => hk.elim) ?aF ?aO ?aB ?aS ?aL ?_; (case aP => exact rfl); (case aB => exact (by repeat (first | exact FE.out.hB | apply below_alloc | apply below_drew1))); (case aF => exact (fun _ _ => trivial)); (case aO => exact (by (with_reducible repeat (first | apply Kd.R_alloc | apply Kd.R_drewN | apply Kd.R_drew)); exact FE.out.hL)); (case aS => exact (below_size (by repeat (first | exact FE.out.hB | apply below_alloc | apply below_drew1)))); (case aL => have := HLL.out; omega); intro v2 w10 ho hb hg hat; have hg2 : w9.grownBy w10 (Value.slice Al list.length cl).ownBlock := (by first | exact hg | exact grown_then (below_alloc (Below.refl _ _) _) hg); have n1_ := Aside0.mk (blk_grown MB.out hg2 (Kd.R_ne FE.out.hL MB.out (by decide))); have n2_ := Aside0.mk (HM2.out.row FE.out.hL hg2); have n0_ := Aside0.mk (FE.out.app hb hg2 ho); clear FE MB HM2 ho hb hg hat hg2 hq_0 hm_0; have FE := n0_; have MB := n1_; have HM2 := n2_; clear n0_ n1_ n2_; have hq_0 : w10.cell? ⟨gq, 0, none⟩ = some (.map (some m)) := (blk_cell FE.out.qB 0).trans rfl; have hm_0 : w10.cell? ⟨g2, 0, none⟩ = some (.map (some m2)) := (blk_cell MB.out 0).trans rfl) | (at_range; refine range_event HM2.out Try.underlying92 rfl _ rfl rfl ?_; intro r w11 cnt hr hI hb; have n0_ := Aside0.mk (FE.out.below hb); have GR := Aside0.mk (Nat.le_trans FE.out.hB.size hr); have HI3 := Aside0.mk hI; clear FE MB HM2 hr hI hb hq_0 hm_0; have FE := n0_; clear n0_))
                obtain ⟨Tm, hTm⟩ : ∃ Tm, moreL (i : Int) T = Tm := ⟨_, rfl⟩
                rw [hTm] at HI3 HH
                clear hTm HDT
                go_frame
                go_loopg [21] cnt (fun kq v21 w' => ∃ dn gd : Int → Bool, Aside0 (∀ j, gd j = (gone j || dn j)) ∧ Aside0 (IterM w' m2 r Tm dn kq) ∧ Aside0 (FEnv w w' tb g0 gq m v2 (list ++ [(i : Int)]) gd))
                case atStart => exact ⟨fun _ => false, gone, ⟨fun j => by simp⟩, HI3, FE⟩
                case round =>
                  clear FE HI3
                  obtain ⟨dn, gd, HD, HI3, FE⟩ := hrel
                  go_wp2_with (first | (at_next; refine next_event HI3.out rfl _ rfl rfl ?_ ?_; rotate_left; (intro y w12 cnt1 hgx hdx hI2 hlt hg hen; have n0_ := Aside0.mk (FE.out.iter HI3.out GR.out hg); clear FE HI3; have FE := n0_; have HI3 := Aside0.mk hI2; have HLT := Aside0.mk hlt; clear n0_ hI2 hg hgx hdx hlt; have hq_0 : w12.cell? ⟨gq, 0, none⟩ = some (.map (some m)) := (blk_cell FE.out.qB 0).trans rfl); rotate_left; (intro h0 hd; have HDD := Aside0.mk hd; clear h0 hd)) | (at_mapUpdate; refine update_event FE.out.hM Try.underlying92 Try.underlying3 rfl _ _ _ rfl (i := y) rfl rfl rfl ?_; intro w13 hm13 hg13; have n0_ := Aside0.mk (FE.out.upd hm13 hg13); have n1_ := Aside0.mk (HI3.out.turn hg13 (fun h => NM.out h.symm) (HI3.out.ne_map FE.out.hM)); clear FE HI3 hq_0 hen hm13 hg13; have FE := n0_; have HI3 := n1_; clear n0_ n1_))
                  · go_roundg k1
                    case measure => omega
                    case rel => exact ⟨i + 1, list ++ [(i : Int)], gd, val_succ2 i (by have := HI.out; have := HLEN.out; omega), ⟨by have := HI.out; omega⟩, ⟨by have hh := HH.out; have e : (fun j => gone j || Tm j) = gd := funext (fun j => by rw [HD.out j, HDD.out j]); rw [← e]; exact hh⟩, FE⟩
                  · go_roundg cnt1
                    case measure => exact HLT.out
                    case rel => exact ⟨fun j => decide (j = y) || dn j, fun j => decide (j = y) || gd j, ⟨fun j => by simp only [HD.out j]; cases decide (j = y) <;> cases gone j <;> cases dn j <;> rfl⟩, HI3, FE⟩
            | succ k2 =>
              have hj0 : (0 : Int) ≤ (q : Int) := Int.natCast_nonneg _
              have hj1 : (q : Int) < (T.length : Int) := by have := HQ.out; omega
              have d4b : decide ((q : Int) < (T.length : Int)) = true := decide_eq_true hj1
              have hj2 : q < T.length := by omega
              have d4b2 : decide (q < T.length) = true := decide_eq_true hj2
              obtain ⟨ade, e, hy_0⟩ := Kd.at_int HRT.out (q : Int) hj0 hj1
              cases e
              have hts := take_rdI T q hj2
              obtain ⟨y, hy⟩ : ∃ y, rd T (q : Int) = y := ⟨_, rfl⟩
              rw [hy] at hy_0 hts
              simp only [Int.toNat_natCast] at hy_0
              replace hy_0 := drop_cell hy_0 FE.out.hB
              have HTS := Aside0.mk hts
              clear hy hts
              replace hj0 := eq_true hj0
              replace hj1 := eq_true hj1
              replace hj2 := eq_true hj2
              by_cases t6 : y = (i : Int)
              · have s6 : (y == (i : Int)) = true := beq_iff_eq.mpr t6
                have s6b : (y != (i : Int)) = false := bne_eq_false_iff_eq.mpr t6
                have s6c : decide (y = (i : Int)) = true := decide_eq_true t6
                have T6 := Aside0.mk t6
                clear t6
                go_wp2
                go_roundg k2
                case measure => omega
                case rel => exact ⟨q + 1, val_succ2 q (by have := HQ.out; have := HTL.out; have := HLEN.out; omega), ⟨by have := HQ.out; omega⟩, FE, TK, MB, ⟨by rw [HTS.out, T6.out, moreL_snoc_eq]; exact HM2.out⟩⟩
              · have s6 : (y == (i : Int)) = false := beq_eq_false_iff_ne.mpr t6
                have s6b : (y != (i : Int)) = true := bne_iff_ne.mpr t6
                have s6c : decide (y = (i : Int)) = false := decide_eq_false t6
                have T6 := Aside0.mk t6
                clear t6
                go_wp2_with (first | (at_mapUpdate; refine update_event HM2.out Try.underlying92 Try.underlying3 rfl _ _ _ rfl (i := y) rfl rfl rfl ?_; intro w6 hm6 hg6; have n0_ := Aside0.mk (FE.out.other HM2.out NM.out GM2.out hg6); have n1_ := Aside0.mk (blk_grown TK.out hg6 (by have := HM2.out.ne_cells TK.out; intro h; injection h with h; exact this h.symm)); have n2_ := Aside0.mk (blk_grown MB.out hg6 (by have := HM2.out.ne_cells MB.out; intro h; injection h with h; exact this h.symm)); clear FE TK MB HM2 ht_0 hp_1 hp_2 hq_0 hm_0 hy_0 hg6; have FE := n0_; have TK := n1_; have MB := n2_; have HM2 := Aside0.mk hm6; clear n0_ n1_ n2_ hm6))
                go_roundg k2
                case measure => omega
                case rel => exact ⟨q + 1, val_succ2 q (by have := HQ.out; have := HTL.out; have := HLEN.out; omega), ⟨by have := HQ.out; omega⟩, FE, TK, MB, ⟨by rw [HTS.out, moreL_snoc_ne _ _ _ T6.out]; exact HM2.out⟩⟩
end Go.Proofs.Ytpmadffgdfholaa.B
namespace Go.Proofs.Ytpmadffgdfholaa.B
open Go.RowKit Go.MapKept Go.Proofs.YtpmadffgdfholaaW.PrintWords Go.Proofs.YtpmadffgdfholaaW.PrintLast Go.Proofs.YtpmadffgdfholaaW.PrintMore
set_option linter.unusedVariables false
set_option linter.unusedSimpArgs false
attribute [local go_sem ↓] Go.wp_at_zero Go.wp_at_succ
def branch_Branching.f (k : Nat) (a0 : Int) (l1 : List S30) : Option (List Int × Int × Int) :=
  (branch_read.f a0 l1).bind fun t => if t = 0 then (branch_town_costs.f k a0 l1).bind fun p => branch_town_first.f k a0 l1 p else some ([], 0, t)
theorem branch_Branching.mono : ∀ a0 a1 k, LeO (branch_Branching.f k a0 a1) (branch_Branching.f (k + 1) a0 a1) := by
  intro a0 a1 k
  unfold branch_Branching.f
  refine LeO.bind (LeO.refl _) fun t => LeO.ite ?_ (LeO.refl _)
  exact LeO.bind (branch_town_costs.mono _ _ k) fun p => branch_town_first.mono _ _ _ k
/-- What Dear's prices are. -/
def dearB (p : List Int) : List Int := p.map fun x => wrap64 (1000 - x)
def branch_Dear.f (k : Nat) (a0 : Int) (l1 : List S30) : Option (List Int × Int × Int) :=
  (branch_read.f a0 l1).bind fun t => if t = 0 then (branch_town_costs.f k a0 l1).bind fun p => if p.length < 17592186044416 then (branch_town_first.f k a0 l1 (dearB p)).bind fun r =>
    if r.2.2 = 0 then some (r.1, wrap64 (wrap64 (wrap64 (a0 - 1) * 1000) - r.2.1), 0) else some ([], 0, r.2.2) else none else some ([], 0, t)
set_option maxHeartbeats 8000000 in
set_option maxRecDepth 100000 in
theorem branch_Branching.calls (k : Nat) (a0 : Int) (A1 : Option Addr) (c1 : Nat) (l1 : List S30) (r1 : List Int) (r2 r3 : Int) (w : World) (hr1 : Kd.C k30 w A1 l1.length l1) (hc1 : l1.length ≤ c1) (h : branch_Branching.f k a0 l1 = some (r1, r2, r3)) :
    Calls Try.prog 24 #[.int .i64 a0, .slice A1 l1.length c1] w fun e w' => ∃ v0_ : Value, e = .returned (.tuple #[v0_, .int .i64 r2, .int .i64 r3]) ∧ Kd.R (Kd.int .i64) 3 w' w.heap.size (fun _ => True) v0_ r1 ∧ Below w.heap.size w w' := by
  have HR1 := Aside0.mk hr1
  have HC1 := Aside0.mk hc1
  clear hr1 hc1
  have HB := Aside0.mk (Below.refl w.heap.size w)
  unfold branch_Branching.f at h
  obtain ⟨t, ht, h⟩ := Option.bind_eq_some_iff.1 h
  have HT0 := Aside0.mk ht
  clear ht
  by_cases c3 : t = 0
  case neg =>
    rw [if_neg c3] at h
    have c3b : (t == 0) = false := beq_eq_false_iff_ne.mpr c3
    have c3c : (t != 0) = true := bne_iff_ne.mpr c3
    simp only [Option.some.injEq, Prod.mk.injEq] at h
    obtain ⟨rfl, rfl, rfl⟩ := h
    clear c3
    go_enter Try.func24, Try.ntmps24
    go_wp2_with (first | (go_at_call 44; (refine (branch_read.calls_err a0 A1 c1 l1 t _ HR1.out HC1.out HT0.out (by assumption)).mono ?_); rintro e w1 ⟨rfl, hb⟩; clear HB; have HB := Aside0.mk hb; clear hb))
    go_ret3
    exact ⟨_, by first | rfl | (simp; done), Kd.R_nil _ _ _ _ _, HB.out⟩
  rw [if_pos c3] at h
  have c3b : (t == 0) = true := beq_iff_eq.mpr c3
  have c3c : (t != 0) = false := bne_eq_false_iff_eq.mpr c3
  clear c3
  obtain ⟨p, hp, h⟩ := Option.bind_eq_some_iff.1 h
  have HPR := Aside0.mk hp
  clear hp
  have HF := Aside0.mk h
  clear h
  go_enter Try.func24, Try.ntmps24
  go_wp2_with (first | (go_at_call 44; (refine (branch_read.calls_map a0 A1 c1 l1 t _ HR1.out HC1.out HT0.out (by assumption)).mono ?_); rintro e w1 ⟨gt, mm, rfl, hg, hbox, hgm, hb⟩; have GT := Aside0.mk hg; have HT := Aside0.mk hbox; have HG := Aside0.mk hgm; clear HB; have HB := Aside0.mk hb; clear hg hbox hgm hb) | (go_at_call 47; (refine (branch_town_costs.calls k gt a0 A1 c1 l1 (some mm) p _ HT.out (Kd.C_below HR1.out HB.out) HC1.out HPR.out).mono ?_); rintro e w2 ⟨vl, rfl, ho, hb⟩; obtain ⟨Al, cl, hvl⟩ := Kd.R_slice ho; subst hvl; have HO := Aside0.mk (Kd.R_lower ho (below_size HB.out)); have n0_ := Aside0.mk (blk_below HT.out hb); have n1_ := Aside0.mk (below_step HB.out hb); have n2_ := Aside0.mk (HG.out.below hb); clear HT HB HG; have HT := n0_; have HB := n1_; have HG := n2_; clear n0_ n1_ n2_ ho hb) | (go_at_call 51; (refine (branch_town_first.calls k gt a0 A1 c1 l1 mm w.heap.size Al cl p r1 r2 r3 _ HT.out (Kd.C_below HR1.out HB.out) HC1.out (Kd.R_reads' HO.out).2.2 (Kd.R_reads' HO.out).2.1 HG.out HF.out).mono ?_); rintro e w3 ⟨vf, rfl, ho, hb⟩; have HV := Aside0.mk (Kd.R_lower ho (below_size HB.out)); have n0_ := Aside0.mk (below_step HB.out hb); clear HB; have HB := n0_; clear n0_ ho hb))
  go_ret3
  exact ⟨_, by first | rfl | (simp; done), by (with_reducible repeat (first | apply Kd.R_alloc | apply Kd.R_drewN | apply Kd.R_drew)); exact HV.out, by repeat (first | (with_reducible first | exact HB.out | apply below_alloc | apply pw_below_drewN | apply below_drew1) | exact HB.out)⟩
end Go.Proofs.Ytpmadffgdfholaa.B
namespace Go.Proofs.Ytpmadffgdfholaa.B
open Go.RowKit Go.Proofs.YtpmadffgdfholaaW.PrintWords Go.Proofs.YtpmadffgdfholaaW.PrintLast Go.Proofs.YtpmadffgdfholaaW.PrintMore
attribute [local go_sem] max2_int min2_int max_two min_two max_three min_three max_four min_four   -- for this text's walks alone
set_option linter.unusedVariables false
set_option linter.unusedSimpArgs false
def trishawlaw03_alive.f (k : Nat)  : Option (Bool) := (trishawlaw03_three.f).bind fun t101 => ((branch_Branching.f k 3 t101).bind fun bt104 => ((trishawlaw03_three.f).bind fun t109 => ((branch_Proves.f k 3 t109 (([(⟨4, 1⟩ : S41), (⟨2, 2⟩ : S41)] : List (S41)))).bind fun bt115 => ((trishawlaw03_three.f).bind fun t118 => ((branch_Count.f k 3 t118).bind fun bt121 => ((trishawlaw03_three.f).bind fun t123 => ((branch_Narrow.f k 3 t123).bind fun bt126 => (if bt104.2.2 = 0 then ((trishawlaw03_same.f k bt104.1 (([1, 2] : List Int))).bind fun t132 => (if t132 = true then (if bt104.2.1 = 3 then (if bt115.2.2 = 0 then (if bt115.2.1 = true then (if bt115.1 = 3 then (if bt121.2 = 0 then (if bt121.1 = 2 then (if bt126.2.2 = 0 then (if bt126.1 = 1 then (some (bt126.2.1 == 4)) else (some false)) else (some false)) else (some false)) else (some false)) else (some false)) else (some false)) else (some false)) else (some false)) else (some false))) else (some false)))))))))
theorem trishawlaw03_alive.mono : ∀ k, LeO (trishawlaw03_alive.f k ) (trishawlaw03_alive.f (k + 1) ) := by
  intro  k
  unfold trishawlaw03_alive.f
  repeat' first
      | (with_reducible exact branch_Branching.mono _ _ _)
      | (with_reducible exact branch_Count.mono _ _ _)
      | (with_reducible exact branch_Narrow.mono _ _ _)
      | (with_reducible exact branch_Proves.mono _ _ _ _)
      | (with_reducible exact trishawlaw03_same.mono _ _ _)
      | (with_reducible exact LeO.refl _)
      | (with_reducible exact LeO.none _)
      | (with_reducible refine LeO.ite ?_ ?_)
      | (with_reducible refine LeO.bind ?_ (fun _ => ?_))
      | exact branch_Branching.mono _ _ _
      | exact branch_Count.mono _ _ _
      | exact branch_Narrow.mono _ _ _
      | exact branch_Proves.mono _ _ _ _
      | exact trishawlaw03_same.mono _ _ _
      | exact LeO.none _
      | refine LeO.ite ?_ ?_
      | refine LeO.bind ?_ (fun _ => ?_)
theorem alive_true : trishawlaw03_alive.f 60 = some true := by kernel_rfl
theorem alive_from (k : Nat) (h : 60 ≤ k) : trishawlaw03_alive.f k = some true := by
  obtain ⟨d, rfl⟩ : ∃ d, k = 60 + d := ⟨k - 60, by omega⟩
  induction d with
  | zero => exact alive_true
  | succ d ih => exact trishawlaw03_alive.mono (60 + d) true (ih (by omega))
theorem alive_up (k : Nat) (r : Bool) (h : trishawlaw03_alive.f k = some r) (d : Nat) : trishawlaw03_alive.f (k + d) = some r := by
  induction d with
  | zero => exact h
  | succ d ih => exact trishawlaw03_alive.mono (k + d) r ih
theorem alive_only (k : Nat) (r : Bool) (h : trishawlaw03_alive.f k = some r) : r = true := by
  have h1 := alive_up k r h 60
  rw [alive_from (k + 60) (by omega)] at h1
  exact (Option.some.inj h1).symm
set_option maxHeartbeats 8000000 in
set_option maxRecDepth 100000 in
theorem trishawlaw03_alive.calls (k : Nat)  (r : Bool) (w : World) (h : trishawlaw03_alive.f k  = some r) :
    Calls Try.prog 17 #[] w fun e w' => e = .returned (.bool r) ∧ Below w.heap.size w w' := by
  have hu41 := Try.underlying41
  have HB := Aside0.mk (Below.refl w.heap.size w)
  have H : ((trishawlaw03_three.f).bind fun t101 => ((branch_Branching.f k 3 t101).bind fun bt104 => ((trishawlaw03_three.f).bind fun t109 => ((branch_Proves.f k 3 t109 (([(⟨4, 1⟩ : S41), (⟨2, 2⟩ : S41)] : List (S41)))).bind fun bt115 => ((trishawlaw03_three.f).bind fun t118 => ((branch_Count.f k 3 t118).bind fun bt121 => ((trishawlaw03_three.f).bind fun t123 => ((branch_Narrow.f k 3 t123).bind fun bt126 => (if bt104.2.2 = 0 then ((trishawlaw03_same.f k bt104.1 (([1, 2] : List Int))).bind fun t132 => (if t132 = true then (if bt104.2.1 = 3 then (if bt115.2.2 = 0 then (if bt115.2.1 = true then (if bt115.1 = 3 then (if bt121.2 = 0 then (if bt121.1 = 2 then (if bt126.2.2 = 0 then (if bt126.1 = 1 then (some (bt126.2.1 == 4)) else (some false)) else (some false)) else (some false)) else (some false)) else (some false)) else (some false)) else (some false)) else (some false)) else (some false))) else (some false)))))))))) = some r := h
  have HRT := Aside0.mk (alive_only k r h)
  clear h
  replace H := Option.bind_eq_some_iff.mp H
  obtain ⟨t101, A10, H⟩ := H
  replace H : ((branch_Branching.f k 3 t101).bind fun bt104 => ((trishawlaw03_three.f).bind fun t109 => ((branch_Proves.f k 3 t109 (([(⟨4, 1⟩ : S41), (⟨2, 2⟩ : S41)] : List (S41)))).bind fun bt115 => ((trishawlaw03_three.f).bind fun t118 => ((branch_Count.f k 3 t118).bind fun bt121 => ((trishawlaw03_three.f).bind fun t123 => ((branch_Narrow.f k 3 t123).bind fun bt126 => (if bt104.2.2 = 0 then ((trishawlaw03_same.f k bt104.1 (([1, 2] : List Int))).bind fun t132 => (if t132 = true then (if bt104.2.1 = 3 then (if bt115.2.2 = 0 then (if bt115.2.1 = true then (if bt115.1 = 3 then (if bt121.2 = 0 then (if bt121.1 = 2 then (if bt126.2.2 = 0 then (if bt126.1 = 1 then (some (bt126.2.1 == 4)) else (some false)) else (some false)) else (some false)) else (some false)) else (some false)) else (some false)) else (some false)) else (some false)) else (some false))) else (some false))))))))) = some r := H
  have A1 := Aside0.mk A10
  clear A10
  replace H := Option.bind_eq_some_iff.mp H
  obtain ⟨⟨t104, t105, t106⟩, A20, H⟩ := H
  replace H : ((trishawlaw03_three.f).bind fun t109 => ((branch_Proves.f k 3 t109 (([(⟨4, 1⟩ : S41), (⟨2, 2⟩ : S41)] : List (S41)))).bind fun bt115 => ((trishawlaw03_three.f).bind fun t118 => ((branch_Count.f k 3 t118).bind fun bt121 => ((trishawlaw03_three.f).bind fun t123 => ((branch_Narrow.f k 3 t123).bind fun bt126 => (if t106 = 0 then ((trishawlaw03_same.f k t104 (([1, 2] : List Int))).bind fun t132 => (if t132 = true then (if t105 = 3 then (if bt115.2.2 = 0 then (if bt115.2.1 = true then (if bt115.1 = 3 then (if bt121.2 = 0 then (if bt121.1 = 2 then (if bt126.2.2 = 0 then (if bt126.1 = 1 then (some (bt126.2.1 == 4)) else (some false)) else (some false)) else (some false)) else (some false)) else (some false)) else (some false)) else (some false)) else (some false)) else (some false))) else (some false)))))))) = some r := H
  have A2 := Aside0.mk A20
  clear A20
  replace H := Option.bind_eq_some_iff.mp H
  obtain ⟨t109, A30, H⟩ := H
  replace H : ((branch_Proves.f k 3 t109 (([(⟨4, 1⟩ : S41), (⟨2, 2⟩ : S41)] : List (S41)))).bind fun bt115 => ((trishawlaw03_three.f).bind fun t118 => ((branch_Count.f k 3 t118).bind fun bt121 => ((trishawlaw03_three.f).bind fun t123 => ((branch_Narrow.f k 3 t123).bind fun bt126 => (if t106 = 0 then ((trishawlaw03_same.f k t104 (([1, 2] : List Int))).bind fun t132 => (if t132 = true then (if t105 = 3 then (if bt115.2.2 = 0 then (if bt115.2.1 = true then (if bt115.1 = 3 then (if bt121.2 = 0 then (if bt121.1 = 2 then (if bt126.2.2 = 0 then (if bt126.1 = 1 then (some (bt126.2.1 == 4)) else (some false)) else (some false)) else (some false)) else (some false)) else (some false)) else (some false)) else (some false)) else (some false)) else (some false))) else (some false))))))) = some r := H
  have A3 := Aside0.mk A30
  clear A30
  obtain ⟨y112, hy112⟩ : ∃ y_ : List (S41), y_ = (([(⟨4, 1⟩ : S41), (⟨2, 2⟩ : S41)] : List (S41))) := ⟨_, rfl⟩
  replace H : ((branch_Proves.f k 3 t109 y112).bind fun bt115 => ((trishawlaw03_three.f).bind fun t118 => ((branch_Count.f k 3 t118).bind fun bt121 => ((trishawlaw03_three.f).bind fun t123 => ((branch_Narrow.f k 3 t123).bind fun bt126 => (if t106 = 0 then ((trishawlaw03_same.f k t104 (([1, 2] : List Int))).bind fun t132 => (if t132 = true then (if t105 = 3 then (if bt115.2.2 = 0 then (if bt115.2.1 = true then (if bt115.1 = 3 then (if bt121.2 = 0 then (if bt121.1 = 2 then (if bt126.2.2 = 0 then (if bt126.1 = 1 then (some (bt126.2.1 == 4)) else (some false)) else (some false)) else (some false)) else (some false)) else (some false)) else (some false)) else (some false)) else (some false)) else (some false))) else (some false))))))) = some r := by first | (rw [hy112]; with_reducible exact H) | (have H2_ := (Option.bind_some _ _).symm.trans H; rw [hy112]; with_reducible exact H2_) | (have H2_ := (Option.bind_some _ _).symm.trans H; with_reducible exact H2_) | with_reducible exact H | (rw [hy112]; exact H) | exact H
  have Ny112 := Aside0.mk hy112
  clear hy112
  replace H := Option.bind_eq_some_iff.mp H
  obtain ⟨⟨t115, t116, t117⟩, A40, H⟩ := H
  replace H : ((trishawlaw03_three.f).bind fun t118 => ((branch_Count.f k 3 t118).bind fun bt121 => ((trishawlaw03_three.f).bind fun t123 => ((branch_Narrow.f k 3 t123).bind fun bt126 => (if t106 = 0 then ((trishawlaw03_same.f k t104 (([1, 2] : List Int))).bind fun t132 => (if t132 = true then (if t105 = 3 then (if t117 = 0 then (if t116 = true then (if t115 = 3 then (if bt121.2 = 0 then (if bt121.1 = 2 then (if bt126.2.2 = 0 then (if bt126.1 = 1 then (some (bt126.2.1 == 4)) else (some false)) else (some false)) else (some false)) else (some false)) else (some false)) else (some false)) else (some false)) else (some false)) else (some false))) else (some false)))))) = some r := H
  have A4 := Aside0.mk A40
  clear A40
  replace H := Option.bind_eq_some_iff.mp H
  obtain ⟨t118, A50, H⟩ := H
  replace H : ((branch_Count.f k 3 t118).bind fun bt121 => ((trishawlaw03_three.f).bind fun t123 => ((branch_Narrow.f k 3 t123).bind fun bt126 => (if t106 = 0 then ((trishawlaw03_same.f k t104 (([1, 2] : List Int))).bind fun t132 => (if t132 = true then (if t105 = 3 then (if t117 = 0 then (if t116 = true then (if t115 = 3 then (if bt121.2 = 0 then (if bt121.1 = 2 then (if bt126.2.2 = 0 then (if bt126.1 = 1 then (some (bt126.2.1 == 4)) else (some false)) else (some false)) else (some false)) else (some false)) else (some false)) else (some false)) else (some false)) else (some false)) else (some false))) else (some false))))) = some r := H
  have A5 := Aside0.mk A50
  clear A50
  replace H := Option.bind_eq_some_iff.mp H
  obtain ⟨⟨t121, t122⟩, A60, H⟩ := H
  replace H : ((trishawlaw03_three.f).bind fun t123 => ((branch_Narrow.f k 3 t123).bind fun bt126 => (if t106 = 0 then ((trishawlaw03_same.f k t104 (([1, 2] : List Int))).bind fun t132 => (if t132 = true then (if t105 = 3 then (if t117 = 0 then (if t116 = true then (if t115 = 3 then (if t122 = 0 then (if t121 = 2 then (if bt126.2.2 = 0 then (if bt126.1 = 1 then (some (bt126.2.1 == 4)) else (some false)) else (some false)) else (some false)) else (some false)) else (some false)) else (some false)) else (some false)) else (some false)) else (some false))) else (some false)))) = some r := H
  have A6 := Aside0.mk A60
  clear A60
  replace H := Option.bind_eq_some_iff.mp H
  obtain ⟨t123, A70, H⟩ := H
  replace H : ((branch_Narrow.f k 3 t123).bind fun bt126 => (if t106 = 0 then ((trishawlaw03_same.f k t104 (([1, 2] : List Int))).bind fun t132 => (if t132 = true then (if t105 = 3 then (if t117 = 0 then (if t116 = true then (if t115 = 3 then (if t122 = 0 then (if t121 = 2 then (if bt126.2.2 = 0 then (if bt126.1 = 1 then (some (bt126.2.1 == 4)) else (some false)) else (some false)) else (some false)) else (some false)) else (some false)) else (some false)) else (some false)) else (some false)) else (some false))) else (some false))) = some r := H
  have A7 := Aside0.mk A70
  clear A70
  replace H := Option.bind_eq_some_iff.mp H
  obtain ⟨⟨t126, t127, t128⟩, A80, H⟩ := H
  replace H : (if t106 = 0 then ((trishawlaw03_same.f k t104 (([1, 2] : List Int))).bind fun t132 => (if t132 = true then (if t105 = 3 then (if t117 = 0 then (if t116 = true then (if t115 = 3 then (if t122 = 0 then (if t121 = 2 then (if t128 = 0 then (if t126 = 1 then (some (t127 == 4)) else (some false)) else (some false)) else (some false)) else (some false)) else (some false)) else (some false)) else (some false)) else (some false)) else (some false))) else (some false)) = some r := H
  have A8 := Aside0.mk A80
  clear A80
  by_cases c9 : t106 = 0
  · rw [if_pos c9] at H
    have c9b0 : (t106 == 0) = true := beq_iff_eq.mpr c9
    have c9b1 : (t106 != 0) = false := bne_eq_false_iff_eq.mpr c9
    clear c9
    obtain ⟨y129, hy129⟩ : ∃ y_ : List Int, y_ = (([1, 2] : List Int)) := ⟨_, rfl⟩
    replace H : ((trishawlaw03_same.f k t104 y129).bind fun t132 => (if t132 = true then (if t105 = 3 then (if t117 = 0 then (if t116 = true then (if t115 = 3 then (if t122 = 0 then (if t121 = 2 then (if t128 = 0 then (if t126 = 1 then (some (t127 == 4)) else (some false)) else (some false)) else (some false)) else (some false)) else (some false)) else (some false)) else (some false)) else (some false)) else (some false))) = some r := by first | (rw [hy129]; with_reducible exact H) | (have H2_ := (Option.bind_some _ _).symm.trans H; rw [hy129]; with_reducible exact H2_) | (have H2_ := (Option.bind_some _ _).symm.trans H; with_reducible exact H2_) | with_reducible exact H | (rw [hy129]; exact H) | exact H
    have Ny129 := Aside0.mk hy129
    clear hy129
    replace H := Option.bind_eq_some_iff.mp H
    obtain ⟨t132, A100, H⟩ := H
    replace H : (if t132 = true then (if t105 = 3 then (if t117 = 0 then (if t116 = true then (if t115 = 3 then (if t122 = 0 then (if t121 = 2 then (if t128 = 0 then (if t126 = 1 then (some (t127 == 4)) else (some false)) else (some false)) else (some false)) else (some false)) else (some false)) else (some false)) else (some false)) else (some false)) else (some false)) = some r := H
    have A10 := Aside0.mk A100
    clear A100
    by_cases c11 : t132 = true
    · subst c11
      have H1 : (if t105 = 3 then (if t117 = 0 then (if t116 = true then (if t115 = 3 then (if t122 = 0 then (if t121 = 2 then (if t128 = 0 then (if t126 = 1 then (some (t127 == 4)) else (some false)) else (some false)) else (some false)) else (some false)) else (some false)) else (some false)) else (some false)) else (some false)) = some r := by rw [if_pos rfl] at H; exact H
      clear H
      have H := H1
      clear H1
      by_cases c12 : t105 = 3
      · rw [if_pos c12] at H
        have c12b0 : (t105 == 3) = true := beq_iff_eq.mpr c12
        have c12b1 : (t105 != 3) = false := bne_eq_false_iff_eq.mpr c12
        clear c12
        by_cases c13 : t117 = 0
        · rw [if_pos c13] at H
          have c13b0 : (t117 == 0) = true := beq_iff_eq.mpr c13
          have c13b1 : (t117 != 0) = false := bne_eq_false_iff_eq.mpr c13
          clear c13
          by_cases c14 : t116 = true
          · subst c14
            have H1 : (if t115 = 3 then (if t122 = 0 then (if t121 = 2 then (if t128 = 0 then (if t126 = 1 then (some (t127 == 4)) else (some false)) else (some false)) else (some false)) else (some false)) else (some false)) = some r := by rw [if_pos rfl] at H; exact H
            clear H
            have H := H1
            clear H1
            by_cases c15 : t115 = 3
            · rw [if_pos c15] at H
              have c15b0 : (t115 == 3) = true := beq_iff_eq.mpr c15
              have c15b1 : (t115 != 3) = false := bne_eq_false_iff_eq.mpr c15
              clear c15
              by_cases c16 : t122 = 0
              · rw [if_pos c16] at H
                have c16b0 : (t122 == 0) = true := beq_iff_eq.mpr c16
                have c16b1 : (t122 != 0) = false := bne_eq_false_iff_eq.mpr c16
                clear c16
                by_cases c17 : t121 = 2
                · rw [if_pos c17] at H
                  have c17b0 : (t121 == 2) = true := beq_iff_eq.mpr c17
                  have c17b1 : (t121 != 2) = false := bne_eq_false_iff_eq.mpr c17
                  clear c17
                  by_cases c18 : t128 = 0
                  · rw [if_pos c18] at H
                    have c18b0 : (t128 == 0) = true := beq_iff_eq.mpr c18
                    have c18b1 : (t128 != 0) = false := bne_eq_false_iff_eq.mpr c18
                    clear c18
                    by_cases c19 : t126 = 1
                    · rw [if_pos c19] at H
                      have c19b0 : (t126 == 1) = true := beq_iff_eq.mpr c19
                      have c19b1 : (t126 != 1) = false := bne_eq_false_iff_eq.mpr c19
                      clear c19
                      obtain rfl := Option.some.inj H
                      go_enter Try.func17, Try.ntmps17
                      go_wp2_with (first | ((with_reducible refine gate_callee (f := 43) rfl ?_); refine goesL_ (some 13) rfl rfl Try.func43 (by kernel_rfl) rfl #[] rfl (by (try simp only [List.map_toArray, List.map_cons, List.map_nil]); first | done | rfl | (simp only [List.length_drop, List.length_take]; rfl)) ?_; (with_reducible refine (trishawlaw03_three.calls  t101 _ A1.out).mono ?_); rintro e w20 ⟨v102, rfl, ho0, hb⟩; refine ⟨_, rfl, ?_⟩; have n0_ := Aside0.mk (Kd.R_lower ho0 (below_size (by repeat (first | (with_reducible first | exact HB.out | apply below_alloc | apply pw_below_drewN | apply below_drew1) | exact HB.out)))); have n1_ := Aside0.mk (below_step (by repeat (first | (with_reducible first | exact HB.out | apply below_alloc | apply pw_below_drewN | apply below_drew1) | exact HB.out)) hb); clear HB; have HO103 := n0_; have HB := n1_; clear n0_ n1_; (try clear hb); (try clear hb2); (try clear hk); (try clear hi); (try clear ho0); obtain ⟨Ao21, co21, eo21⟩ := Kd.R_slice HO103.out; subst eo21) | ((with_reducible refine gate_callee (f := 24) rfl ?_); refine goesL_ (some 14) rfl rfl Try.func24 (by kernel_rfl) rfl #[.int .i64 3, .slice Ao21 t101.length co21] rfl (by (try simp only [List.map_toArray, List.map_cons, List.map_nil]); first | done | rfl | (simp only [List.length_drop, List.length_take]; rfl)) ?_; (with_reducible refine (branch_Branching.calls k 3 _ _ t101 t104 t105 t106 _ ?side1 ?side2 A2.out).mono ?_); (case side1 => repeat (first | exact (Kd.R_reads' HO103.out).2.2 | (with_reducible refine Kd.C_alloc ?_ _) | (with_reducible refine Kd.C_drewN ?_ _) | (with_reducible refine Kd.C_drew ?_))); (case side2 => exact (Kd.R_reads' HO103.out).2.1); rintro e w22 ⟨v107, rfl, ho0, hb⟩; refine ⟨_, rfl, ?_⟩; have n0_ := Aside0.mk (Kd.R_below (by (with_reducible repeat (first | apply Kd.R_alloc | apply Kd.R_drewN | apply Kd.R_drew)); exact HO103.out) hb); have n1_ := Aside0.mk (Kd.R_lower ho0 (below_size (by repeat (first | (with_reducible first | exact HB.out | apply below_alloc | apply pw_below_drewN | apply below_drew1) | exact HB.out)))); have n2_ := Aside0.mk (below_step (by repeat (first | (with_reducible first | exact HB.out | apply below_alloc | apply pw_below_drewN | apply below_drew1) | exact HB.out)) hb); clear HO103; clear HB; have HO103 := n0_; have HO108 := n1_; have HB := n2_; clear n0_ n1_ n2_; (try clear hb); (try clear hb2); (try clear hk); (try clear hi); (try clear ho0)) | ((with_reducible refine gate_callee (f := 43) rfl ?_); refine goesL_ (some 19) rfl rfl Try.func43 (by kernel_rfl) rfl #[] rfl (by (try simp only [List.map_toArray, List.map_cons, List.map_nil]); first | done | rfl | (simp only [List.length_drop, List.length_take]; rfl)) ?_; (with_reducible refine (trishawlaw03_three.calls  t109 _ A3.out).mono ?_); rintro e w23 ⟨v110, rfl, ho0, hb⟩; refine ⟨_, rfl, ?_⟩; have n0_ := Aside0.mk (Kd.R_elder' (by (with_reducible repeat (first | apply Kd.R_alloc | apply Kd.R_drewN | apply Kd.R_drew)); exact HO103.out) (Kd.R_base ho0) hb); have n1_ := Aside0.mk (Kd.R_below (by (with_reducible repeat (first | apply Kd.R_alloc | apply Kd.R_drewN | apply Kd.R_drew)); exact HO108.out) hb); have n2_ := Aside0.mk (Kd.R_lower (Kd.R_new' ho0 (Kd.R_lt (by (with_reducible repeat (first | apply Kd.R_alloc | apply Kd.R_drewN | apply Kd.R_drew)); exact HO103.out))) (below_size (by repeat (first | (with_reducible first | exact HB.out | apply below_alloc | apply pw_below_drewN | apply below_drew1) | exact HB.out)))); have n3_ := Aside0.mk (below_step (by repeat (first | (with_reducible first | exact HB.out | apply below_alloc | apply pw_below_drewN | apply below_drew1) | exact HB.out)) hb); clear HO103; clear HO108; clear HB; have HO103 := n0_; have HO108 := n1_; have HO111 := n2_; have HB := n3_; clear n0_ n1_ n2_ n3_; (try clear hb); (try clear hb2); (try clear hk); (try clear hi); (try clear ho0)) | ((with_reducible refine gate_dst (N := 22) rfl ?_); (try (refine gate_guard (by rfl) ?_; dsimp only)); refine Kd.R_lit k41 _ 41 ?hg (N := 22) ?hd (xs := ([(⟨4, 1⟩ : S41), (⟨2, 2⟩ : S41)] : List (S41))) (inner := [.int .i64 4, .int .i64 1, .int .i64 2, .int .i64 2]) (ok := fun _ => True) (okp := fun _ => True) ?hr ?hp (fun _ hk => hk) trivial (Below.refl _ _) (Nat.le_refl _) (by simp) ?_; (case hd => rfl); (case hg => rfl); (case hr => first | (go_simp; done) | (go_simp; rfl)); (case hp => exact (Reps.c2 (show Kd.M k41 _ _ _ (⟨4, 1⟩ : S41) [.int .i64 4, .int .i64 1] from (k41_mkM _ _ _ (⟨4, 1⟩ : S41) )) (Reps.c2 (show Kd.M k41 _ _ _ (⟨2, 2⟩ : S41) [.int .i64 2, .int .i64 2] from (k41_mkM _ _ _ (⟨2, 2⟩ : S41) )) (Reps.none _ _)))); intro v113 w24 ho25 hb hg_ hnew_; clear hg_ hnew_; (first | rw [← Ny112.out] at ho25 | (simp only [Int.reduceToNat] at ho25; rw [← Ny112.out] at ho25)); have n0_ := Aside0.mk (Kd.R_below (by (with_reducible repeat (first | apply Kd.R_alloc | apply Kd.R_drewN | apply Kd.R_drew)); exact HO103.out) hb); have n1_ := Aside0.mk (Kd.R_below (by (with_reducible repeat (first | apply Kd.R_alloc | apply Kd.R_drewN | apply Kd.R_drew)); exact HO108.out) hb); have n2_ := Aside0.mk (Kd.R_below (by (with_reducible repeat (first | apply Kd.R_alloc | apply Kd.R_drewN | apply Kd.R_drew)); exact HO111.out) hb); have n3_ := Aside0.mk (Kd.R_lower ho25 (below_size (by repeat (first | (with_reducible first | exact HB.out | apply below_alloc | apply pw_below_drewN | apply below_drew1) | exact HB.out)))); have n4_ := Aside0.mk (below_step (by repeat (first | (with_reducible first | exact HB.out | apply below_alloc | apply pw_below_drewN | apply below_drew1) | exact HB.out)) hb); clear HO103; clear HO108; clear HO111; clear HB; have HO103 := n0_; have HO108 := n1_; have HO111 := n2_; have HO114 := n3_; have HB := n4_; clear n0_ n1_ n2_ n3_ n4_; clear hb ho25; obtain ⟨Ao26, co26, eo26⟩ := Kd.R_slice HO111.out; subst eo26; obtain ⟨Ao27, co27, eo27⟩ := Kd.R_slice HO114.out; subst eo27) | ((with_reducible refine gate_callee (f := 37) rfl ?_); refine goesL_ (some 23) rfl rfl Try.func37 (by kernel_rfl) rfl #[.int .i64 3, .slice Ao26 t109.length co26, .slice Ao27 y112.length co27] rfl (by (try simp only [List.map_toArray, List.map_cons, List.map_nil]); first | done | rfl | (simp only [List.length_drop, List.length_take]; rfl)) ?_; (with_reducible refine (branch_Proves.calls k 3 _ _ t109 _ _ y112 t115 true t117 _ ?side1 ?side2 ?side3 ?side4 A4.out).mono ?_); (case side1 => repeat (first | exact (Kd.R_reads' HO111.out).2.2 | (with_reducible refine Kd.C_alloc ?_ _) | (with_reducible refine Kd.C_drewN ?_ _) | (with_reducible refine Kd.C_drew ?_))); (case side2 => exact (Kd.R_reads' HO111.out).2.1); (case side3 => repeat (first | exact (Kd.R_reads' HO114.out).2.2 | (with_reducible refine Kd.C_alloc ?_ _) | (with_reducible refine Kd.C_drewN ?_ _) | (with_reducible refine Kd.C_drew ?_))); (case side4 => exact (Kd.R_reads' HO114.out).2.1); rintro e w28 ⟨rfl, hb⟩; refine ⟨_, rfl, ?_⟩; have n0_ := Aside0.mk (Kd.R_below (by (with_reducible repeat (first | apply Kd.R_alloc | apply Kd.R_drewN | apply Kd.R_drew)); exact HO103.out) hb); have n1_ := Aside0.mk (Kd.R_below (by (with_reducible repeat (first | apply Kd.R_alloc | apply Kd.R_drewN | apply Kd.R_drew)); exact HO108.out) hb); have n2_ := Aside0.mk (Kd.R_below (by (with_reducible repeat (first | apply Kd.R_alloc | apply Kd.R_drewN | apply Kd.R_drew)); exact HO111.out) hb); have n3_ := Aside0.mk (Kd.R_below (by (with_reducible repeat (first | apply Kd.R_alloc | apply Kd.R_drewN | apply Kd.R_drew)); exact HO114.out) hb); have n4_ := Aside0.mk (below_step (by repeat (first | (with_reducible first | exact HB.out | apply below_alloc | apply pw_below_drewN | apply below_drew1) | exact HB.out)) hb); clear HO103; clear HO108; clear HO111; clear HO114; clear HB; have HO103 := n0_; have HO108 := n1_; have HO111 := n2_; have HO114 := n3_; have HB := n4_; clear n0_ n1_ n2_ n3_ n4_; (try clear hb); (try clear hb2); (try clear hk); (try clear hi)) | ((with_reducible refine gate_callee (f := 43) rfl ?_); refine goesL_ (some 28) rfl rfl Try.func43 (by kernel_rfl) rfl #[] rfl (by (try simp only [List.map_toArray, List.map_cons, List.map_nil]); first | done | rfl | (simp only [List.length_drop, List.length_take]; rfl)) ?_; (with_reducible refine (trishawlaw03_three.calls  t118 _ A5.out).mono ?_); rintro e w29 ⟨v119, rfl, ho0, hb⟩; refine ⟨_, rfl, ?_⟩; have n0_ := Aside0.mk (Kd.R_elder' (by (with_reducible repeat (first | apply Kd.R_alloc | apply Kd.R_drewN | apply Kd.R_drew)); exact HO103.out) (Kd.R_base ho0) hb); have n1_ := Aside0.mk (Kd.R_below (by (with_reducible repeat (first | apply Kd.R_alloc | apply Kd.R_drewN | apply Kd.R_drew)); exact HO108.out) hb); have n2_ := Aside0.mk (Kd.R_elder' (by (with_reducible repeat (first | apply Kd.R_alloc | apply Kd.R_drewN | apply Kd.R_drew)); exact HO111.out) (Kd.R_base ho0) hb); have n3_ := Aside0.mk (Kd.R_below (by (with_reducible repeat (first | apply Kd.R_alloc | apply Kd.R_drewN | apply Kd.R_drew)); exact HO114.out) hb); have n4_ := Aside0.mk (Kd.R_lower (Kd.R_new' (Kd.R_new' ho0 (Kd.R_lt (by (with_reducible repeat (first | apply Kd.R_alloc | apply Kd.R_drewN | apply Kd.R_drew)); exact HO103.out))) (Kd.R_lt (by (with_reducible repeat (first | apply Kd.R_alloc | apply Kd.R_drewN | apply Kd.R_drew)); exact HO111.out))) (below_size (by repeat (first | (with_reducible first | exact HB.out | apply below_alloc | apply pw_below_drewN | apply below_drew1) | exact HB.out)))); have n5_ := Aside0.mk (below_step (by repeat (first | (with_reducible first | exact HB.out | apply below_alloc | apply pw_below_drewN | apply below_drew1) | exact HB.out)) hb); clear HO103; clear HO108; clear HO111; clear HO114; clear HB; have HO103 := n0_; have HO108 := n1_; have HO111 := n2_; have HO114 := n3_; have HO120 := n4_; have HB := n5_; clear n0_ n1_ n2_ n3_ n4_ n5_; (try clear hb); (try clear hb2); (try clear hk); (try clear hi); (try clear ho0); obtain ⟨Ao30, co30, eo30⟩ := Kd.R_slice HO120.out; subst eo30) | ((with_reducible refine gate_callee (f := 18) rfl ?_); refine goesL_ (some 29) rfl rfl Try.func18 (by kernel_rfl) rfl #[.int .i64 3, .slice Ao30 t118.length co30] rfl (by (try simp only [List.map_toArray, List.map_cons, List.map_nil]); first | done | rfl | (simp only [List.length_drop, List.length_take]; rfl)) ?_; (with_reducible refine (branch_Count.calls k 3 _ _ t118 t121 t122 _ ?side1 ?side2 A6.out).mono ?_); (case side1 => repeat (first | exact (Kd.R_reads' HO120.out).2.2 | (with_reducible refine Kd.C_alloc ?_ _) | (with_reducible refine Kd.C_drewN ?_ _) | (with_reducible refine Kd.C_drew ?_))); (case side2 => exact (Kd.R_reads' HO120.out).2.1); rintro e w31 ⟨rfl, hb⟩; refine ⟨_, rfl, ?_⟩; have n0_ := Aside0.mk (Kd.R_below (by (with_reducible repeat (first | apply Kd.R_alloc | apply Kd.R_drewN | apply Kd.R_drew)); exact HO103.out) hb); have n1_ := Aside0.mk (Kd.R_below (by (with_reducible repeat (first | apply Kd.R_alloc | apply Kd.R_drewN | apply Kd.R_drew)); exact HO108.out) hb); have n2_ := Aside0.mk (Kd.R_below (by (with_reducible repeat (first | apply Kd.R_alloc | apply Kd.R_drewN | apply Kd.R_drew)); exact HO111.out) hb); have n3_ := Aside0.mk (Kd.R_below (by (with_reducible repeat (first | apply Kd.R_alloc | apply Kd.R_drewN | apply Kd.R_drew)); exact HO114.out) hb); have n4_ := Aside0.mk (Kd.R_below (by (with_reducible repeat (first | apply Kd.R_alloc | apply Kd.R_drewN | apply Kd.R_drew)); exact HO120.out) hb); have n5_ := Aside0.mk (below_step (by repeat (first | (with_reducible first | exact HB.out | apply below_alloc | apply pw_below_drewN | apply below_drew1) | exact HB.out)) hb); clear HO103; clear HO108; clear HO111; clear HO114; clear HO120; clear HB; have HO103 := n0_; have HO108 := n1_; have HO111 := n2_; have HO114 := n3_; have HO120 := n4_; have HB := n5_; clear n0_ n1_ n2_ n3_ n4_ n5_; (try clear hb); (try clear hb2); (try clear hk); (try clear hi)) | ((with_reducible refine gate_callee (f := 43) rfl ?_); refine goesL_ (some 33) rfl rfl Try.func43 (by kernel_rfl) rfl #[] rfl (by (try simp only [List.map_toArray, List.map_cons, List.map_nil]); first | done | rfl | (simp only [List.length_drop, List.length_take]; rfl)) ?_; (with_reducible refine (trishawlaw03_three.calls  t123 _ A7.out).mono ?_); rintro e w32 ⟨v124, rfl, ho0, hb⟩; refine ⟨_, rfl, ?_⟩; have n0_ := Aside0.mk (Kd.R_elder' (by (with_reducible repeat (first | apply Kd.R_alloc | apply Kd.R_drewN | apply Kd.R_drew)); exact HO103.out) (Kd.R_base ho0) hb); have n1_ := Aside0.mk (Kd.R_below (by (with_reducible repeat (first | apply Kd.R_alloc | apply Kd.R_drewN | apply Kd.R_drew)); exact HO108.out) hb); have n2_ := Aside0.mk (Kd.R_elder' (by (with_reducible repeat (first | apply Kd.R_alloc | apply Kd.R_drewN | apply Kd.R_drew)); exact HO111.out) (Kd.R_base ho0) hb); have n3_ := Aside0.mk (Kd.R_below (by (with_reducible repeat (first | apply Kd.R_alloc | apply Kd.R_drewN | apply Kd.R_drew)); exact HO114.out) hb); have n4_ := Aside0.mk (Kd.R_elder' (by (with_reducible repeat (first | apply Kd.R_alloc | apply Kd.R_drewN | apply Kd.R_drew)); exact HO120.out) (Kd.R_base ho0) hb); have n5_ := Aside0.mk (Kd.R_lower (Kd.R_new' (Kd.R_new' (Kd.R_new' ho0 (Kd.R_lt (by (with_reducible repeat (first | apply Kd.R_alloc | apply Kd.R_drewN | apply Kd.R_drew)); exact HO103.out))) (Kd.R_lt (by (with_reducible repeat (first | apply Kd.R_alloc | apply Kd.R_drewN | apply Kd.R_drew)); exact HO111.out))) (Kd.R_lt (by (with_reducible repeat (first | apply Kd.R_alloc | apply Kd.R_drewN | apply Kd.R_drew)); exact HO120.out))) (below_size (by repeat (first | (with_reducible first | exact HB.out | apply below_alloc | apply pw_below_drewN | apply below_drew1) | exact HB.out)))); have n6_ := Aside0.mk (below_step (by repeat (first | (with_reducible first | exact HB.out | apply below_alloc | apply pw_below_drewN | apply below_drew1) | exact HB.out)) hb); clear HO103; clear HO108; clear HO111; clear HO114; clear HO120; clear HB; have HO103 := n0_; have HO108 := n1_; have HO111 := n2_; have HO114 := n3_; have HO120 := n4_; have HO125 := n5_; have HB := n6_; clear n0_ n1_ n2_ n3_ n4_ n5_ n6_; (try clear hb); (try clear hb2); (try clear hk); (try clear hi); (try clear ho0); obtain ⟨Ao33, co33, eo33⟩ := Kd.R_slice HO125.out; subst eo33) | ((with_reducible refine gate_callee (f := 30) rfl ?_); refine goesL_ (some 34) rfl rfl Try.func30 (by kernel_rfl) rfl #[.int .i64 3, .slice Ao33 t123.length co33] rfl (by (try simp only [List.map_toArray, List.map_cons, List.map_nil]); first | done | rfl | (simp only [List.length_drop, List.length_take]; rfl)) ?_; (with_reducible refine (branch_Narrow.calls k 3 _ _ t123 t126 t127 t128 _ ?side1 ?side2 A8.out).mono ?_); (case side1 => repeat (first | exact (Kd.R_reads' HO125.out).2.2 | (with_reducible refine Kd.C_alloc ?_ _) | (with_reducible refine Kd.C_drewN ?_ _) | (with_reducible refine Kd.C_drew ?_))); (case side2 => exact (Kd.R_reads' HO125.out).2.1); rintro e w34 ⟨rfl, hb⟩; refine ⟨_, rfl, ?_⟩; have n0_ := Aside0.mk (Kd.R_below (by (with_reducible repeat (first | apply Kd.R_alloc | apply Kd.R_drewN | apply Kd.R_drew)); exact HO103.out) hb); have n1_ := Aside0.mk (Kd.R_below (by (with_reducible repeat (first | apply Kd.R_alloc | apply Kd.R_drewN | apply Kd.R_drew)); exact HO108.out) hb); have n2_ := Aside0.mk (Kd.R_below (by (with_reducible repeat (first | apply Kd.R_alloc | apply Kd.R_drewN | apply Kd.R_drew)); exact HO111.out) hb); have n3_ := Aside0.mk (Kd.R_below (by (with_reducible repeat (first | apply Kd.R_alloc | apply Kd.R_drewN | apply Kd.R_drew)); exact HO114.out) hb); have n4_ := Aside0.mk (Kd.R_below (by (with_reducible repeat (first | apply Kd.R_alloc | apply Kd.R_drewN | apply Kd.R_drew)); exact HO120.out) hb); have n5_ := Aside0.mk (Kd.R_below (by (with_reducible repeat (first | apply Kd.R_alloc | apply Kd.R_drewN | apply Kd.R_drew)); exact HO125.out) hb); have n6_ := Aside0.mk (below_step (by repeat (first | (with_reducible first | exact HB.out | apply below_alloc | apply pw_below_drewN | apply below_drew1) | exact HB.out)) hb); clear HO103; clear HO108; clear HO111; clear HO114; clear HO120; clear HO125; clear HB; have HO103 := n0_; have HO108 := n1_; have HO111 := n2_; have HO114 := n3_; have HO120 := n4_; have HO125 := n5_; have HB := n6_; clear n0_ n1_ n2_ n3_ n4_ n5_ n6_; (try clear hb); (try clear hb2); (try clear hk); (try clear hi)) | ((with_reducible refine gate_dst (N := 42) rfl ?_); (try (refine gate_guard (by rfl) ?_; dsimp only)); refine Kd.R_lit (Kd.int .i64) _ 3 ?hg (N := 42) ?hd (xs := ([1, 2] : List Int)) (inner := [.int .i64 1, .int .i64 2]) (ok := fun _ => True) (okp := fun _ => True) ?hr ?hp (fun _ hk => hk) trivial (Below.refl _ _) (Nat.le_refl _) (by simp) ?_; (case hd => rfl); (case hg => rfl); (case hr => first | (go_simp; done) | (go_simp; rfl)); (case hp => exact (Reps.one (show Kd.M (Kd.int .i64) _ _ _ 1 [.int .i64 1] from rfl) (Reps.one (show Kd.M (Kd.int .i64) _ _ _ 2 [.int .i64 2] from rfl) (Reps.none _ _)))); intro v130 w35 ho36 hb hg_ hnew_; clear hg_ hnew_; (first | rw [← Ny129.out] at ho36 | (simp only [Int.reduceToNat] at ho36; rw [← Ny129.out] at ho36)); have n0_ := Aside0.mk (Kd.R_below (by (with_reducible repeat (first | apply Kd.R_alloc | apply Kd.R_drewN | apply Kd.R_drew)); exact HO103.out) hb); have n1_ := Aside0.mk (Kd.R_elder' (by (with_reducible repeat (first | apply Kd.R_alloc | apply Kd.R_drewN | apply Kd.R_drew)); exact HO108.out) (Kd.R_base ho36) hb); have n2_ := Aside0.mk (Kd.R_below (by (with_reducible repeat (first | apply Kd.R_alloc | apply Kd.R_drewN | apply Kd.R_drew)); exact HO111.out) hb); have n3_ := Aside0.mk (Kd.R_below (by (with_reducible repeat (first | apply Kd.R_alloc | apply Kd.R_drewN | apply Kd.R_drew)); exact HO114.out) hb); have n4_ := Aside0.mk (Kd.R_below (by (with_reducible repeat (first | apply Kd.R_alloc | apply Kd.R_drewN | apply Kd.R_drew)); exact HO120.out) hb); have n5_ := Aside0.mk (Kd.R_below (by (with_reducible repeat (first | apply Kd.R_alloc | apply Kd.R_drewN | apply Kd.R_drew)); exact HO125.out) hb); have n6_ := Aside0.mk (Kd.R_lower (Kd.R_new' ho36 (Kd.R_lt (by (with_reducible repeat (first | apply Kd.R_alloc | apply Kd.R_drewN | apply Kd.R_drew)); exact HO108.out))) (below_size (by repeat (first | (with_reducible first | exact HB.out | apply below_alloc | apply pw_below_drewN | apply below_drew1) | exact HB.out)))); have n7_ := Aside0.mk (below_step (by repeat (first | (with_reducible first | exact HB.out | apply below_alloc | apply pw_below_drewN | apply below_drew1) | exact HB.out)) hb); clear HO103; clear HO108; clear HO111; clear HO114; clear HO120; clear HO125; clear HB; have HO103 := n0_; have HO108 := n1_; have HO111 := n2_; have HO114 := n3_; have HO120 := n4_; have HO125 := n5_; have HO131 := n6_; have HB := n7_; clear n0_ n1_ n2_ n3_ n4_ n5_ n6_ n7_; clear hb ho36; obtain ⟨Ao37, co37, eo37⟩ := Kd.R_slice HO108.out; subst eo37; obtain ⟨Ao38, co38, eo38⟩ := Kd.R_slice HO131.out; subst eo38) | (go_at_call 25; (with_reducible refine (trishawlaw03_same.calls k _ _ t104 _ _ y129 true _ ?side1 ?side2 ?side3 ?side4 A10.out).mono ?_); (case side1 => repeat (first | exact (Kd.R_reads' HO108.out).2.2 | (with_reducible refine Kd.C_alloc ?_ _) | (with_reducible refine Kd.C_drewN ?_ _) | (with_reducible refine Kd.C_drew ?_))); (case side2 => exact (Kd.R_reads' HO108.out).2.1); (case side3 => repeat (first | exact (Kd.R_reads' HO131.out).2.2 | (with_reducible refine Kd.C_alloc ?_ _) | (with_reducible refine Kd.C_drewN ?_ _) | (with_reducible refine Kd.C_drew ?_))); (case side4 => exact (Kd.R_reads' HO131.out).2.1); rintro e w' ⟨rfl, ⟨nd, rfl⟩⟩))
                      go_ret
                      exact ⟨by first | rfl | (simp [errW_none, errW_some] <;> rfl) | (simp [*, errW_none, errW_some] <;> rfl), by repeat (first | (with_reducible first | exact HB.out | apply below_alloc | apply pw_below_drewN | apply below_drew1) | exact HB.out)⟩
                    · rw [if_neg c19] at H
                      exact absurd ((Option.some.inj H).trans HRT.out) (by decide)
                  · rw [if_neg c18] at H
                    exact absurd ((Option.some.inj H).trans HRT.out) (by decide)
                · rw [if_neg c17] at H
                  exact absurd ((Option.some.inj H).trans HRT.out) (by decide)
              · rw [if_neg c16] at H
                exact absurd ((Option.some.inj H).trans HRT.out) (by decide)
            · rw [if_neg c15] at H
              exact absurd ((Option.some.inj H).trans HRT.out) (by decide)
          · replace c14 := Bool.eq_false_iff.mpr c14
            subst c14
            have H1 : (some false) = some r := by rw [if_neg (show ¬ (false = true) by decide)] at H; exact H
            exact absurd ((Option.some.inj H1).trans HRT.out) (by decide)
        · rw [if_neg c13] at H
          exact absurd ((Option.some.inj H).trans HRT.out) (by decide)
      · rw [if_neg c12] at H
        exact absurd ((Option.some.inj H).trans HRT.out) (by decide)
    · replace c11 := Bool.eq_false_iff.mpr c11
      subst c11
      have H1 : (some false) = some r := by rw [if_neg (show ¬ (false = true) by decide)] at H; exact H
      exact absurd ((Option.some.inj H1).trans HRT.out) (by decide)
  · rw [if_neg c9] at H
    exact absurd ((Option.some.inj H).trans HRT.out) (by decide)
end Go.Proofs.Ytpmadffgdfholaa.B
