/- Texts behind the row of BranchApart, part 3: contracts of the functions it reaches, words that their walks use, and lemmas in plain Lean. -/
import Derived.Below
import Derived.Deep.Draws
import Derived.Deep.AppendLies
import Derived.Maps.AppendAt
import Derived.OwnWalk
import Derived.Laws.BytesArg
import Derived.Laws.MakeOwn
import Derived.Laws.OwnMore
import Derived.Deep.OwnRows
import Derived.Tactics
import Derived.Lib.ConvBytes
import Derived.Laws.Slices
import Derived.WalkKit
import Derived.KernelRfl
import Derived.RowKit3
import Derived.Deep.LoopGhost
import Derived.Deep.QuietTactic
import Derived.BigQuiet
import Derived.WideLaws
import Derived.Deep.DeepCutAuto
import Derived.Deep.CutBlock
import Derived.Deep.RegionHeld3
import Derived.Laws.Rows
import Derived.Lib.AppendStr
import Derived.ArgAppend
import Derived.Laws.IdiomCopy
import Derived.RowKit
import Derived.OrdersHeld
import Derived.Laws.BitsLemmas
import Derived.Test.YtpmadffgdfholaaProg
import Derived.Laws.StructEq
import Derived.MapKept
import Derived.WalkSpells
import Derived.Deep.DrawnRows
import Derived.Maps.RangeWalk
import Derived.Laws.EntriesVeiled
import Derived.Shelf.SlSortCmp.NoneTotal
import Derived.Shelf.SortM.Plain
import Derived.Shelf.Lay
import Derived.Ground.SlsfProg
import Derived.Ground.SlgmProg
import Derived.Test.YtpmadffgdfholaaN1
import Derived.Test.YtpmadffgdfholaaN2
namespace Go.Proofs.Ytpmadffgdfholaa.B
open Go.RowKit Go.Proofs.YtpmadffgdfholaaW.PrintWords Go.Proofs.YtpmadffgdfholaaW.PrintLast Go.Proofs.YtpmadffgdfholaaW.PrintMore
attribute [local go_sem] max2_int min2_int max_two min_two max_three min_three max_four min_four   -- for this text's walks alone
set_option linter.unusedVariables false
set_option linter.unusedSimpArgs false
def branch_town_alone_1.f (a0 : Int) (l1_0 : List Int) (a2_0 : (Int → Option Bool)) : Option (Bool) := if 0 ≤ a0 then (if a0 < (l1_0.length : Int) then (if (rd l1_0 a0) = 0 then ((a2_0 a0).bind fun t104 => (some (!t104))) else (some false)) else (none)) else (none)
set_option maxHeartbeats 8000000 in
set_option maxRecDepth 100000 in
theorem branch_town_alone_1.calls (a0 : Int) (g1 : Nat) (A1_0 : Option Addr) (c1_0 : Nat) (l1_0 : List Int) (g2 : Nat) (vf2_0 : Value) (a2_0 : (Int → Option Bool)) (r : Bool) (w : World) (hP1 : w.heap[g1]? = some (.cells #[.slice A1_0 l1_0.length c1_0] 28 (0, 0))) (hr1_0 : Kd.C (Kd.int .i64) w A1_0 l1_0.length l1_0) (hc1_0 : l1_0.length ≤ c1_0) (hP2 : w.heap[g2]? = some (.cells #[vf2_0] 75 (0, 0))) (hF2_0 : IsFn Try.prog w vf2_0 a2_0) (h : branch_town_alone_1.f a0 l1_0 a2_0 = some r) :
  Calls Try.prog 79 #[.int .i64 a0, .pointer (some ⟨g1, 0, none⟩), .pointer (some ⟨g2, 0, none⟩)] w fun e w' => e = .returned (.bool r) ∧ Below w.heap.size w w' := by
 have HP1 := Aside0.mk hP1
 clear hP1
 have HR1_0 := Aside0.mk hr1_0
 have HC1_0 := Aside0.mk hc1_0
 clear hr1_0 hc1_0
 have HP2 := Aside0.mk hP2
 clear hP2
 have HF2_0 := Aside0.mk hF2_0
 clear hF2_0
 have HB := Aside0.mk (Below.refl w.heap.size w)
 have H : (if 0 ≤ a0 then (if a0 < (l1_0.length : Int) then (if (rd l1_0 a0) = 0 then ((a2_0 a0).bind fun t104 => (some (!t104))) else (some false)) else (none)) else (none)) = some r := h
 clear h
 by_cases c4 : 0 ≤ a0
 ·rw [if_pos c4] at H
  have c4b0 : decide (0 ≤ a0) = true := decide_eq_true c4
  clear c4
  by_cases c5 : a0 < (l1_0.length : Int)
  ·rw [if_pos c5] at H
   have c5b0 : decide (a0 < (l1_0.length : Int)) = true := decide_eq_true c5
   clear c5
   by_cases c6 : (rd l1_0 a0) = 0
   ·rw [if_pos c6] at H
    have c6b0 : ((rd l1_0 a0) == 0) = true := beq_iff_eq.mpr c6
    have c6b1 : ((rd l1_0 a0) != 0) = false := bne_eq_false_iff_eq.mpr c6
    clear c6
    replace H := Option.bind_eq_some_iff.mp H
    obtain ⟨t104, A70, H⟩ := H
    replace H : (some (!t104)) = some r := H
    have A7 := Aside0.mk A70
    clear A70
    obtain rfl := Option.some.inj H
    have hx101_0 := blk_cell HP1.out 0
    replace hx101_0 := hx101_0.trans rfl
    have p102 : 0 ≤ (a0 : Int) := of_decide_eq_true (by first | (with_reducible assumption) | assumption)
    have q102 : a0 < (l1_0.length : Int) := of_decide_eq_true (by first | (with_reducible assumption) | assumption)
    obtain ⟨ad102, e102, hx102_0⟩ := Kd.at_int HR1_0.out a0 p102 q102
    cases e102
    replace p102 := eq_true p102
    replace q102 := eq_true q102
    have hx103_0 := blk_cell HP2.out 0
    replace hx103_0 := hx103_0.trans rfl
    go_enter Try.func79, Try.ntmps79
    go_wp2_with (first | ((with_reducible refine gate_dst (N := 13) rfl ?_); (try (refine gate_guard (by rfl) ?_; dsimp only)); refine goesF_ (some 13) rfl rfl HF2_0.out rfl rfl (i := a0) rfl ?sideB A7.out ?_; (case sideB => exact by repeat (first | (with_reducible first | exact HB.out | apply below_alloc | apply pw_below_drewN | apply below_drew1) | exact HB.out)); intro w8 hb; have n0_ := Aside0.mk (below_step (by repeat (first | (with_reducible first | exact HB.out | apply below_alloc | apply pw_below_drewN | apply below_drew1) | exact HB.out)) hb); clear HB; have HB := n0_; clear n0_; (try clear hb); (try clear hb2); (try clear hk); (try clear hi)))
    go_ret
    exact ⟨by first | rfl | (simp [errW_none, errW_some] <;> rfl) | (simp [*, errW_none, errW_some] <;> rfl), by repeat (first | (with_reducible first | exact HB.out | apply below_alloc | apply pw_below_drewN | apply below_drew1) | exact HB.out)⟩
   ·rw [if_neg c6] at H
    have c6b0 : ((rd l1_0 a0) == 0) = false := beq_eq_false_iff_ne.mpr c6
    have c6b1 : ((rd l1_0 a0) != 0) = true := bne_iff_ne.mpr c6
    obtain rfl := Option.some.inj H
    have hx101_0 := blk_cell HP1.out 0
    replace hx101_0 := hx101_0.trans rfl
    have p102 : 0 ≤ (a0 : Int) := of_decide_eq_true (by first | (with_reducible assumption) | assumption)
    have q102 : a0 < (l1_0.length : Int) := of_decide_eq_true (by first | (with_reducible assumption) | assumption)
    obtain ⟨ad102, e102, hx102_0⟩ := Kd.at_int HR1_0.out a0 p102 q102
    cases e102
    replace p102 := eq_true p102
    replace q102 := eq_true q102
    go_enter Try.func79, Try.ntmps79
    go_wp2
    go_ret
    exact ⟨by first | rfl | (simp [errW_none, errW_some] <;> rfl) | (simp [*, errW_none, errW_some] <;> rfl), by repeat (first | (with_reducible first | exact HB.out | apply below_alloc | apply pw_below_drewN | apply below_drew1) | exact HB.out)⟩
  ·rw [if_neg c5] at H
   exact absurd H (by simp)
 ·rw [if_neg c4] at H
  exact absurd H (by simp)
mutual
def branch_town_alone_2.l0 : Nat → Int → Int → Int → Int → List (S30) → (Int → Option Bool) → Option (Int)
  | 0, _, _, _, _, _, _ => none
  | k + 1, x5, x13, x14, x2000, x2001, x3000 => if x14 < x13 then (branch_town_alone_2.l1 k x5 x13 x14 x2001 (x2001.length : Int) 0 x2000 x2001 x3000) else (some x5)
def branch_town_alone_2.l1 : Nat → Int → Int → Int → List (S30) → Int → Int → Int → List (S30) → (Int → Option Bool) → Option (Int)
  | 0, _, _, _, _, _, _, _, _, _ => none
  | k + 1, x5, x13, x14, x19, x20, x21, x2000, x2001, x3000 => if x21 < x20 then (if 0 ≤ x21 then (if x21 < (x19.length : Int) then ((x3000 x21).bind fun t112 => (if t112 = true then (if 0 ≤ ((rd_T30 x19 x21).f0) then (if (Go.bits .and .i64 (shr .i64 x5 ((rd_T30 x19 x21).f0)) 1) = 1 then (if 0 ≤ ((rd_T30 x19 x21).f1) then (branch_town_alone_2.l1 k (Go.bits .or .i64 x5 (shl .i64 1 ((rd_T30 x19 x21).f1))) x13 x14 x19 x20 (wrap64 (x21 + 1)) x2000 x2001 x3000) else (none)) else (branch_town_alone_2.l1 k x5 x13 x14 x19 x20 (wrap64 (x21 + 1)) x2000 x2001 x3000)) else (none)) else (branch_town_alone_2.l1 k x5 x13 x14 x19 x20 (wrap64 (x21 + 1)) x2000 x2001 x3000))) else (none)) else (none)) else (branch_town_alone_2.l0 k x5 x13 (wrap64 (x14 + 1)) x2000 x2001 x3000)
end
def branch_town_alone_2.f (k : Nat) (a0 : Int) (a1_0 : Int) (l1_1 : List (S30)) (a2_0 : (Int → Option Bool)) : Option (Int) := if 0 ≤ a0 then (branch_town_alone_2.l0 k (shl .i64 1 a0) a1_0 0 a1_0 l1_1 a2_0) else (none)
theorem branch_town_alone_2.mono_l : ∀ k, (∀ y0 y1 y2 y3 y4 y5, LeO (branch_town_alone_2.l0 k y0 y1 y2 y3 y4 y5) (branch_town_alone_2.l0 (k + 1) y0 y1 y2 y3 y4 y5)) ∧ (∀ y0 y1 y2 y3 y4 y5 y6 y7 y8, LeO (branch_town_alone_2.l1 k y0 y1 y2 y3 y4 y5 y6 y7 y8) (branch_town_alone_2.l1 (k + 1) y0 y1 y2 y3 y4 y5 y6 y7 y8))
  | 0 => ⟨fun _ _ _ _ _ _ r h => by simp [branch_town_alone_2.l0] at h, fun _ _ _ _ _ _ _ _ _ r h => by simp [branch_town_alone_2.l1] at h⟩
  | k + 1 => by
    obtain ⟨ih0, ih1⟩ := branch_town_alone_2.mono_l k
    refine ⟨?_, ?_⟩
    · intro y0 y1 y2 y3 y4 y5
      unfold branch_town_alone_2.l0
      repeat' first
      | (with_reducible exact ih0 _ _ _ _ _ _)
      | (with_reducible exact ih1 _ _ _ _ _ _ _ _ _)
      | (with_reducible exact LeO.refl _)
      | (with_reducible exact LeO.none _)
      | (with_reducible refine LeO.ite ?_ ?_)
      | (with_reducible refine LeO.bind ?_ (fun _ => ?_))
      | exact ih0 _ _ _ _ _ _
      | exact ih1 _ _ _ _ _ _ _ _ _
      | exact LeO.none _
      | refine LeO.ite ?_ ?_
      | refine LeO.bind ?_ (fun _ => ?_)
    · intro y0 y1 y2 y3 y4 y5 y6 y7 y8
      unfold branch_town_alone_2.l1
      repeat' first
      | (with_reducible exact ih0 _ _ _ _ _ _)
      | (with_reducible exact ih1 _ _ _ _ _ _ _ _ _)
      | (with_reducible exact LeO.refl _)
      | (with_reducible exact LeO.none _)
      | (with_reducible refine LeO.ite ?_ ?_)
      | (with_reducible refine LeO.bind ?_ (fun _ => ?_))
      | exact ih0 _ _ _ _ _ _
      | exact ih1 _ _ _ _ _ _ _ _ _
      | exact LeO.none _
      | refine LeO.ite ?_ ?_
      | refine LeO.bind ?_ (fun _ => ?_)
theorem branch_town_alone_2.mono : ∀ a0 a1 a2 a3 k, LeO (branch_town_alone_2.f k a0 a1 a2 a3) (branch_town_alone_2.f (k + 1) a0 a1 a2 a3) := by
  intro a0 a1 a2 a3 k
  obtain ⟨ih0, ih1⟩ := branch_town_alone_2.mono_l k
  unfold branch_town_alone_2.f
  repeat' first
      | (with_reducible exact ih0 _ _ _ _ _ _)
      | (with_reducible exact ih1 _ _ _ _ _ _ _ _ _)
      | (with_reducible exact LeO.refl _)
      | (with_reducible exact LeO.none _)
      | (with_reducible refine LeO.ite ?_ ?_)
      | (with_reducible refine LeO.bind ?_ (fun _ => ?_))
      | exact ih0 _ _ _ _ _ _
      | exact ih1 _ _ _ _ _ _ _ _ _
      | exact LeO.none _
      | refine LeO.ite ?_ ?_
      | refine LeO.bind ?_ (fun _ => ?_)
set_option maxHeartbeats 8000000 in
set_option maxRecDepth 100000 in
theorem branch_town_alone_2.calls (k : Nat) (a0 : Int) (g1 : Nat) (gg1 : Nat) (a1_0 : Int) (A1_1 : Option Addr) (c1_1 : Nat) (l1_1 : List (S30)) (a1_2 : Option Nat) (g2 : Nat) (vf2_0 : Value) (a2_0 : (Int → Option Bool)) (r : Int) (w : World) (hP1 : w.heap[g1]? = some (.cells #[.pointer (some ⟨gg1, 0, none⟩)] 65 (0, 0))) (hQ1 : w.heap[gg1]? = some (.cells #[.int .i64 a1_0, .slice A1_1 l1_1.length c1_1, .map a1_2] 70 (0, 0))) (hr1_1 : Kd.C k30 w A1_1 l1_1.length l1_1) (hc1_1 : l1_1.length ≤ c1_1) (hP2 : w.heap[g2]? = some (.cells #[vf2_0] 75 (0, 0))) (hF2_0 : IsFn Try.prog w vf2_0 a2_0) (h : branch_town_alone_2.f k a0 a1_0 l1_1 a2_0 = some r) :
  Calls Try.prog 80 #[.int .i64 a0, .pointer (some ⟨g1, 0, none⟩), .pointer (some ⟨g2, 0, none⟩)] w fun e w' => e = .returned (.int .i64 r) ∧ Below w.heap.size w w' := by
 have hu65 := Try.underlying65
 have hu30 := Try.underlying30
 have HP1 := Aside0.mk hP1
 clear hP1
 have HQ1 := Aside0.mk hQ1
 clear hQ1
 have HR1_1 := Aside0.mk hr1_1
 have HC1_1 := Aside0.mk hc1_1
 clear hr1_1 hc1_1
 have HP2 := Aside0.mk hP2
 clear hP2
 have HF2_0 := Aside0.mk hF2_0
 clear hF2_0
 have HB := Aside0.mk (Below.refl w.heap.size w)
 have H : (if 0 ≤ a0 then (branch_town_alone_2.l0 k (shl .i64 1 a0) a1_0 0 a1_0 l1_1 a2_0) else (none)) = some r := h
 clear h
 by_cases c4 : 0 ≤ a0
 ·rw [if_pos c4] at H
  have c4b0 := eq_true c4
  have c4b1 : decide (0 ≤ a0) = true := decide_eq_true c4
  clear c4
  obtain ⟨ji5, hji5⟩ : ∃ j_ : Int, (shl .i64 1 a0) = j_ := ⟨_, rfl⟩
  replace H : (branch_town_alone_2.l0 k ji5 a1_0 0 a1_0 l1_1 a2_0) = some r := by first | (rw [hji5] at H; exact H) | (simp only [hji5] at H ⊢; exact H)
  have hji5_ : (IntKind.i64.wrap (1 * 2 ^ min a0.toNat 64)) = ji5 := hji5
  have hji5z : a0 ≤ 64 → (IntKind.i64.wrap (1 * 2 ^ a0.toNat)) = ji5 := shl_small hji5
  have hji5u : (IntKind.i64.wrap (2 ^ min a0.toNat 64)) = ji5 := by have h_ := hji5_; rw [Int.one_mul] at h_; exact h_
  have hji5v : a0 ≤ 64 → (IntKind.i64.wrap (2 ^ a0.toNat)) = ji5 := fun hle_ => by have h_ := hji5z hle_; rw [Int.one_mul] at h_; exact h_
  have hji5y : (wrap64 (1 * 2 ^ min a0.toNat 64)) = ji5 := (i64_w _).symm.trans hji5_
  have hji5x : a0 ≤ 64 → (wrap64 (1 * 2 ^ a0.toNat)) = ji5 := fun h_ => (i64_w _).symm.trans (hji5z h_)
  have H' := Aside0.mk H
  clear H
  have hx105_0 := blk_cell HP1.out 0
  replace hx105_0 := hx105_0.trans rfl
  have hx106_0 := blk_cell HQ1.out 0
  replace hx106_0 := hx106_0.trans rfl
  have hx106_1 := blk_cell HQ1.out 1
  replace hx106_1 := hx106_1.trans rfl
  have hx106_2 := blk_cell HQ1.out 2
  replace hx106_2 := hx106_2.trans rfl
  go_enter Try.func80, Try.ntmps80
  go_wp2
  go_loopg [5, 14] k (fun kq v5 v14 w' => ∃ (x5_1 : Int) (x14_1 : Int), v5 = .int .i64 x5_1 ∧ v14 = .int .i64 x14_1 ∧ Aside0 (branch_town_alone_2.l0 kq x5_1 a1_0 x14_1 a1_0 l1_1 a2_0 = some r) ∧ Aside0 (kq ≤ k) ∧ Aside0 (Below w.heap.size w w'))
  case atStart => exact ⟨(ji5), (0), (by first | rfl | (simp; done) | (simp only [← hji5] <;> (first | rfl | simp)) | (simp [*]; done)), (by first | rfl | (simp; done) | (simp [*]; done)), H', ⟨Nat.le_refl _⟩, ⟨by repeat (first | (with_reducible first | exact HB.out | apply below_alloc | apply pw_below_drewN | apply below_drew1) | exact HB.out)⟩⟩
  case round =>
   clear H'
   try clear c1
   try clear hx1
   try clear p2
   try clear c4
   try clear c4b0
   try clear c4b1
   try clear hx105_0
   try clear hx106_0
   try clear hx106_1
   try clear hx106_2
   obtain ⟨x5_1, x14_1, rfl, rfl, HA, HK1, HB⟩ := hrel
   cases gk with
   | zero => exact absurd HA.out (by simp [branch_town_alone_2.l0])
   | succ k1 =>
    have H := HA.out
    clear HA
    simp only [branch_town_alone_2.l0] at H
    by_cases c6 : x14_1 < a1_0
    ·rw [if_pos c6] at H
     have c6b0 : decide (x14_1 < a1_0) = true := decide_eq_true c6
     clear c6
     have H' := Aside0.mk H
     clear H
     have hx107_0 := blk_cell HP1.out 0
     replace hx107_0 := hx107_0.trans rfl
     replace hx107_0 := (HB.out.cell (World.block_lt_of_cell? w _ hx107_0)).trans hx107_0
     have hx108_0 := blk_cell HQ1.out 0
     replace hx108_0 := hx108_0.trans rfl
     replace hx108_0 := (HB.out.cell (World.block_lt_of_cell? w _ hx108_0)).trans hx108_0
     have hx108_1 := blk_cell HQ1.out 1
     replace hx108_1 := hx108_1.trans rfl
     replace hx108_1 := (HB.out.cell (World.block_lt_of_cell? w _ hx108_1)).trans hx108_1
     have hx108_2 := blk_cell HQ1.out 2
     replace hx108_2 := hx108_2.trans rfl
     replace hx108_2 := (HB.out.cell (World.block_lt_of_cell? w _ hx108_2)).trans hx108_2
     go_wp2
     go_loopg [5, 21] k1 (fun kq v5 v21 w' => ∃ (x5_2 : Int) (x21_2 : Int), v5 = .int .i64 x5_2 ∧ v21 = .int .i64 x21_2 ∧ Aside0 (branch_town_alone_2.l1 kq x5_2 a1_0 x14_1 l1_1 (l1_1.length : Int) x21_2 a1_0 l1_1 a2_0 = some r) ∧ Aside0 (kq ≤ k1) ∧ Aside0 (Below w.heap.size w w'))
     case atStart => exact ⟨(x5_1), (0), (by first | rfl | (simp; done) | (simp [*]; done)), (by first | rfl | (simp; done) | (simp [*]; done)), H', ⟨Nat.le_refl _⟩, ⟨by repeat (first | (with_reducible first | exact HB.out | apply below_alloc | apply pw_below_drewN | apply below_drew1) | exact HB.out)⟩⟩
     case round =>
      clear H'
      try clear c1
      try clear hx1
      try clear p2
      try clear c4
      try clear c4b0
      try clear c4b1
      try clear c6
      try clear c6b0
      try clear p6
      try clear hx105_0
      try clear hx106_0
      try clear hx106_1
      try clear hx106_2
      try clear hx107_0
      try clear hx108_0
      try clear hx108_1
      try clear hx108_2
      try clear p2
      obtain ⟨x5_2, x21_2, rfl, rfl, HA, HK2, HB⟩ := hrel
      cases gk with
      | zero => exact absurd HA.out (by simp [branch_town_alone_2.l1])
      | succ k2 =>
       have H := HA.out
       clear HA
       simp only [branch_town_alone_2.l1] at H
       by_cases c7 : x21_2 < (l1_1.length : Int)
       ·rw [if_pos c7] at H
        have c7b0 : decide (x21_2 < (l1_1.length : Int)) = true := decide_eq_true c7
        clear c7
        by_cases c8 : 0 ≤ x21_2
        ·rw [if_pos c8] at H
         have c8b0 : decide (0 ≤ x21_2) = true := decide_eq_true c8
         clear c8
         by_cases c9 : x21_2 < (l1_1.length : Int)
         ·rw [if_pos c9] at H
          have c9b0 : decide (x21_2 < (l1_1.length : Int)) = true := decide_eq_true c9
          clear c9
          replace H := Option.bind_eq_some_iff.mp H
          obtain ⟨t112, A100, H⟩ := H
          replace H : (if t112 = true then (if 0 ≤ ((rd_T30 l1_1 x21_2).f0) then (if (Go.bits .and .i64 (shr .i64 x5_2 ((rd_T30 l1_1 x21_2).f0)) 1) = 1 then (if 0 ≤ ((rd_T30 l1_1 x21_2).f1) then (branch_town_alone_2.l1 k2 (Go.bits .or .i64 x5_2 (shl .i64 1 ((rd_T30 l1_1 x21_2).f1))) a1_0 x14_1 l1_1 (l1_1.length : Int) (wrap64 (x21_2 + 1)) a1_0 l1_1 a2_0) else (none)) else (branch_town_alone_2.l1 k2 x5_2 a1_0 x14_1 l1_1 (l1_1.length : Int) (wrap64 (x21_2 + 1)) a1_0 l1_1 a2_0)) else (none)) else (branch_town_alone_2.l1 k2 x5_2 a1_0 x14_1 l1_1 (l1_1.length : Int) (wrap64 (x21_2 + 1)) a1_0 l1_1 a2_0)) = some r := H
          have A10 := Aside0.mk A100
          clear A100
          by_cases c11 : t112 = true
          ·subst c11
           have H1 : (if 0 ≤ ((rd_T30 l1_1 x21_2).f0) then (if (Go.bits .and .i64 (shr .i64 x5_2 ((rd_T30 l1_1 x21_2).f0)) 1) = 1 then (if 0 ≤ ((rd_T30 l1_1 x21_2).f1) then (branch_town_alone_2.l1 k2 (Go.bits .or .i64 x5_2 (shl .i64 1 ((rd_T30 l1_1 x21_2).f1))) a1_0 x14_1 l1_1 (l1_1.length : Int) (wrap64 (x21_2 + 1)) a1_0 l1_1 a2_0) else (none)) else (branch_town_alone_2.l1 k2 x5_2 a1_0 x14_1 l1_1 (l1_1.length : Int) (wrap64 (x21_2 + 1)) a1_0 l1_1 a2_0)) else (none)) = some r := by rw [if_pos rfl] at H; exact H
           clear H
           have H := H1
           clear H1
           by_cases c12 : 0 ≤ ((rd_T30 l1_1 x21_2).f0)
           ·rw [if_pos c12] at H
            have c12b0 := eq_true c12
            have c12b1 : decide (0 ≤ ((rd_T30 l1_1 x21_2).f0)) = true := decide_eq_true c12
            clear c12
            obtain ⟨ji13, hji13⟩ : ∃ j_ : Int, (shr .i64 x5_2 ((rd_T30 l1_1 x21_2).f0)) = j_ := ⟨_, rfl⟩
            replace H : (if (Go.bits .and .i64 (ji13) 1) = 1 then (if 0 ≤ ((rd_T30 l1_1 x21_2).f1) then (branch_town_alone_2.l1 k2 (Go.bits .or .i64 x5_2 (shl .i64 1 ((rd_T30 l1_1 x21_2).f1))) a1_0 x14_1 l1_1 (l1_1.length : Int) (wrap64 (x21_2 + 1)) a1_0 l1_1 a2_0) else (none)) else (branch_town_alone_2.l1 k2 x5_2 a1_0 x14_1 l1_1 (l1_1.length : Int) (wrap64 (x21_2 + 1)) a1_0 l1_1 a2_0)) = some r := by first | (rw [hji13] at H; exact H) | (simp only [hji13] at H ⊢; exact H)
            (try rw [hji13] at A10)
            have hji13_ : (x5_2 / 2 ^ min ((rd_T30 l1_1 x21_2).f0).toNat 64) = ji13 := hji13
            have hji13z : ((rd_T30 l1_1 x21_2).f0) ≤ 64 → (x5_2 / 2 ^ ((rd_T30 l1_1 x21_2).f0).toNat) = ji13 := shr_small hji13
            by_cases c14 : (Go.bits .and .i64 (ji13) 1) = 1
            ·rw [if_pos c14] at H
             have c14b0 : ((Go.bits .and .i64 (ji13) 1) == 1) = true := beq_iff_eq.mpr c14
             have c14b1 : ((Go.bits .and .i64 (ji13) 1) != 1) = false := bne_eq_false_iff_eq.mpr c14
             clear c14
             by_cases c15 : 0 ≤ ((rd_T30 l1_1 x21_2).f1)
             ·rw [if_pos c15] at H
              have c15b0 := eq_true c15
              have c15b1 : decide (0 ≤ ((rd_T30 l1_1 x21_2).f1)) = true := decide_eq_true c15
              clear c15
              obtain ⟨ji16, hji16⟩ : ∃ j_ : Int, (shl .i64 1 ((rd_T30 l1_1 x21_2).f1)) = j_ := ⟨_, rfl⟩
              replace H : (branch_town_alone_2.l1 k2 (Go.bits .or .i64 x5_2 (ji16)) a1_0 x14_1 l1_1 (l1_1.length : Int) (wrap64 (x21_2 + 1)) a1_0 l1_1 a2_0) = some r := by first | (rw [hji16] at H; exact H) | (simp only [hji16] at H ⊢; exact H)
              (try rw [hji16] at A10)
              have hji16_ : (IntKind.i64.wrap (1 * 2 ^ min ((rd_T30 l1_1 x21_2).f1).toNat 64)) = ji16 := hji16
              have hji16z : ((rd_T30 l1_1 x21_2).f1) ≤ 64 → (IntKind.i64.wrap (1 * 2 ^ ((rd_T30 l1_1 x21_2).f1).toNat)) = ji16 := shl_small hji16
              have hji16u : (IntKind.i64.wrap (2 ^ min ((rd_T30 l1_1 x21_2).f1).toNat 64)) = ji16 := by have h_ := hji16_; rw [Int.one_mul] at h_; exact h_
              have hji16v : ((rd_T30 l1_1 x21_2).f1) ≤ 64 → (IntKind.i64.wrap (2 ^ ((rd_T30 l1_1 x21_2).f1).toNat)) = ji16 := fun hle_ => by have h_ := hji16z hle_; rw [Int.one_mul] at h_; exact h_
              have hji16y : (wrap64 (1 * 2 ^ min ((rd_T30 l1_1 x21_2).f1).toNat 64)) = ji16 := (i64_w _).symm.trans hji16_
              have hji16x : ((rd_T30 l1_1 x21_2).f1) ≤ 64 → (wrap64 (1 * 2 ^ ((rd_T30 l1_1 x21_2).f1).toNat)) = ji16 := fun h_ => (i64_w _).symm.trans (hji16z h_)
              have H' := Aside0.mk H
              clear H
              have p109 : 0 ≤ (x21_2 : Int) := of_decide_eq_true (by first | (with_reducible assumption) | assumption)
              have q109 : x21_2 < (l1_1.length : Int) := of_decide_eq_true (by first | (with_reducible assumption) | assumption)
              obtain ⟨ad109, e109, hx109_0, hx109_1, hx109_2⟩ := at_T30 HR1_1.out x21_2 p109 q109
              cases e109
              replace hx109_0 := (HB.out.cell (World.block_lt_of_cell? w _ hx109_0)).trans hx109_0
              replace hx109_1 := (HB.out.cell (World.block_lt_of_cell? w _ hx109_1)).trans hx109_1
              replace hx109_2 := (HB.out.cell (World.block_lt_of_cell? w _ hx109_2)).trans hx109_2
              replace p109 := eq_true p109
              replace q109 := eq_true q109
              go_wp2_with (first | ((with_reducible refine gate_dst (N := 7) rfl ?_); refine box_event ?hg (N := 7) ?hd (cs := #[.int .i64 0, .int .i64 0, .int .i64 0]) (t := 30) ?hr ?_; (case hd => rfl); (case hg => rfl); (case hr => first | (go_simp; done) | (go_simp; rfl)); intro gb110 hg w17 hbox hb; have n0_ := Aside0.mk (below_step (by repeat (first | (with_reducible first | exact HB.out | apply below_alloc | apply pw_below_drewN | apply below_drew1) | exact HB.out)) hb); have n1_ := Aside0.mk (hbox); have n2_ := Aside0.mk ((by rw [hg]; exact (below_size (by repeat (first | (with_reducible first | exact HB.out | apply below_alloc | apply pw_below_drewN | apply below_drew1) | exact HB.out))) : w.heap.size ≤ gb110)); have n3_ := Aside0.mk ((by rw [hg]; exact (below_size (by repeat (first | (with_reducible first | exact HB.out | apply below_alloc | apply pw_below_drewN | apply below_drew1) | exact HB.out))) : w.heap.size ≤ gb110)); clear HB; have HB := n0_; have BK110 := n1_; have GW110 := n2_; have GE110 := n3_; clear n0_ n1_ n2_ n3_; clear hb hbox hg; have hcz18_0 : w17.cell? ⟨gb110, 0, none⟩ = some (.int .i64 0) := (blk_cell BK110.out 0).trans rfl; have hcz18_1 : w17.cell? ⟨gb110, 1, none⟩ = some (.int .i64 0) := (blk_cell BK110.out 1).trans rfl; have hcz18_2 : w17.cell? ⟨gb110, 2, none⟩ = some (.int .i64 0) := (blk_cell BK110.out 2).trans rfl; have hfz18_0 := blk_frozen BK110.out 0; have hfz18_1 := blk_frozen BK110.out 1; have hfz18_2 := blk_frozen BK110.out 2; have hx111_0 := blk_cell HP2.out 0; replace hx111_0 := hx111_0.trans rfl; replace hx111_0 := (HB.out.cell (World.block_lt_of_cell? w _ hx111_0)).trans hx111_0; replace hx111_0 := (cell_far (a := ⟨g2, 0, none⟩) (p := ⟨gb110, 0, none⟩) (Nat.ne_of_lt (Nat.lt_of_lt_of_le (blk_lt HP2.out) GW110.out)) (.int .i64 ((rd_T30 l1_1 x21_2).f0))).trans hx111_0; replace hx111_0 := (cell_far (a := ⟨g2, 0, none⟩) (p := ⟨gb110, 1, none⟩) (Nat.ne_of_lt (Nat.lt_of_lt_of_le (blk_lt HP2.out) GW110.out)) (.int .i64 ((rd_T30 l1_1 x21_2).f1))).trans hx111_0; replace hx111_0 := (cell_far (a := ⟨g2, 0, none⟩) (p := ⟨gb110, 2, none⟩) (Nat.ne_of_lt (Nat.lt_of_lt_of_le (blk_lt HP2.out) GW110.out)) (.int .i64 ((rd_T30 l1_1 x21_2).f2))).trans hx111_0) | ((with_reducible refine gate_dst (N := 28) rfl ?_); refine goesF_ (some 28) rfl rfl HF2_0.out rfl rfl (i := x21_2) rfl ?sideB A10.out ?_; (case sideB => exact by repeat (first | (with_reducible first | exact HB.out | apply below_alloc | apply pw_below_drewN | apply below_drew1 | refine below_set ?_ GE110.out) | exact HB.out)); intro w19 hb; have n0_ := Aside0.mk (blk_below (g := gb110) (o := .cells #[.int .i64 ((rd_T30 l1_1 x21_2).f0), .int .i64 ((rd_T30 l1_1 x21_2).f1), .int .i64 ((rd_T30 l1_1 x21_2).f2)] 30 (0, 0)) (by (with_reducible repeat (first | refine blk_drewN ?_ _ | refine blk_drew ?_ | refine blk_alloc ?_ _)); refine blk_put (cs := #[.int .i64 ((rd_T30 l1_1 x21_2).f0), .int .i64 ((rd_T30 l1_1 x21_2).f1), .int .i64 0]) ?_ 2 _ rfl; (with_reducible repeat (first | refine blk_drewN ?_ _ | refine blk_drew ?_ | refine blk_alloc ?_ _)); refine blk_put (cs := #[.int .i64 ((rd_T30 l1_1 x21_2).f0), .int .i64 0, .int .i64 0]) ?_ 1 _ rfl; (with_reducible repeat (first | refine blk_drewN ?_ _ | refine blk_drew ?_ | refine blk_alloc ?_ _)); refine blk_put (cs := #[.int .i64 0, .int .i64 0, .int .i64 0]) ?_ 0 _ rfl; (with_reducible repeat (first | refine blk_drewN ?_ _ | refine blk_drew ?_ | refine blk_alloc ?_ _)); exact BK110.out) hb); have n1_ := Aside0.mk (below_step (by repeat (first | (with_reducible first | exact HB.out | apply below_alloc | apply pw_below_drewN | apply below_drew1 | refine below_set ?_ GE110.out) | exact HB.out)) hb); clear BK110; clear HB; have BK110 := n0_; have HB := n1_; clear n0_ n1_; (try clear hb); (try clear hb2); (try clear hk); (try clear hi); have hcz20_0 : w19.cell? ⟨gb110, 0, none⟩ = some (.int .i64 ((rd_T30 l1_1 x21_2).f0)) := (blk_cell BK110.out 0).trans rfl; have hcz20_1 : w19.cell? ⟨gb110, 1, none⟩ = some (.int .i64 ((rd_T30 l1_1 x21_2).f1)) := (blk_cell BK110.out 1).trans rfl; have hcz20_2 : w19.cell? ⟨gb110, 2, none⟩ = some (.int .i64 ((rd_T30 l1_1 x21_2).f2)) := (blk_cell BK110.out 2).trans rfl; have hfz20_0 := blk_frozen BK110.out 0; have hfz20_1 := blk_frozen BK110.out 1; have hfz20_2 := blk_frozen BK110.out 2))
              go_roundg k2
              case measure => have := HK1.out; have := HK2.out; omega
              case rel => exact ⟨(Go.bits .or .i64 x5_2 (ji16)), (wrap64 (x21_2 + 1)), (by first | rfl | (simp; done) | (simp only [← hji16] <;> (first | rfl | simp)) | (simp [*]; done)), (by first | rfl | (simp; done) | (simp [*]; done)), H', ⟨by have := HK1.out; have := HK2.out; omega⟩, ⟨by repeat (first | (with_reducible first | exact HB.out | apply below_alloc | apply pw_below_drewN | apply below_drew1 | refine below_set ?_ GE110.out) | exact HB.out)⟩⟩
             ·rw [if_neg c15] at H
              exact absurd H (by simp)
            ·rw [if_neg c14] at H
             have c14b0 : ((Go.bits .and .i64 (ji13) 1) == 1) = false := beq_eq_false_iff_ne.mpr c14
             have c14b1 : ((Go.bits .and .i64 (ji13) 1) != 1) = true := bne_iff_ne.mpr c14
             have H' := Aside0.mk H
             clear H
             have p109 : 0 ≤ (x21_2 : Int) := of_decide_eq_true (by first | (with_reducible assumption) | assumption)
             have q109 : x21_2 < (l1_1.length : Int) := of_decide_eq_true (by first | (with_reducible assumption) | assumption)
             obtain ⟨ad109, e109, hx109_0, hx109_1, hx109_2⟩ := at_T30 HR1_1.out x21_2 p109 q109
             cases e109
             replace hx109_0 := (HB.out.cell (World.block_lt_of_cell? w _ hx109_0)).trans hx109_0
             replace hx109_1 := (HB.out.cell (World.block_lt_of_cell? w _ hx109_1)).trans hx109_1
             replace hx109_2 := (HB.out.cell (World.block_lt_of_cell? w _ hx109_2)).trans hx109_2
             replace p109 := eq_true p109
             replace q109 := eq_true q109
             go_wp2_with (first | ((with_reducible refine gate_dst (N := 7) rfl ?_); refine box_event ?hg (N := 7) ?hd (cs := #[.int .i64 0, .int .i64 0, .int .i64 0]) (t := 30) ?hr ?_; (case hd => rfl); (case hg => rfl); (case hr => first | (go_simp; done) | (go_simp; rfl)); intro gb110 hg w21 hbox hb; have n0_ := Aside0.mk (below_step (by repeat (first | (with_reducible first | exact HB.out | apply below_alloc | apply pw_below_drewN | apply below_drew1) | exact HB.out)) hb); have n1_ := Aside0.mk (hbox); have n2_ := Aside0.mk ((by rw [hg]; exact (below_size (by repeat (first | (with_reducible first | exact HB.out | apply below_alloc | apply pw_below_drewN | apply below_drew1) | exact HB.out))) : w.heap.size ≤ gb110)); have n3_ := Aside0.mk ((by rw [hg]; exact (below_size (by repeat (first | (with_reducible first | exact HB.out | apply below_alloc | apply pw_below_drewN | apply below_drew1) | exact HB.out))) : w.heap.size ≤ gb110)); clear HB; have HB := n0_; have BK110 := n1_; have GW110 := n2_; have GE110 := n3_; clear n0_ n1_ n2_ n3_; clear hb hbox hg; have hcz22_0 : w21.cell? ⟨gb110, 0, none⟩ = some (.int .i64 0) := (blk_cell BK110.out 0).trans rfl; have hcz22_1 : w21.cell? ⟨gb110, 1, none⟩ = some (.int .i64 0) := (blk_cell BK110.out 1).trans rfl; have hcz22_2 : w21.cell? ⟨gb110, 2, none⟩ = some (.int .i64 0) := (blk_cell BK110.out 2).trans rfl; have hfz22_0 := blk_frozen BK110.out 0; have hfz22_1 := blk_frozen BK110.out 1; have hfz22_2 := blk_frozen BK110.out 2; have hx111_0 := blk_cell HP2.out 0; replace hx111_0 := hx111_0.trans rfl; replace hx111_0 := (HB.out.cell (World.block_lt_of_cell? w _ hx111_0)).trans hx111_0; replace hx111_0 := (cell_far (a := ⟨g2, 0, none⟩) (p := ⟨gb110, 0, none⟩) (Nat.ne_of_lt (Nat.lt_of_lt_of_le (blk_lt HP2.out) GW110.out)) (.int .i64 ((rd_T30 l1_1 x21_2).f0))).trans hx111_0; replace hx111_0 := (cell_far (a := ⟨g2, 0, none⟩) (p := ⟨gb110, 1, none⟩) (Nat.ne_of_lt (Nat.lt_of_lt_of_le (blk_lt HP2.out) GW110.out)) (.int .i64 ((rd_T30 l1_1 x21_2).f1))).trans hx111_0; replace hx111_0 := (cell_far (a := ⟨g2, 0, none⟩) (p := ⟨gb110, 2, none⟩) (Nat.ne_of_lt (Nat.lt_of_lt_of_le (blk_lt HP2.out) GW110.out)) (.int .i64 ((rd_T30 l1_1 x21_2).f2))).trans hx111_0) | ((with_reducible refine gate_dst (N := 28) rfl ?_); refine goesF_ (some 28) rfl rfl HF2_0.out rfl rfl (i := x21_2) rfl ?sideB A10.out ?_; (case sideB => exact by repeat (first | (with_reducible first | exact HB.out | apply below_alloc | apply pw_below_drewN | apply below_drew1 | refine below_set ?_ GE110.out) | exact HB.out)); intro w23 hb; have n0_ := Aside0.mk (blk_below (g := gb110) (o := .cells #[.int .i64 ((rd_T30 l1_1 x21_2).f0), .int .i64 ((rd_T30 l1_1 x21_2).f1), .int .i64 ((rd_T30 l1_1 x21_2).f2)] 30 (0, 0)) (by (with_reducible repeat (first | refine blk_drewN ?_ _ | refine blk_drew ?_ | refine blk_alloc ?_ _)); refine blk_put (cs := #[.int .i64 ((rd_T30 l1_1 x21_2).f0), .int .i64 ((rd_T30 l1_1 x21_2).f1), .int .i64 0]) ?_ 2 _ rfl; (with_reducible repeat (first | refine blk_drewN ?_ _ | refine blk_drew ?_ | refine blk_alloc ?_ _)); refine blk_put (cs := #[.int .i64 ((rd_T30 l1_1 x21_2).f0), .int .i64 0, .int .i64 0]) ?_ 1 _ rfl; (with_reducible repeat (first | refine blk_drewN ?_ _ | refine blk_drew ?_ | refine blk_alloc ?_ _)); refine blk_put (cs := #[.int .i64 0, .int .i64 0, .int .i64 0]) ?_ 0 _ rfl; (with_reducible repeat (first | refine blk_drewN ?_ _ | refine blk_drew ?_ | refine blk_alloc ?_ _)); exact BK110.out) hb); have n1_ := Aside0.mk (below_step (by repeat (first | (with_reducible first | exact HB.out | apply below_alloc | apply pw_below_drewN | apply below_drew1 | refine below_set ?_ GE110.out) | exact HB.out)) hb); clear BK110; clear HB; have BK110 := n0_; have HB := n1_; clear n0_ n1_; (try clear hb); (try clear hb2); (try clear hk); (try clear hi); have hcz24_0 : w23.cell? ⟨gb110, 0, none⟩ = some (.int .i64 ((rd_T30 l1_1 x21_2).f0)) := (blk_cell BK110.out 0).trans rfl; have hcz24_1 : w23.cell? ⟨gb110, 1, none⟩ = some (.int .i64 ((rd_T30 l1_1 x21_2).f1)) := (blk_cell BK110.out 1).trans rfl; have hcz24_2 : w23.cell? ⟨gb110, 2, none⟩ = some (.int .i64 ((rd_T30 l1_1 x21_2).f2)) := (blk_cell BK110.out 2).trans rfl; have hfz24_0 := blk_frozen BK110.out 0; have hfz24_1 := blk_frozen BK110.out 1; have hfz24_2 := blk_frozen BK110.out 2))
             go_roundg k2
             case measure => have := HK1.out; have := HK2.out; omega
             case rel => exact ⟨(x5_2), (wrap64 (x21_2 + 1)), (by first | rfl | (simp; done) | (simp [*]; done)), (by first | rfl | (simp; done) | (simp [*]; done)), H', ⟨by have := HK1.out; have := HK2.out; omega⟩, ⟨by repeat (first | (with_reducible first | exact HB.out | apply below_alloc | apply pw_below_drewN | apply below_drew1 | refine below_set ?_ GE110.out) | exact HB.out)⟩⟩
           ·rw [if_neg c12] at H
            exact absurd H (by simp)
          ·replace c11 := Bool.eq_false_iff.mpr c11
           subst c11
           have H1 : (branch_town_alone_2.l1 k2 x5_2 a1_0 x14_1 l1_1 (l1_1.length : Int) (wrap64 (x21_2 + 1)) a1_0 l1_1 a2_0) = some r := by rw [if_neg (show ¬ (false = true) by decide)] at H; exact H
           clear H
           have H := H1
           clear H1
           have H' := Aside0.mk H
           clear H
           have p109 : 0 ≤ (x21_2 : Int) := of_decide_eq_true (by first | (with_reducible assumption) | assumption)
           have q109 : x21_2 < (l1_1.length : Int) := of_decide_eq_true (by first | (with_reducible assumption) | assumption)
           obtain ⟨ad109, e109, hx109_0, hx109_1, hx109_2⟩ := at_T30 HR1_1.out x21_2 p109 q109
           cases e109
           replace hx109_0 := (HB.out.cell (World.block_lt_of_cell? w _ hx109_0)).trans hx109_0
           replace hx109_1 := (HB.out.cell (World.block_lt_of_cell? w _ hx109_1)).trans hx109_1
           replace hx109_2 := (HB.out.cell (World.block_lt_of_cell? w _ hx109_2)).trans hx109_2
           replace p109 := eq_true p109
           replace q109 := eq_true q109
           go_wp2_with (first | ((with_reducible refine gate_dst (N := 7) rfl ?_); refine box_event ?hg (N := 7) ?hd (cs := #[.int .i64 0, .int .i64 0, .int .i64 0]) (t := 30) ?hr ?_; (case hd => rfl); (case hg => rfl); (case hr => first | (go_simp; done) | (go_simp; rfl)); intro gb110 hg w25 hbox hb; have n0_ := Aside0.mk (below_step (by repeat (first | (with_reducible first | exact HB.out | apply below_alloc | apply pw_below_drewN | apply below_drew1) | exact HB.out)) hb); have n1_ := Aside0.mk (hbox); have n2_ := Aside0.mk ((by rw [hg]; exact (below_size (by repeat (first | (with_reducible first | exact HB.out | apply below_alloc | apply pw_below_drewN | apply below_drew1) | exact HB.out))) : w.heap.size ≤ gb110)); have n3_ := Aside0.mk ((by rw [hg]; exact (below_size (by repeat (first | (with_reducible first | exact HB.out | apply below_alloc | apply pw_below_drewN | apply below_drew1) | exact HB.out))) : w.heap.size ≤ gb110)); clear HB; have HB := n0_; have BK110 := n1_; have GW110 := n2_; have GE110 := n3_; clear n0_ n1_ n2_ n3_; clear hb hbox hg; have hcz26_0 : w25.cell? ⟨gb110, 0, none⟩ = some (.int .i64 0) := (blk_cell BK110.out 0).trans rfl; have hcz26_1 : w25.cell? ⟨gb110, 1, none⟩ = some (.int .i64 0) := (blk_cell BK110.out 1).trans rfl; have hcz26_2 : w25.cell? ⟨gb110, 2, none⟩ = some (.int .i64 0) := (blk_cell BK110.out 2).trans rfl; have hfz26_0 := blk_frozen BK110.out 0; have hfz26_1 := blk_frozen BK110.out 1; have hfz26_2 := blk_frozen BK110.out 2; have hx111_0 := blk_cell HP2.out 0; replace hx111_0 := hx111_0.trans rfl; replace hx111_0 := (HB.out.cell (World.block_lt_of_cell? w _ hx111_0)).trans hx111_0; replace hx111_0 := (cell_far (a := ⟨g2, 0, none⟩) (p := ⟨gb110, 0, none⟩) (Nat.ne_of_lt (Nat.lt_of_lt_of_le (blk_lt HP2.out) GW110.out)) (.int .i64 ((rd_T30 l1_1 x21_2).f0))).trans hx111_0; replace hx111_0 := (cell_far (a := ⟨g2, 0, none⟩) (p := ⟨gb110, 1, none⟩) (Nat.ne_of_lt (Nat.lt_of_lt_of_le (blk_lt HP2.out) GW110.out)) (.int .i64 ((rd_T30 l1_1 x21_2).f1))).trans hx111_0; replace hx111_0 := (cell_far (a := ⟨g2, 0, none⟩) (p := ⟨gb110, 2, none⟩) (Nat.ne_of_lt (Nat.lt_of_lt_of_le (blk_lt HP2.out) GW110.out)) (.int .i64 ((rd_T30 l1_1 x21_2).f2))).trans hx111_0) | ((with_reducible refine gate_dst (N := 28) rfl ?_); refine goesF_ (some 28) rfl rfl HF2_0.out rfl rfl (i := x21_2) rfl ?sideB A10.out ?_; (case sideB => exact by repeat (first | (with_reducible first | exact HB.out | apply below_alloc | apply pw_below_drewN | apply below_drew1 | refine below_set ?_ GE110.out) | exact HB.out)); intro w27 hb; have n0_ := Aside0.mk (blk_below (g := gb110) (o := .cells #[.int .i64 ((rd_T30 l1_1 x21_2).f0), .int .i64 ((rd_T30 l1_1 x21_2).f1), .int .i64 ((rd_T30 l1_1 x21_2).f2)] 30 (0, 0)) (by (with_reducible repeat (first | refine blk_drewN ?_ _ | refine blk_drew ?_ | refine blk_alloc ?_ _)); refine blk_put (cs := #[.int .i64 ((rd_T30 l1_1 x21_2).f0), .int .i64 ((rd_T30 l1_1 x21_2).f1), .int .i64 0]) ?_ 2 _ rfl; (with_reducible repeat (first | refine blk_drewN ?_ _ | refine blk_drew ?_ | refine blk_alloc ?_ _)); refine blk_put (cs := #[.int .i64 ((rd_T30 l1_1 x21_2).f0), .int .i64 0, .int .i64 0]) ?_ 1 _ rfl; (with_reducible repeat (first | refine blk_drewN ?_ _ | refine blk_drew ?_ | refine blk_alloc ?_ _)); refine blk_put (cs := #[.int .i64 0, .int .i64 0, .int .i64 0]) ?_ 0 _ rfl; (with_reducible repeat (first | refine blk_drewN ?_ _ | refine blk_drew ?_ | refine blk_alloc ?_ _)); exact BK110.out) hb); have n1_ := Aside0.mk (below_step (by repeat (first | (with_reducible first | exact HB.out | apply below_alloc | apply pw_below_drewN | apply below_drew1 | refine below_set ?_ GE110.out) | exact HB.out)) hb); clear BK110; clear HB; have BK110 := n0_; have HB := n1_; clear n0_ n1_; (try clear hb); (try clear hb2); (try clear hk); (try clear hi)))
           go_roundg k2
           case measure => have := HK1.out; have := HK2.out; omega
           case rel => exact ⟨(x5_2), (wrap64 (x21_2 + 1)), (by first | rfl | (simp; done) | (simp [*]; done)), (by first | rfl | (simp; done) | (simp [*]; done)), H', ⟨by have := HK1.out; have := HK2.out; omega⟩, ⟨by repeat (first | (with_reducible first | exact HB.out | apply below_alloc | apply pw_below_drewN | apply below_drew1 | refine below_set ?_ GE110.out) | exact HB.out)⟩⟩
         ·rw [if_neg c9] at H
          exact absurd H (by simp)
        ·rw [if_neg c8] at H
         exact absurd H (by simp)
       ·rw [if_neg c7] at H
        have c7b0 : decide (x21_2 < (l1_1.length : Int)) = false := decide_eq_false c7
        clear c7
        have H' := Aside0.mk H
        clear H
        go_wp2
        go_roundg k2
        case measure => have := HK1.out; have := HK2.out; omega
        case rel => exact ⟨(x5_2), (wrap64 (x14_1 + 1)), (by first | rfl | (simp; done) | (simp [*]; done)), (by first | rfl | (simp; done) | (simp [*]; done)), H', ⟨by have := HK1.out; have := HK2.out; omega⟩, ⟨by repeat (first | (with_reducible first | exact HB.out | apply below_alloc | apply pw_below_drewN | apply below_drew1) | exact HB.out)⟩⟩
    ·rw [if_neg c6] at H
     have c6b0 : decide (x14_1 < a1_0) = false := decide_eq_false c6
     clear c6
     obtain rfl := Option.some.inj H
     go_wp2
     go_ret
     exact ⟨by first | rfl | (simp [errW_none, errW_some] <;> rfl) | (simp only [← hji5]; first | rfl | (simp [errW_none, errW_some] <;> rfl)) | (simp [*, errW_none, errW_some] <;> rfl), by repeat (first | (with_reducible first | exact HB.out | apply below_alloc | apply pw_below_drewN | apply below_drew1) | exact HB.out)⟩
 ·rw [if_neg c4] at H
  exact absurd H (by simp)
def branch_town_first_2.f (a0 : Int) (a1_0 : Int) (l1_1 : List (S30)) (a2_0 : Int) : Option (Bool) := if 0 ≤ a0 then (if a0 < (l1_1.length : Int) then (some (((rd_T30 l1_1 a0).f1) == a2_0)) else (none)) else (none)
set_option maxHeartbeats 8000000 in
set_option maxRecDepth 100000 in
theorem branch_town_first_2.calls (a0 : Int) (g1 : Nat) (gg1 : Nat) (a1_0 : Int) (A1_1 : Option Addr) (c1_1 : Nat) (l1_1 : List (S30)) (a1_2 : Option Nat) (g2 : Nat) (a2_0 : Int) (r : Bool) (w : World) (hP1 : w.heap[g1]? = some (.cells #[.pointer (some ⟨gg1, 0, none⟩)] 65 (0, 0))) (hQ1 : w.heap[gg1]? = some (.cells #[.int .i64 a1_0, .slice A1_1 l1_1.length c1_1, .map a1_2] 70 (0, 0))) (hr1_1 : Kd.C k30 w A1_1 l1_1.length l1_1) (hc1_1 : l1_1.length ≤ c1_1) (hP2 : w.heap[g2]? = some (.cells #[.int .i64 a2_0] 3 (0, 0))) (h : branch_town_first_2.f a0 a1_0 l1_1 a2_0 = some r) :
  Calls Try.prog 71 #[.int .i64 a0, .pointer (some ⟨g1, 0, none⟩), .pointer (some ⟨g2, 0, none⟩)] w fun e w' => e = .returned (.bool r) ∧ Drawn0 w w' := by
 have hu65 := Try.underlying65
 have HP1 := Aside0.mk hP1
 clear hP1
 have HQ1 := Aside0.mk hQ1
 clear hQ1
 have HR1_1 := Aside0.mk hr1_1
 have HC1_1 := Aside0.mk hc1_1
 clear hr1_1 hc1_1
 have HP2 := Aside0.mk hP2
 clear hP2
 have H : (if 0 ≤ a0 then (if a0 < (l1_1.length : Int) then (some (((rd_T30 l1_1 a0).f1) == a2_0)) else (none)) else (none)) = some r := h
 clear h
 by_cases c4 : 0 ≤ a0
 ·rw [if_pos c4] at H
  have c4b0 : decide (0 ≤ a0) = true := decide_eq_true c4
  clear c4
  by_cases c5 : a0 < (l1_1.length : Int)
  ·rw [if_pos c5] at H
   have c5b0 : decide (a0 < (l1_1.length : Int)) = true := decide_eq_true c5
   clear c5
   obtain rfl := Option.some.inj H
   have hx113_0 := blk_cell HP1.out 0
   replace hx113_0 := hx113_0.trans rfl
   have hx114_0 := blk_cell HQ1.out 0
   replace hx114_0 := hx114_0.trans rfl
   have hx114_1 := blk_cell HQ1.out 1
   replace hx114_1 := hx114_1.trans rfl
   have hx114_2 := blk_cell HQ1.out 2
   replace hx114_2 := hx114_2.trans rfl
   have p115 : 0 ≤ (a0 : Int) := of_decide_eq_true (by first | (with_reducible assumption) | assumption)
   have q115 : a0 < (l1_1.length : Int) := of_decide_eq_true (by first | (with_reducible assumption) | assumption)
   obtain ⟨ad115, e115, hx115_0, hx115_1, hx115_2⟩ := at_T30 HR1_1.out a0 p115 q115
   cases e115
   replace p115 := eq_true p115
   replace q115 := eq_true q115
   have hx116_0 := blk_cell HP2.out 0
   replace hx116_0 := hx116_0.trans rfl
   go_enter Try.func71, Try.ntmps71
   go_wp2
   repeat (go_quiet (fail); try go_wp2)
   go_ret
   exact ⟨by first | rfl | (simp; done) | (simp [*]; done), by repeat (first | exact Drawn0.refl _ | apply Drawn0.step)⟩
  ·rw [if_neg c5] at H
   exact absurd H (by simp)
 ·rw [if_neg c4] at H
  exact absurd H (by simp)
def branch_town_first_1.f (a0 : Int) : Option (Bool) := some false
set_option maxHeartbeats 8000000 in
set_option maxRecDepth 100000 in
theorem branch_town_first_1.calls (a0 : Int) (r : Bool) (w : World) (h : branch_town_first_1.f a0 = some r) :
  Calls Try.prog 69 #[.int .i64 a0] w fun e w' => e = .returned (.bool r) ∧ Drawn0 w w' := by
 have H : (some false) = some r := h
 clear h
 obtain rfl := Option.some.inj H
 go_enter Try.func69, Try.ntmps69
 go_wp2
 go_ret
 exact ⟨by first | rfl | (simp; done) | (simp [*]; done), by repeat (first | exact Drawn0.refl _ | apply Drawn0.step)⟩
end Go.Proofs.Ytpmadffgdfholaa.B
namespace Go.Proofs.Ytpmadffgdfholaa.B
open Go.RowKit Go.Proofs.YtpmadffgdfholaaW.PrintWords Go.Proofs.YtpmadffgdfholaaW.PrintLast Go.Proofs.YtpmadffgdfholaaW.PrintMore
set_option linter.unusedVariables false
set_option linter.unusedSimpArgs false
/-- What stands while alone runs. -/
structure AlEnv (w W : World) (g0 g3 g7 : Nat) (n : Int) (A : Option Addr) (c : Nat) (l : List S30) (m : Option Nat) (vf : Value) (o : Int → Option Bool) : Prop where
  hb : Below w.heap.size w W
  hP : W.heap[g3]? = some (.cells #[.pointer (some ⟨g0, 0, none⟩)] 65 (0, 0))
  hQ : W.heap[g0]? = some (.cells #[.int .i64 n, .slice A l.length c, .map m] 70 (0, 0))
  hr : Kd.C k30 W A l.length l
  hc : l.length ≤ c
  h7 : W.heap[g7]? = some (.cells #[vf] 75 (0, 0))
  hF : IsFn Try.prog W vf o
theorem AlEnv.below {w W W2 : World} {g0 g3 g7 : Nat} {n : Int} {A : Option Addr} {c : Nat} {l : List S30} {m : Option Nat} {vf : Value} {o : Int → Option Bool} (h : AlEnv w W g0 g3 g7 n A c l m vf o) (hb : Below W.heap.size W W2) : AlEnv w W2 g0 g3 g7 n A c l m vf o :=
  ⟨below_step h.hb hb, (hb.block _ (blk_lt h.hP)).trans h.hP, (hb.block _ (blk_lt h.hQ)).trans h.hQ, Kd.C_below h.hr hb, h.hc, (hb.block _ (blk_lt h.h7)).trans h.h7, h.hF.below hb⟩
theorem AlEnv.call {w W : World} {g0 g3 g7 : Nat} {n : Int} {A : Option Addr} {c : Nat} {l : List S30} {m : Option Nat} {vf : Value} {o : Int → Option Bool} (h : AlEnv w W g0 g3 g7 n A c l m vf o) (k : Nat) (d r : Int) (hf : branch_town_alone_2.f k d n l o = some r) :
    Calls Try.prog 80 #[.int .i64 d, .pointer (some ⟨g3, 0, none⟩), .pointer (some ⟨g7, 0, none⟩)] W fun e W' => e = .returned (.int .i64 r) ∧ AlEnv w W' g0 g3 g7 n A c l m vf o :=
  (branch_town_alone_2.calls k d g3 g0 n A c l m g7 vf o r W h.hP h.hQ h.hr h.hc h.h7 h.hF hf).mono fun e W' ⟨he, hb⟩ => ⟨he, h.below hb⟩
theorem IsFn_alone1 {W : World} {g4 g5 : Nat} {A : Option Addr} {c : Nat} {l : List Int} {vo : Value} {o : Int → Option Bool} (h4 : W.heap[g4]? = some (.cells #[.slice A l.length c] 28 (0, 0))) (hr : Kd.C (Kd.int .i64) W A l.length l) (hc : l.length ≤ c) (h5 : W.heap[g5]? = some (.cells #[vo] 75 (0, 0))) (hF : IsFn Try.prog W vo o) :
    IsFn Try.prog W (.func (.func 79) #[] #[.pointer (some ⟨g4, 0, none⟩), .pointer (some ⟨g5, 0, none⟩)]) (fun i => branch_town_alone_1.f i l o) := by
  refine ⟨79, _, Try.f79, rfl, Try.func79, by kernel_rfl, rfl, fun W2 hW i r hf => ?_⟩
  exact (branch_town_alone_1.calls i g4 A c l g5 vo o r W2 ((hW.block _ (blk_lt h4)).trans h4) (Kd.C_below hr hW) hc ((hW.block _ (blk_lt h5)).trans h5) (hF.below hW) hf).mono fun e W' ⟨he, hb⟩ => ⟨he, by first | exact hb | exact hb.below⟩
def hasB (s c : Int) : Bool := Go.bits .and .i64 (shr .i64 s c) 1 == 1
/-- The corners from which c is reached. -/
def gatherB (R : Int → Int) (c : Int) : Nat → Int
  | 0 => 0
  | j + 1 => if hasB (R j) c then Go.bits .or .i64 (gatherB R c j) (shl .i64 1 j) else gatherB R c j
/-- Is each of the set's corners below j reached from c? -/
def closedB (R : Int → Int) (c s : Int) : Nat → Bool
  | 0 => true
  | j + 1 => closedB R c s j && !(hasB s j && (Go.bits .and .i64 (shr .i64 (R c) j) 1 == 0))
def isAloneB (R : Int → Int) (n : Nat) (c : Int) : Bool := !(hasB (R 0) c) && closedB R c (gatherB R c n) n
/-- From corner c on, j corners being left. -/
def aloneB (R : Int → Int) (n : Nat) : Nat → Int
  | 0 => 0
  | j + 1 => if isAloneB R n ((n - (j + 1) : Nat) : Int) then gatherB R ((n - (j + 1) : Nat) : Int) n else aloneB R n j
theorem gatherB_succ (R : Int → Int) (c y : Int) (h : 0 ≤ y) : gatherB R c (y + 1).toNat = if hasB (R y) c then Go.bits .or .i64 (gatherB R c y.toNat) (shl .i64 1 y) else gatherB R c y.toNat := by
  obtain ⟨j, rfl⟩ := Int.eq_ofNat_of_zero_le h
  rfl
theorem closedB_succ (R : Int → Int) (c s z : Int) (h : 0 ≤ z) : closedB R c s (z + 1).toNat = (closedB R c s z.toNat && !(hasB s z && (Go.bits .and .i64 (shr .i64 (R c) z) 1 == 0))) := by
  obtain ⟨j, rfl⟩ := Int.eq_ofNat_of_zero_le h
  rfl
theorem closedB_false (R : Int → Int) (c s : Int) (n : Nat) (z : Int) (h0 : 0 ≤ z) (h1 : z < n) (hs : hasB s z = true) (hr : (Go.bits .and .i64 (shr .i64 (R c) z) 1 == 0) = true) : closedB R c s n = false := by
  obtain ⟨j, rfl⟩ := Int.eq_ofNat_of_zero_le h0
  have hj : j < n := by omega
  clear h0 h1
  induction n with
  | zero => omega
  | succ n ih =>
    rcases Nat.lt_or_ge j n with h | h
    · simp [closedB, ih h]
    · obtain rfl : j = n := by omega
      simp [closedB, hs, hr]
theorem aloneB_skip (R : Int → Int) (n k : Nat) (x : Int) (hx : 0 ≤ x ∧ x + ((k + 1 : Nat) : Int) = (n : Int)) (h : isAloneB R n x = false) : aloneB R n (k + 1) = aloneB R n k := by
  have e : ((n - (k + 1) : Nat) : Int) = x := by omega
  simp only [aloneB, e, h]; simp
theorem aloneB_hit (R : Int → Int) (n k : Nat) (x : Int) (hx : 0 ≤ x ∧ x + ((k + 1 : Nat) : Int) = (n : Int)) (h : isAloneB R n x = true) : aloneB R n (k + 1) = gatherB R x n := by
  have e : ((n - (k + 1) : Nat) : Int) = x := by omega
  simp only [aloneB, e, h]; simp
set_option maxHeartbeats 4000000 in
set_option maxRecDepth 100000 in
theorem alone_calls (k : Nat) (g0 : Nat) (n : Nat) (A0 : Option Addr) (c0 : Nat) (l : List S30) (m : Option Nat) (A1 : Option Addr) (c1 : Nat) (l1 : List Int) (vo : Value) (o : Int → Option Bool) (R : Int → Int) (w : World) (N : Int) (hN : N = n) (hn : n ≤ 7) (hn1 : 1 ≤ n)
  (hP0 : w.heap[g0]? = some (.cells #[.int .i64 N, .slice A0 l.length c0, .map m] 70 (0, 0))) (hr0 : Kd.C k30 w A0 l.length l) (hc0 : l.length ≤ c0) (hr1 : Kd.C (Kd.int .i64) w A1 l1.length l1) (hc1 : l1.length ≤ c1) (hF : IsFn Try.prog w vo o)
  (hR : ∀ d : Int, 0 ≤ d → d < n → branch_town_alone_2.f k d N l (fun i => branch_town_alone_1.f i l1 o) = some (R d)) :
  Calls Try.prog 68 #[.pointer (some ⟨g0, 0, none⟩), .slice A1 l1.length c1, vo] w fun e w' => e = .returned (.int .i64 (aloneB R n n)) ∧ Below w.heap.size w w' := by
 have HN := Aside0.mk hN
 clear hN
 have HR := Aside0.mk hR
 have HP0 := Aside0.mk hP0
 have HR0 := Aside0.mk hr0
 have HR1 := Aside0.mk hr1
 have HF := Aside0.mk hF
 clear hR hP0 hr0 hr1 hF
 obtain ⟨fo, caps, hvo⟩ : ∃ fo caps, vo = .func (.func fo) #[] caps := by obtain ⟨fo, caps, _, e, _⟩ := HF.out; exact ⟨fo, caps, e⟩
 subst hvo
 have hmf : ∀ (fn : Fn) (first cap : Array Value) (w : World), (Instr.makeFunc fn first cap).run Try.prog w = .ok (.func fn first cap) w := fun _ _ _ _ => rfl
 go_enter Try.func68, Try.ntmps68
 go_wp2_with (first
  | ((with_reducible refine gate_dst (N := 3) rfl ?_); refine box_event ?hg (N := 3) ?hd (cs := #[.pointer (some ⟨g0, 0, none⟩)]) (t := 65) ?hr ?_; (case hd => rfl); (case hg => rfl); (case hr => first | (go_simp; done) | (go_simp; rfl)); intro g3 hg3 w3 hbox3 hb3; have H3 := Aside0.mk hbox3; have B3 := Aside0.mk hb3; clear hg3 hbox3 hb3)
  | ((with_reducible refine gate_dst (N := 4) rfl ?_); refine box_event ?hg (N := 4) ?hd (cs := #[.slice A1 l1.length c1]) (t := 28) ?hr ?_; (case hd => rfl); (case hg => rfl); (case hr => first | (go_simp; done) | (go_simp; rfl)); intro g4 hg4 w4 hbox4 hb4; have H4 := Aside0.mk hbox4; have B4 := Aside0.mk hb4; clear hg4 hbox4 hb4)
  | ((with_reducible refine gate_dst (N := 5) rfl ?_); refine box_event ?hg (N := 5) ?hd (cs := #[.func (.func fo) #[] caps]) (t := 75) ?hr ?_; (case hd => rfl); (case hg => rfl); (case hr => first | (go_simp; done) | (go_simp; rfl)); intro g5 hg5 w5 hbox5 hb5; have H5 := Aside0.mk hbox5; have B5 := Aside0.mk hb5; clear hg5 hbox5 hb5))
 go_step3
 go_wp2_with (first | ((with_reducible refine gate_dst (N := 7) rfl ?_); refine box_event ?hg (N := 7) ?hd (cs := #[.nilFunc]) (t := 75) ?hr ?_; (case hd => rfl); (case hg => rfl); (case hr => first | (go_simp; done) | (go_simp; rfl)); intro g7 hg7 w7 hbox7 hb7; have H7 := Aside0.mk hbox7; have B7 := Aside0.mk hb7; have G7 := Aside0.mk (Nat.le_of_eq hg7.symm); clear hg7 hbox7 hb7; have hcz7 : w7.cell? ⟨g7, 0, none⟩ = some .nilFunc := (blk_cell H7.out 0).trans rfl; have hfz7 := blk_frozen H7.out 0))
 have e5 : Below w.heap.size w w5 := below_step (below_step (below_step (Below.refl _ _) B3.out) B4.out) B5.out
 have e7 : Below w.heap.size w w7 := below_step e5 B7.out
 have G0 : w.heap.size ≤ g7 := Nat.le_trans e5.size G7.out
 have ENV : Aside0 (AlEnv w (w7.setCell ⟨g7, 0, none⟩ (.func (.func 79) #[] #[.pointer (some ⟨g4, 0, none⟩), .pointer (some ⟨g5, 0, none⟩)])) g0 g3 g7 N A0 c0 l m (.func (.func 79) #[] #[.pointer (some ⟨g4, 0, none⟩), .pointer (some ⟨g5, 0, none⟩)]) (fun i => branch_town_alone_1.f i l1 o)) := by
  have s45 : w4.heap.size ≤ w5.heap.size := B5.out.size
  have s35 : w3.heap.size ≤ w5.heap.size := Nat.le_trans B4.out.size s45
  have n3 : g3 ≠ g7 := Nat.ne_of_lt (Nat.lt_of_lt_of_le (blk_lt H3.out) (Nat.le_trans s35 G7.out))
  have n4 : g4 ≠ g7 := Nat.ne_of_lt (Nat.lt_of_lt_of_le (blk_lt H4.out) (Nat.le_trans s45 G7.out))
  have n5 : g5 ≠ g7 := Nat.ne_of_lt (Nat.lt_of_lt_of_le (blk_lt H5.out) G7.out)
  have n0 : g0 ≠ g7 := Nat.ne_of_lt (Nat.lt_of_lt_of_le (blk_lt HP0.out) G0)
  refine ⟨⟨below_set e7 G0, blk_far (blk_below (blk_below (blk_below H3.out B4.out) B5.out) B7.out) n3 _, blk_far (blk_below HP0.out e7) n0 _, Kd.C_below HR0.out (below_set e7 G0), hc0, blk_put H7.out 0 _ rfl, ?_⟩⟩
  exact IsFn_alone1 (blk_far (blk_below (blk_below H4.out B5.out) B7.out) n4 _) (Kd.C_below HR1.out (below_set e7 G0)) hc1 (blk_far (blk_below H5.out B7.out) n5 _) (HF.out.below (below_set e7 G0))
 clear e5 G0 G7
 clear e7 hcz7 hfz7
 refine (ENV.out.call k 0 (R 0) (HR.out 0 (by omega) (by omega))).mono ?_
 rintro e w8 ⟨rfl, henv⟩
 clear ENV B3 B4 B5 B7 H3 H4 H5 H7
 have HE := Aside0.mk henv
 clear henv
 have hx3 := blk_cell HE.out.hP 0
 replace hx3 := hx3.trans rfl
 have hx0 := blk_cell HE.out.hQ 0
 replace hx0 := hx0.trans rfl
 go_wp2
 go_step3
 go_wp2
 clear hx3 hx0
 go_loopg [22] n (fun kq v22 w' => ∃ (x : Int), v22 = .int .i64 x ∧ Aside0 (0 ≤ x ∧ x + kq = n) ∧ Aside0 (aloneB R n kq = aloneB R n n) ∧ Aside0 (AlEnv w w' g0 g3 g7 N A0 c0 l m (.func (.func 79) #[] #[.pointer (some ⟨g4, 0, none⟩), .pointer (some ⟨g5, 0, none⟩)]) (fun i => branch_town_alone_1.f i l1 o)))
 case atStart => exact ⟨0, rfl, ⟨by simp⟩, ⟨rfl⟩, HE⟩
 case round =>
  clear HE
  obtain ⟨x, rfl, HX, HA, HE⟩ := hrel
  cases gk with
  | zero =>
   have b0 : decide (x < N) = false := decide_eq_false (by have := HX.out; have := HN.out; omega)
   go_wp2
   rw [Exit.noGoto_ret]
   go_ret
   exact ⟨by rw [← HA.out]; rfl, HE.out.hb⟩
  | succ k1 =>
   have b0 : decide (x < N) = true := decide_eq_true (by have := HX.out; have := HN.out; omega)
   have p0 : 0 ≤ x := by have := HX.out; omega
   have p0b : decide (0 ≤ x) = true := decide_eq_true p0
   have p1 : x ≤ 6 := by have := HX.out; omega
   obtain ⟨jA, hjA⟩ : ∃ j_ : Int, (shr .i64 (R 0) x) = j_ := ⟨_, rfl⟩
   have hjA_ : ((R 0) / 2 ^ min (x).toNat 64) = jA := hjA
   have hjAz : x ≤ 64 → ((R 0) / 2 ^ (x).toNat) = jA := shr_small hjA
   have hjAw : ((R 0) / 2 ^ (x).toNat) = jA := hjAz (by omega)
   by_cases tA : Go.bits .and .i64 jA 1 = 1
   ·have tA0 : ((Go.bits .and .i64 jA 1) == 1) = true := beq_iff_eq.mpr tA
    have tA1 : ((Go.bits .and .i64 jA 1) != 1) = false := bne_eq_false_iff_eq.mpr tA
    have HT := Aside0.mk tA
    clear tA
    go_wp2
    go_roundg k1
    case measure => omega
    case rel => exact ⟨x + 1, by first | rfl | (simp; done) | go_num, ⟨by have := HX.out; omega⟩, ⟨by rw [← HA.out]; exact (aloneB_skip R n k1 x (by have := HX.out; omega) (by unfold isAloneB hasB; rw [hjA, HT.out]; rfl)).symm⟩, HE⟩
   ·have tA0 : ((Go.bits .and .i64 jA 1) == 1) = false := beq_eq_false_iff_ne.mpr tA
    have tA1 : ((Go.bits .and .i64 jA 1) != 1) = true := bne_iff_ne.mpr tA
    have HT := Aside0.mk tA
    clear tA
    have hx3 : _ = some (Value.pointer (some ⟨g0, 0, none⟩)) := blk_cell HE.out.hP 0
    have hx0 : _ = some (Value.int .i64 N) := blk_cell HE.out.hQ 0
    go_wp2
    clear hx3 hx0
    go_loopg [11, 34] n (fun kq v11 v34 w' => ∃ (y s : Int), v34 = .int .i64 y ∧ v11 = .int .i64 s ∧ Aside0 (0 ≤ y ∧ y + kq = n) ∧ Aside0 (s = gatherB R x y.toNat) ∧ Aside0 (AlEnv w w' g0 g3 g7 N A0 c0 l m (.func (.func 79) #[] #[.pointer (some ⟨g4, 0, none⟩), .pointer (some ⟨g5, 0, none⟩)]) (fun i => branch_town_alone_1.f i l1 o)))
    case atStart => exact ⟨0, 0, rfl, rfl, ⟨by simp⟩, ⟨rfl⟩, HE⟩
    case round =>
     clear HE
     obtain ⟨y, s, rfl, rfl, HY, HS, HE⟩ := hrel
     cases gk with
     | zero =>
      have c0b : decide (y < N) = false := decide_eq_false (by have := HY.out; have := HN.out; omega)
      have hx3 : _ = some (Value.pointer (some ⟨g0, 0, none⟩)) := blk_cell HE.out.hP 0
      have hx0 : _ = some (Value.int .i64 N) := blk_cell HE.out.hQ 0
      go_wp2
      clear hx3 hx0
      have HG : Aside0 (s = gatherB R x n) := ⟨by rw [HS.out]; congr 1; have := HY.out; omega⟩
      clear HS HY c0b
      go_loopg [53] n (fun kq v53 w' => ∃ (z : Int), v53 = .int .i64 z ∧ Aside0 (0 ≤ z ∧ z + kq = n) ∧ Aside0 (closedB R x s z.toNat = true) ∧ Aside0 (AlEnv w w' g0 g3 g7 N A0 c0 l m (.func (.func 79) #[] #[.pointer (some ⟨g4, 0, none⟩), .pointer (some ⟨g5, 0, none⟩)]) (fun i => branch_town_alone_1.f i l1 o)))
      case atStart => exact ⟨0, rfl, ⟨by simp⟩, ⟨rfl⟩, HE⟩
      case round =>
       clear HE
       obtain ⟨z, rfl, HZ, HC, HE⟩ := hrel
       cases gk with
       | zero =>
        have d0b : decide (z < N) = false := decide_eq_false (by have := HZ.out; have := HN.out; omega)
        go_wp2
        rw [Exit.noGoto_ret]
        go_ret
        have hz_ : z.toNat = n := by have := HZ.out; omega
        have hc_ := HC.out
        rw [hz_, HG.out] at hc_
        have hi_ : isAloneB R n x = true := by unfold isAloneB; rw [hc_]; simp [hasB, hjA, HT.out]
        exact ⟨by rw [← HA.out, aloneB_hit R n k1 x (by have := HX.out; omega) hi_, ← HG.out]; rfl, HE.out.hb⟩
       | succ k3 =>
        have d0b : decide (z < N) = true := decide_eq_true (by have := HZ.out; have := HN.out; omega)
        have q0 : 0 ≤ z := by have := HZ.out; omega
        have q0b : decide (0 ≤ z) = true := decide_eq_true q0
        have q1 : z ≤ 6 := by have := HZ.out; omega
        obtain ⟨jS, hjS⟩ : ∃ j_ : Int, (shr .i64 s z) = j_ := ⟨_, rfl⟩
        have hjS_ : (s / 2 ^ min (z).toNat 64) = jS := hjS
        have hjSz : z ≤ 64 → (s / 2 ^ (z).toNat) = jS := shr_small hjS
        have hjSw : (s / 2 ^ (z).toNat) = jS := hjSz (by omega)
        by_cases tS : Go.bits .and .i64 jS 1 = 1
        ·have tS0 : ((Go.bits .and .i64 jS 1) == 1) = true := beq_iff_eq.mpr tS
         have tS1 : ((Go.bits .and .i64 jS 1) != 1) = false := bne_eq_false_iff_eq.mpr tS
         have HTS := Aside0.mk tS
         clear tS
         go_wp2_with fail
         refine (HE.out.call k x (R x) (HR.out x (by omega) (by have := HX.out; omega))).mono ?_
         rintro e w9 ⟨rfl, henv⟩
         clear HE
         have HE := Aside0.mk henv
         clear henv
         obtain ⟨jT, hjT⟩ : ∃ j_ : Int, (shr .i64 (R x) z) = j_ := ⟨_, rfl⟩
         have hjT_ : ((R x) / 2 ^ min (z).toNat 64) = jT := hjT
         have hjTz : z ≤ 64 → ((R x) / 2 ^ (z).toNat) = jT := shr_small hjT
         have hjTw : ((R x) / 2 ^ (z).toNat) = jT := hjTz (by omega)
         by_cases tT : Go.bits .and .i64 jT 1 = 0
         ·have tT0 : ((Go.bits .and .i64 jT 1) == 0) = true := beq_iff_eq.mpr tT
          have tT1 : ((Go.bits .and .i64 jT 1) != 0) = false := bne_eq_false_iff_eq.mpr tT
          have HTT := Aside0.mk tT
          clear tT
          go_wp2
          go_roundg k1
          case measure => omega
          case rel => exact ⟨x + 1, by first | rfl | (simp; done) | go_num, ⟨by have := HX.out; omega⟩, ⟨by rw [← HA.out]; exact (aloneB_skip R n k1 x (by have := HX.out; omega) (by unfold isAloneB; rw [← HG.out, closedB_false R x s n z q0 (by have := HZ.out; omega) (by simp [hasB, hjS, HTS.out]) (by rw [hjT, HTT.out]; rfl)]; simp)).symm⟩, HE⟩
         ·have tT0 : ((Go.bits .and .i64 jT 1) == 0) = false := beq_eq_false_iff_ne.mpr tT
          have tT1 : ((Go.bits .and .i64 jT 1) != 0) = true := bne_iff_ne.mpr tT
          have HTT := Aside0.mk tT
          clear tT
          go_wp2
          go_roundg k3
          case measure => omega
          case rel => exact ⟨z + 1, by first | rfl | (simp; done) | go_num, ⟨by have := HZ.out; omega⟩, ⟨by rw [closedB_succ R x s z q0, HC.out, hjT, tT0]; simp⟩, HE⟩
        ·have tS0 : ((Go.bits .and .i64 jS 1) == 1) = false := beq_eq_false_iff_ne.mpr tS
         have tS1 : ((Go.bits .and .i64 jS 1) != 1) = true := bne_iff_ne.mpr tS
         have HTS := Aside0.mk tS
         clear tS
         go_wp2
         go_roundg k3
         case measure => omega
         case rel => exact ⟨z + 1, by first | rfl | (simp; done) | go_num, ⟨by have := HZ.out; omega⟩, ⟨by rw [closedB_succ R x s z q0, HC.out]; simp [hasB, hjS, HTS.out]⟩, HE⟩
     | succ k2 =>
      have c0b : decide (y < N) = true := decide_eq_true (by have := HY.out; have := HN.out; omega)
      have q0 : 0 ≤ y := by have := HY.out; omega
      have q0b : decide (0 ≤ y) = true := decide_eq_true q0
      have q1 : y ≤ 6 := by have := HY.out; omega
      go_wp2_with fail
      refine (HE.out.call k y (R y) (HR.out y (by omega) (by have := HY.out; omega))).mono ?_
      rintro e w9 ⟨rfl, henv⟩
      clear HE
      have HE := Aside0.mk henv
      clear henv
      obtain ⟨jR, hjR⟩ : ∃ j_ : Int, (shr .i64 (R y) x) = j_ := ⟨_, rfl⟩
      have hjR_ : ((R y) / 2 ^ min (x).toNat 64) = jR := hjR
      have hjRz : x ≤ 64 → ((R y) / 2 ^ (x).toNat) = jR := shr_small hjR
      have hjRw : ((R y) / 2 ^ (x).toNat) = jR := hjRz (by omega)
      by_cases tR : Go.bits .and .i64 jR 1 = 1
      ·have tR0 : ((Go.bits .and .i64 jR 1) == 1) = true := beq_iff_eq.mpr tR
       have tR1 : ((Go.bits .and .i64 jR 1) != 1) = false := bne_eq_false_iff_eq.mpr tR
       have HTR := Aside0.mk tR
       clear tR
       obtain ⟨jL, hjL⟩ : ∃ j_ : Int, (shl .i64 1 y) = j_ := ⟨_, rfl⟩
       have hjL_ : (IntKind.i64.wrap (1 * 2 ^ min (y).toNat 64)) = jL := hjL
       have hjLz : y ≤ 64 → (IntKind.i64.wrap (1 * 2 ^ (y).toNat)) = jL := shl_small hjL
       have hjLu : (IntKind.i64.wrap (2 ^ min (y).toNat 64)) = jL := by have h_ := hjL_; rw [Int.one_mul] at h_; exact h_
       have hjLv : y ≤ 64 → (IntKind.i64.wrap (2 ^ (y).toNat)) = jL := fun hle_ => by have h_ := hjLz hle_; rw [Int.one_mul] at h_; exact h_
       have hjLy : (wrap64 (1 * 2 ^ min (y).toNat 64)) = jL := (i64_w _).symm.trans hjL_
       have hjLw1 : (IntKind.i64.wrap (1 * 2 ^ (y).toNat)) = jL := hjLz (by omega)
       have hjLw2 : (IntKind.i64.wrap (2 ^ (y).toNat)) = jL := hjLv (by omega)
       have hjLw3 : (wrap64 (1 * 2 ^ (y).toNat)) = jL := (i64_w _).symm.trans (hjLz (by omega))
       have hjLw4 : (wrap64 (2 ^ (y).toNat)) = jL := (i64_w _).symm.trans (hjLv (by omega))
       have hjLx : y ≤ 64 → (wrap64 (1 * 2 ^ (y).toNat)) = jL := fun h_ => (i64_w _).symm.trans (hjLz h_)
       go_wp2
       go_roundg k2
       case measure => omega
       case rel => exact ⟨y + 1, _, by first | rfl | (simp; done) | go_num, rfl, ⟨by have := HY.out; omega⟩, ⟨by rw [gatherB_succ R x y q0, ← HS.out]; simp [hasB, hjR, HTR.out, hjL]⟩, HE⟩
      ·have tR0 : ((Go.bits .and .i64 jR 1) == 1) = false := beq_eq_false_iff_ne.mpr tR
       have tR1 : ((Go.bits .and .i64 jR 1) != 1) = true := bne_iff_ne.mpr tR
       have HTR := Aside0.mk tR
       clear tR
       go_wp2
       go_roundg k2
       case measure => omega
       case rel => exact ⟨y + 1, s, by first | rfl | (simp; done) | go_num, rfl, ⟨by have := HY.out; omega⟩, ⟨by rw [gatherB_succ R x y q0, ← HS.out]; simp [hasB, hjR, HTR.out]⟩, HE⟩
theorem gatherB_congr {R S : Int → Int} {n : Nat} (h : ∀ d : Int, 0 ≤ d → d < n → R d = S d) (c : Int) : ∀ j, j ≤ n → gatherB R c j = gatherB S c j
  | 0, _ => rfl
  | j + 1, hj => by simp only [gatherB]; rw [gatherB_congr h c j (by omega), h j (by omega) (by omega)]
theorem closedB_congr {R S : Int → Int} {n : Nat} (h : ∀ d : Int, 0 ≤ d → d < n → R d = S d) (c s : Int) (h0 : 0 ≤ c) (h1 : c < n) : ∀ j, closedB R c s j = closedB S c s j
  | 0 => rfl
  | j + 1 => by simp only [closedB]; rw [closedB_congr h c s h0 h1 j, h c h0 h1]
theorem isAloneB_congr {R S : Int → Int} {n : Nat} (h : ∀ d : Int, 0 ≤ d → d < n → R d = S d) (c : Int) (h0 : 0 ≤ c) (h1 : c < n) : isAloneB R n c = isAloneB S n c := by
  unfold isAloneB; rw [gatherB_congr h c n (Nat.le_refl _), closedB_congr h c _ h0 h1, h 0 (by omega) (by omega)]
theorem aloneB_congr {R S : Int → Int} {n : Nat} (h : ∀ d : Int, 0 ≤ d → d < n → R d = S d) : ∀ j, j ≤ n → aloneB R n j = aloneB S n j
  | 0, _ => rfl
  | j + 1, hj => by simp only [aloneB]; rw [aloneB_congr h j (by omega), isAloneB_congr h _ (by omega) (by omega), gatherB_congr h _ n (Nat.le_refl _)]
def branch_town_alone.f (k : Nat) (a0_0 : Int) (l0_1 : List (S30)) (l1 : List Int) (a2 : Int → Option Bool) : Option Int :=
  if 1 ≤ a0_0 ∧ a0_0 ≤ 7 ∧ (∀ d ∈ List.range a0_0.toNat, (branch_town_alone_2.f k (d : Int) a0_0 l0_1 (fun i => branch_town_alone_1.f i l1 a2)).isSome = true) then
    some (aloneB (fun d => (branch_town_alone_2.f k d a0_0 l0_1 (fun i => branch_town_alone_1.f i l1 a2)).getD 0) a0_0.toNat a0_0.toNat) else none
theorem branch_town_alone.mono : ∀ a0 a1 a3 a4 k, LeO (branch_town_alone.f k a0 a1 a3 a4) (branch_town_alone.f (k + 1) a0 a1 a3 a4) := by
  intro a0 a1 a3 a4 k r h
  unfold branch_town_alone.f at h ⊢
  split at h
  case isFalse => exact absurd h (by simp)
  rename_i hc
  obtain ⟨h1, h2, h3⟩ := hc
  have hs : ∀ d ∈ List.range a0.toNat, ∃ r, branch_town_alone_2.f k (d : Int) a0 a1 (fun i => branch_town_alone_1.f i a3 a4) = some r ∧ branch_town_alone_2.f (k + 1) (d : Int) a0 a1 (fun i => branch_town_alone_1.f i a3 a4) = some r := by
    intro d hd
    obtain ⟨r, hr⟩ := Option.isSome_iff_exists.1 (h3 d hd)
    exact ⟨r, hr, branch_town_alone_2.mono _ _ _ _ k r hr⟩
  rw [if_pos ⟨h1, h2, fun d hd => by obtain ⟨r, _, h⟩ := hs d hd; rw [h]; rfl⟩, ← h]
  refine congrArg some (aloneB_congr (fun d h0 h1 => ?_) _ (Nat.le_refl _)).symm
  obtain ⟨r, e1, e2⟩ := hs d.toNat (List.mem_range.2 (by omega))
  rw [Int.toNat_of_nonneg h0] at e1 e2
  simp only [e1, e2]
theorem branch_town_alone.calls (k : Nat) (g0 : Nat) (a0_0 : Int) (A0_1 : Option Addr) (c0_1 : Nat) (l0_1 : List (S30)) (a0_2 : Option Nat) (A1 : Option Addr) (c1 : Nat) (l1 : List Int) (vf2 : Value) (a2 : Int → Option Bool) (r : Int) (w : World) (hP0 : w.heap[g0]? = some (.cells #[.int .i64 a0_0, .slice A0_1 l0_1.length c0_1, .map a0_2] 70 (0, 0))) (hr0_1 : Kd.C k30 w A0_1 l0_1.length l0_1) (hc0_1 : l0_1.length ≤ c0_1) (hr1 : Kd.C (Kd.int .i64) w A1 l1.length l1) (hc1 : l1.length ≤ c1) (hF2 : IsFn Try.prog w vf2 a2) (h : branch_town_alone.f k a0_0 l0_1 l1 a2 = some r) :
    Calls Try.prog 68 #[.pointer (some ⟨g0, 0, none⟩), .slice A1 l1.length c1, vf2] w fun e w' => e = .returned (.int .i64 r) ∧ Below w.heap.size w w' := by
  unfold branch_town_alone.f at h
  split at h
  case isFalse => exact absurd h (by simp)
  rename_i hc
  obtain ⟨h1, h2, h3⟩ := hc
  obtain rfl := Option.some.inj h
  refine alone_calls k g0 a0_0.toNat A0_1 c0_1 l0_1 a0_2 A1 c1 l1 vf2 a2 _ w a0_0 (by omega) (by omega) (by omega) hP0 hr0_1 hc0_1 hr1 hc1 hF2 (fun d e0 e1 => ?_)
  obtain ⟨r, hr⟩ := Option.isSome_iff_exists.1 (h3 d.toNat (List.mem_range.2 (by omega)))
  rw [Int.toNat_of_nonneg e0] at hr
  rw [hr]; rfl
end Go.Proofs.Ytpmadffgdfholaa.B
namespace Go.Proofs.Ytpmadffgdfholaa.B
open Go.RowKit Go.Proofs.YtpmadffgdfholaaW.PrintWords Go.Proofs.YtpmadffgdfholaaW.PrintLast Go.Proofs.YtpmadffgdfholaaW.PrintMore
attribute [local go_sem] max2_int min2_int max_two min_two max_three min_three max_four min_four   -- for this text's walks alone
set_option linter.unusedVariables false
set_option linter.unusedSimpArgs false
mutual
def branch_town_cheapest.l0 : Nat → (Int → Option Bool) → List Int → Int → List (S41) → Int → List (S30) → Option (Int × (List (S41)) × Bool)
  | 0, _, _, _, _, _, _ => none
  | k + 1, x2, x9, x10, x11, x1000, x1001 => (branch_town_alone.f k x1000 x1001 x9 x2).bind fun t104 => (if t104 = 0 then (some (x10, x11, true)) else ((branch_town_entering.f k x1000 x1001 t104).bind fun t105 => (branch_town_cheapest.l1 k x2 x9 x10 x11 t104 (-1) t105 (t105.length : Int) 0 x1000 x1001)))
def branch_town_cheapest.l1 : Nat → (Int → Option Bool) → List Int → Int → List (S41) → Int → Int → List Int → Int → Int → Int → List (S30) → Option (Int × (List (S41)) × Bool)
  | 0, _, _, _, _, _, _, _, _, _, _, _ => none
  | k + 1, x2, x9, x10, x11, x12, x13, x30, x31, x32, x1000, x1001 => if x32 < x31 then (if 0 ≤ x32 then (if x32 < (x30.length : Int) then ((x2 (rd x30 x32)).bind fun t109 => (if t109 = true then (branch_town_cheapest.l1 k x2 x9 x10 x11 x12 x13 x30 x31 (wrap64 (x32 + 1)) x1000 x1001) else (if x13 < 0 then (if 0 ≤ (rd x30 x32) then (if (rd x30 x32) < (x9.length : Int) then (branch_town_cheapest.l1 k x2 x9 x10 x11 x12 (rd x9 (rd x30 x32)) x30 x31 (wrap64 (x32 + 1)) x1000 x1001) else (none)) else (none)) else (if 0 ≤ (rd x30 x32) then (if (rd x30 x32) < (x9.length : Int) then (if (rd x9 (rd x30 x32)) < x13 then (branch_town_cheapest.l1 k x2 x9 x10 x11 x12 (rd x9 (rd x30 x32)) x30 x31 (wrap64 (x32 + 1)) x1000 x1001) else (branch_town_cheapest.l1 k x2 x9 x10 x11 x12 x13 x30 x31 (wrap64 (x32 + 1)) x1000 x1001)) else (none)) else (none))))) else (none)) else (none)) else (if x13 < 0 then (some (0, ([] : List (S41)), false)) else ((branch_town_entering.f k x1000 x1001 x12).bind fun t113 => (branch_town_cheapest.l2 k x2 x9 x10 x11 x12 x13 t113 (t113.length : Int) 0 x1000 x1001)))
def branch_town_cheapest.l2 : Nat → (Int → Option Bool) → List Int → Int → List (S41) → Int → Int → List Int → Int → Int → Int → List (S30) → Option (Int × (List (S41)) × Bool)
  | 0, _, _, _, _, _, _, _, _, _, _, _ => none
  | k + 1, x2, x9, x10, x11, x12, x13, x61, x62, x63, x1000, x1001 => if x63 < x62 then (if 0 ≤ x63 then (if x63 < (x61.length : Int) then (if 0 ≤ (rd x61 x63) then (if (rd x61 x63) < (x9.length : Int) then (branch_town_cheapest.l2 k x2 (x9.set ((rd x61 x63) : Int).toNat (wrap64 ((rd x9 (rd x61 x63)) - x13))) x10 x11 x12 x13 x61 x62 (wrap64 (x63 + 1)) x1000 x1001) else (none)) else (none)) else (none)) else (none)) else (if x13 > 0 then (if x11.length < 8796093022208 then (branch_town_cheapest.l0 k x2 x9 (wrap64 (x10 + x13)) (x11 ++ [(⟨x12, x13⟩ : S41)]) x1000 x1001) else (none)) else (branch_town_cheapest.l0 k x2 x9 x10 x11 x1000 x1001))
end
def branch_town_cheapest.f (k : Nat) (a0_0 : Int) (l0_1 : List (S30)) (l1 : List Int) (a2 : (Int → Option Bool)) : Option (Int × (List (S41)) × Bool) := (slices_Clone.f l1).bind fun t101 => (branch_town_cheapest.l0 k a2 t101 0 ([] : List (S41)) a0_0 l0_1)
theorem branch_town_cheapest.mono_l : ∀ k, (∀ y0 y1 y2 y3 y4 y5, LeO (branch_town_cheapest.l0 k y0 y1 y2 y3 y4 y5) (branch_town_cheapest.l0 (k + 1) y0 y1 y2 y3 y4 y5)) ∧ (∀ y0 y1 y2 y3 y4 y5 y6 y7 y8 y9 y10, LeO (branch_town_cheapest.l1 k y0 y1 y2 y3 y4 y5 y6 y7 y8 y9 y10) (branch_town_cheapest.l1 (k + 1) y0 y1 y2 y3 y4 y5 y6 y7 y8 y9 y10)) ∧ (∀ y0 y1 y2 y3 y4 y5 y6 y7 y8 y9 y10, LeO (branch_town_cheapest.l2 k y0 y1 y2 y3 y4 y5 y6 y7 y8 y9 y10) (branch_town_cheapest.l2 (k + 1) y0 y1 y2 y3 y4 y5 y6 y7 y8 y9 y10))
  | 0 => ⟨fun _ _ _ _ _ _ r h => by simp [branch_town_cheapest.l0] at h, fun _ _ _ _ _ _ _ _ _ _ _ r h => by simp [branch_town_cheapest.l1] at h, fun _ _ _ _ _ _ _ _ _ _ _ r h => by simp [branch_town_cheapest.l2] at h⟩
  | k + 1 => by
    obtain ⟨ih0, ih1, ih2⟩ := branch_town_cheapest.mono_l k
    refine ⟨?_, ?_, ?_⟩
    · intro y0 y1 y2 y3 y4 y5
      unfold branch_town_cheapest.l0
      repeat' first
      | (with_reducible exact ih0 _ _ _ _ _ _)
      | (with_reducible exact ih1 _ _ _ _ _ _ _ _ _ _ _)
      | (with_reducible exact ih2 _ _ _ _ _ _ _ _ _ _ _)
      | (with_reducible exact branch_town_alone.mono _ _ _ _ _)
      | (with_reducible exact branch_town_entering.mono _ _ _ _)
      | (with_reducible exact LeO.refl _)
      | (with_reducible exact LeO.none _)
      | (with_reducible refine LeO.ite ?_ ?_)
      | (with_reducible refine LeO.bind ?_ (fun _ => ?_))
      | exact ih0 _ _ _ _ _ _
      | exact ih1 _ _ _ _ _ _ _ _ _ _ _
      | exact ih2 _ _ _ _ _ _ _ _ _ _ _
      | exact branch_town_alone.mono _ _ _ _ _
      | exact branch_town_entering.mono _ _ _ _
      | exact LeO.none _
      | refine LeO.ite ?_ ?_
      | refine LeO.bind ?_ (fun _ => ?_)
    · intro y0 y1 y2 y3 y4 y5 y6 y7 y8 y9 y10
      unfold branch_town_cheapest.l1
      repeat' first
      | (with_reducible exact ih0 _ _ _ _ _ _)
      | (with_reducible exact ih1 _ _ _ _ _ _ _ _ _ _ _)
      | (with_reducible exact ih2 _ _ _ _ _ _ _ _ _ _ _)
      | (with_reducible exact branch_town_alone.mono _ _ _ _ _)
      | (with_reducible exact branch_town_entering.mono _ _ _ _)
      | (with_reducible exact LeO.refl _)
      | (with_reducible exact LeO.none _)
      | (with_reducible refine LeO.ite ?_ ?_)
      | (with_reducible refine LeO.bind ?_ (fun _ => ?_))
      | exact ih0 _ _ _ _ _ _
      | exact ih1 _ _ _ _ _ _ _ _ _ _ _
      | exact ih2 _ _ _ _ _ _ _ _ _ _ _
      | exact branch_town_alone.mono _ _ _ _ _
      | exact branch_town_entering.mono _ _ _ _
      | exact LeO.none _
      | refine LeO.ite ?_ ?_
      | refine LeO.bind ?_ (fun _ => ?_)
    · intro y0 y1 y2 y3 y4 y5 y6 y7 y8 y9 y10
      unfold branch_town_cheapest.l2
      repeat' first
      | (with_reducible exact ih0 _ _ _ _ _ _)
      | (with_reducible exact ih1 _ _ _ _ _ _ _ _ _ _ _)
      | (with_reducible exact ih2 _ _ _ _ _ _ _ _ _ _ _)
      | (with_reducible exact branch_town_alone.mono _ _ _ _ _)
      | (with_reducible exact branch_town_entering.mono _ _ _ _)
      | (with_reducible exact LeO.refl _)
      | (with_reducible exact LeO.none _)
      | (with_reducible refine LeO.ite ?_ ?_)
      | (with_reducible refine LeO.bind ?_ (fun _ => ?_))
      | exact ih0 _ _ _ _ _ _
      | exact ih1 _ _ _ _ _ _ _ _ _ _ _
      | exact ih2 _ _ _ _ _ _ _ _ _ _ _
      | exact branch_town_alone.mono _ _ _ _ _
      | exact branch_town_entering.mono _ _ _ _
      | exact LeO.none _
      | refine LeO.ite ?_ ?_
      | refine LeO.bind ?_ (fun _ => ?_)
theorem branch_town_cheapest.mono : ∀ a0 a1 a2 a3 k, LeO (branch_town_cheapest.f k a0 a1 a2 a3) (branch_town_cheapest.f (k + 1) a0 a1 a2 a3) := by
  intro a0 a1 a2 a3 k
  obtain ⟨ih0, ih1, ih2⟩ := branch_town_cheapest.mono_l k
  unfold branch_town_cheapest.f
  repeat' first
      | (with_reducible exact ih0 _ _ _ _ _ _)
      | (with_reducible exact ih1 _ _ _ _ _ _ _ _ _ _ _)
      | (with_reducible exact ih2 _ _ _ _ _ _ _ _ _ _ _)
      | (with_reducible exact branch_town_alone.mono _ _ _ _ _)
      | (with_reducible exact branch_town_entering.mono _ _ _ _)
      | (with_reducible exact LeO.refl _)
      | (with_reducible exact LeO.none _)
      | (with_reducible refine LeO.ite ?_ ?_)
      | (with_reducible refine LeO.bind ?_ (fun _ => ?_))
      | exact ih0 _ _ _ _ _ _
      | exact ih1 _ _ _ _ _ _ _ _ _ _ _
      | exact ih2 _ _ _ _ _ _ _ _ _ _ _
      | exact branch_town_alone.mono _ _ _ _ _
      | exact branch_town_entering.mono _ _ _ _
      | exact LeO.none _
      | refine LeO.ite ?_ ?_
      | refine LeO.bind ?_ (fun _ => ?_)
set_option maxHeartbeats 8000000 in
set_option maxRecDepth 100000 in
theorem branch_town_cheapest.calls (k : Nat) (g0 : Nat) (a0_0 : Int) (A0_1 : Option Addr) (c0_1 : Nat) (l0_1 : List (S30)) (a0_2 : Option Nat) (A1 : Option Addr) (c1 : Nat) (l1 : List Int) (vf2 : Value) (a2 : (Int → Option Bool)) (r1 : Int) (r2 : List (S41)) (r3 : Bool) (w : World) (hP0 : w.heap[g0]? = some (.cells #[.int .i64 a0_0, .slice A0_1 l0_1.length c0_1, .map a0_2] 70 (0, 0))) (hr0_1 : Kd.C k30 w A0_1 l0_1.length l0_1) (hc0_1 : l0_1.length ≤ c0_1) (hr1 : Kd.C (Kd.int .i64) w A1 l1.length l1) (hc1 : l1.length ≤ c1) (hF2 : IsFn Try.prog w vf2 a2) (h : branch_town_cheapest.f k a0_0 l0_1 l1 a2 = some (r1, r2, r3)) :
  Calls Try.prog 46 #[.pointer (some ⟨g0, 0, none⟩), .slice A1 l1.length c1, vf2] w fun e w' => ∃ v1_ : Value, e = .returned (.tuple #[.int .i64 r1, v1_, .bool r3]) ∧ Kd.R k41 41 w' w.heap.size (fun _ => True) v1_ r2 ∧ Below w.heap.size w w' := by
 have hu41 := Try.underlying41
 have HP0 := Aside0.mk hP0
 clear hP0
 have HR0_1 := Aside0.mk hr0_1
 have HC0_1 := Aside0.mk hc0_1
 clear hr0_1 hc0_1
 have HR1 := Aside0.mk hr1
 have HC1 := Aside0.mk hc1
 clear hr1 hc1
 have HF2 := Aside0.mk hF2
 clear hF2
 have HB := Aside0.mk (Below.refl w.heap.size w)
 have H : ((slices_Clone.f l1).bind fun t101 => (branch_town_cheapest.l0 k a2 t101 0 ([] : List (S41)) a0_0 l0_1)) = some (r1, r2, r3) := h
 clear h
 replace H := Option.bind_eq_some_iff.mp H
 obtain ⟨t101, A40, H⟩ := H
 replace H : (branch_town_cheapest.l0 k a2 t101 0 ([] : List (S41)) a0_0 l0_1) = some (r1, r2, r3) := H
 have A4 := Aside0.mk A40
 clear A40
 have H' := Aside0.mk H
 clear H
 go_enter Try.func46, Try.ntmps46
 go_wp2_with (first | ((with_reducible refine gate_callee (f := 67) rfl ?_); refine goesL_ (some 19) rfl rfl Try.func67 (by kernel_rfl) rfl #[.slice A1 l1.length c1] rfl (by (try simp only [List.map_toArray, List.map_cons, List.map_nil]); first | done | rfl | (simp only [List.length_drop, List.length_take]; rfl)) ?_; (with_reducible refine (slices_Clone.calls _ _ l1 t101 _ ?side1 ?side2 A4.out).mono ?_); (case side1 => repeat (first | exact HR1.out | (with_reducible refine Kd.C_alloc ?_ _) | (with_reducible refine Kd.C_drewN ?_ _) | (with_reducible refine Kd.C_drew ?_))); (case side2 => exact HC1.out); rintro e w5 ⟨v102, rfl, ho0, hb⟩; refine ⟨_, rfl, ?_⟩; have n0_ := Aside0.mk (Kd.R_lower ho0 (below_size (by repeat (first | (with_reducible first | exact HB.out | apply below_alloc | apply pw_below_drewN | apply below_drew1) | exact HB.out)))); have n1_ := Aside0.mk (below_step (by repeat (first | (with_reducible first | exact HB.out | apply below_alloc | apply pw_below_drewN | apply below_drew1) | exact HB.out)) hb); clear HB; have HO103 := n0_; have HB := n1_; clear n0_ n1_; (try clear hb); (try clear hb2); (try clear hk); (try clear hi); (try clear ho0)))
 go_loopg [10, 11] k (fun kq v10 v11 w' => ∃ (x9_1 : List Int) (x10_1 : Int) (x11_1 : List (S41)), v10 = .int .i64 x10_1 ∧ Aside0 (branch_town_cheapest.l0 kq a2 x9_1 x10_1 x11_1 a0_0 l0_1 = some (r1, r2, r3)) ∧ Aside0 (kq ≤ k) ∧ Aside0 (Kd.R (Kd.int .i64) 3 w' w.heap.size (fun _ => True) v102 x9_1) ∧ Aside0 (Kd.R k41 41 w' w.heap.size (fun _ => True) v11 x11_1) ∧ Aside0 (Below w.heap.size w w'))
 case atStart => exact ⟨(t101), (0), (([] : List (S41))), (by first | rfl | (simp; done) | (simp [*]; done)), H', ⟨Nat.le_refl _⟩, ⟨by (with_reducible repeat (first | apply Kd.R_alloc | apply Kd.R_drewN | apply Kd.R_drew)); exact HO103.out⟩, ⟨by first | exact Kd.R_nil _ _ _ _ _ | exact Kd.N_nil _ _ _ _ _ | exact Kd.V_nil _ _ _ _ _ | exact Kd.Q_nil _ _ _ _ _ | exact Kd.S_nil _ _ _ _ _⟩, ⟨by repeat (first | (with_reducible first | exact HB.out | apply below_alloc | apply pw_below_drewN | apply below_drew1) | exact HB.out)⟩⟩
 case round =>
  clear H'
  try clear c1
  try clear p2
  try clear c4
  obtain ⟨x9_1, x10_1, x11_1, rfl, HA, HK1, HO_9, HO_11, HB⟩ := hrel
  cases gk with
  | zero => exact absurd HA.out (by simp [branch_town_cheapest.l0])
  | succ k1 =>
   have H := HA.out
   clear HA
   simp only [branch_town_cheapest.l0] at H
   replace H := Option.bind_eq_some_iff.mp H
   obtain ⟨t104, A60, H⟩ := H
   replace H : (if t104 = 0 then (some (x10_1, x11_1, true)) else ((branch_town_entering.f k1 a0_0 l0_1 t104).bind fun t105 => (branch_town_cheapest.l1 k1 a2 x9_1 x10_1 x11_1 t104 (-1) t105 (t105.length : Int) 0 a0_0 l0_1))) = some (r1, r2, r3) := H
   have A6 := Aside0.mk A60
   clear A60
   by_cases c7 : t104 = 0
   ·rw [if_pos c7] at H
    have c7b0 : (t104 == 0) = true := beq_iff_eq.mpr c7
    have c7b1 : (t104 != 0) = false := bne_eq_false_iff_eq.mpr c7
    clear c7
    simp only [Option.some.injEq, Prod.mk.injEq] at H
    obtain ⟨rfl, rfl, rfl⟩ := H
    obtain ⟨Ao8, co8, eo8⟩ := Kd.R_slice HO_9.out
    subst eo8
    go_wp2_with (first | ((with_reducible refine gate_callee (f := 68) rfl ?_); refine goesL_ (some 23) rfl rfl Try.func68 (by kernel_rfl) rfl #[.pointer (some ⟨g0, 0, none⟩), .slice Ao8 x9_1.length co8, vf2] rfl (by (try simp only [List.map_toArray, List.map_cons, List.map_nil]); first | done | rfl | (simp only [List.length_drop, List.length_take]; rfl)) ?_; (with_reducible refine (branch_town_alone.calls k1 g0 a0_0 A0_1 c0_1 l0_1 a0_2 _ _ x9_1 vf2 a2 t104 _ ?side1 ?side2 ?side3 ?side4 ?side5 ?side6 A6.out).mono ?_); (case side1 => exact ((show Below _ _ _ from by repeat (first | (with_reducible first | exact HB.out | apply below_alloc | apply pw_below_drewN | apply below_drew1) | exact HB.out)).block _ (blk_lt HP0.out)).trans HP0.out); (case side2 => repeat (first | exact (Kd.C_below HR0_1.out HB.out) | (with_reducible refine Kd.C_alloc ?_ _) | (with_reducible refine Kd.C_drewN ?_ _) | (with_reducible refine Kd.C_drew ?_))); (case side3 => exact HC0_1.out); (case side4 => repeat (first | exact (Kd.R_reads' HO_9.out).2.2 | (with_reducible refine Kd.C_alloc ?_ _) | (with_reducible refine Kd.C_drewN ?_ _) | (with_reducible refine Kd.C_drew ?_))); (case side5 => exact (Kd.R_reads' HO_9.out).2.1); (case side6 => exact IsFn.below HF2.out (by repeat (first | (with_reducible first | exact HB.out | apply below_alloc | apply pw_below_drewN | apply below_drew1) | exact HB.out))); rintro e w9 ⟨rfl, hb⟩; refine ⟨_, rfl, ?_⟩; have n0_ := Aside0.mk (Kd.R_below (by (with_reducible repeat (first | apply Kd.R_alloc | apply Kd.R_drewN | apply Kd.R_drew)); exact HO_9.out) hb); have n1_ := Aside0.mk (Kd.R_below (by (with_reducible repeat (first | apply Kd.R_alloc | apply Kd.R_drewN | apply Kd.R_drew)); exact HO_11.out) hb); have n2_ := Aside0.mk (below_step (by repeat (first | (with_reducible first | exact HB.out | apply below_alloc | apply pw_below_drewN | apply below_drew1) | exact HB.out)) hb); clear HO_9; clear HO_11; clear HB; have HO_9 := n0_; have HO_11 := n1_; have HB := n2_; clear n0_ n1_ n2_; (try clear hb); (try clear hb2); (try clear hk); (try clear hi)))
    go_ret3
    exact ⟨_, by first | rfl | (simp [errW_none, errW_some] <;> rfl) | (simp [*, errW_none, errW_some] <;> rfl), by (with_reducible repeat (first | apply Kd.R_alloc | apply Kd.R_drewN | apply Kd.R_drew)); exact HO_11.out, by repeat (first | (with_reducible first | exact HB.out | apply below_alloc | apply pw_below_drewN | apply below_drew1) | exact HB.out)⟩
   ·rw [if_neg c7] at H
    have c7b0 : (t104 == 0) = false := beq_eq_false_iff_ne.mpr c7
    have c7b1 : (t104 != 0) = true := bne_iff_ne.mpr c7
    replace H := Option.bind_eq_some_iff.mp H
    obtain ⟨t105, A100, H⟩ := H
    replace H : (branch_town_cheapest.l1 k1 a2 x9_1 x10_1 x11_1 t104 (-1) t105 (t105.length : Int) 0 a0_0 l0_1) = some (r1, r2, r3) := H
    have A10 := Aside0.mk A100
    clear A100
    have H' := Aside0.mk H
    clear H
    obtain ⟨Ao11, co11, eo11⟩ := Kd.R_slice HO_9.out
    subst eo11
    go_wp2_with (first | ((with_reducible refine gate_callee (f := 68) rfl ?_); refine goesL_ (some 23) rfl rfl Try.func68 (by kernel_rfl) rfl #[.pointer (some ⟨g0, 0, none⟩), .slice Ao11 x9_1.length co11, vf2] rfl (by (try simp only [List.map_toArray, List.map_cons, List.map_nil]); first | done | rfl | (simp only [List.length_drop, List.length_take]; rfl)) ?_; (with_reducible refine (branch_town_alone.calls k1 g0 a0_0 A0_1 c0_1 l0_1 a0_2 _ _ x9_1 vf2 a2 t104 _ ?side1 ?side2 ?side3 ?side4 ?side5 ?side6 A6.out).mono ?_); (case side1 => exact ((show Below _ _ _ from by repeat (first | (with_reducible first | exact HB.out | apply below_alloc | apply pw_below_drewN | apply below_drew1) | exact HB.out)).block _ (blk_lt HP0.out)).trans HP0.out); (case side2 => repeat (first | exact (Kd.C_below HR0_1.out HB.out) | (with_reducible refine Kd.C_alloc ?_ _) | (with_reducible refine Kd.C_drewN ?_ _) | (with_reducible refine Kd.C_drew ?_))); (case side3 => exact HC0_1.out); (case side4 => repeat (first | exact (Kd.R_reads' HO_9.out).2.2 | (with_reducible refine Kd.C_alloc ?_ _) | (with_reducible refine Kd.C_drewN ?_ _) | (with_reducible refine Kd.C_drew ?_))); (case side5 => exact (Kd.R_reads' HO_9.out).2.1); (case side6 => exact IsFn.below HF2.out (by repeat (first | (with_reducible first | exact HB.out | apply below_alloc | apply pw_below_drewN | apply below_drew1) | exact HB.out))); rintro e w12 ⟨rfl, hb⟩; refine ⟨_, rfl, ?_⟩; have n0_ := Aside0.mk (Kd.R_below (by (with_reducible repeat (first | apply Kd.R_alloc | apply Kd.R_drewN | apply Kd.R_drew)); exact HO_9.out) hb); have n1_ := Aside0.mk (Kd.R_below (by (with_reducible repeat (first | apply Kd.R_alloc | apply Kd.R_drewN | apply Kd.R_drew)); exact HO_11.out) hb); have n2_ := Aside0.mk (below_step (by repeat (first | (with_reducible first | exact HB.out | apply below_alloc | apply pw_below_drewN | apply below_drew1) | exact HB.out)) hb); clear HO_9; clear HO_11; clear HB; have HO_9 := n0_; have HO_11 := n1_; have HB := n2_; clear n0_ n1_ n2_; (try clear hb); (try clear hb2); (try clear hk); (try clear hi)) | ((with_reducible refine gate_callee (f := 59) rfl ?_); refine goesL_ (some 30) rfl rfl Try.func59 (by kernel_rfl) rfl #[.pointer (some ⟨g0, 0, none⟩), .int .i64 t104] rfl (by (try simp only [List.map_toArray, List.map_cons, List.map_nil]); first | done | rfl | (simp only [List.length_drop, List.length_take]; rfl)) ?_; (with_reducible refine (branch_town_entering.calls k1 g0 a0_0 A0_1 c0_1 l0_1 a0_2 t104 t105 _ ?side1 ?side2 ?side3 A10.out).mono ?_); (case side1 => exact ((show Below _ _ _ from by repeat (first | (with_reducible first | exact HB.out | apply below_alloc | apply pw_below_drewN | apply below_drew1) | exact HB.out)).block _ (blk_lt HP0.out)).trans HP0.out); (case side2 => repeat (first | exact (Kd.C_below HR0_1.out HB.out) | (with_reducible refine Kd.C_alloc ?_ _) | (with_reducible refine Kd.C_drewN ?_ _) | (with_reducible refine Kd.C_drew ?_))); (case side3 => exact HC0_1.out); rintro e w13 ⟨v106, rfl, ho0, hb⟩; refine ⟨_, rfl, ?_⟩; have n0_ := Aside0.mk (Kd.R_elder' (by (with_reducible repeat (first | apply Kd.R_alloc | apply Kd.R_drewN | apply Kd.R_drew)); exact HO_9.out) (Kd.R_base ho0) hb); have n1_ := Aside0.mk (Kd.R_below (by (with_reducible repeat (first | apply Kd.R_alloc | apply Kd.R_drewN | apply Kd.R_drew)); exact HO_11.out) hb); have n2_ := Aside0.mk (Kd.R_lower (Kd.R_new' ho0 (Kd.R_lt (by (with_reducible repeat (first | apply Kd.R_alloc | apply Kd.R_drewN | apply Kd.R_drew)); exact HO_9.out))) (below_size (by repeat (first | (with_reducible first | exact HB.out | apply below_alloc | apply pw_below_drewN | apply below_drew1) | exact HB.out)))); have n3_ := Aside0.mk (below_step (by repeat (first | (with_reducible first | exact HB.out | apply below_alloc | apply pw_below_drewN | apply below_drew1) | exact HB.out)) hb); clear HO_9; clear HO_11; clear HB; have HO_9 := n0_; have HO_11 := n1_; have HO107 := n2_; have HB := n3_; clear n0_ n1_ n2_ n3_; (try clear hb); (try clear hb2); (try clear hk); (try clear hi); (try clear ho0); obtain ⟨Ao14, co14, eo14⟩ := Kd.R_slice HO107.out; subst eo14))
    go_loopg [13, 32] k1 (fun kq v13 v32 w' => ∃ (x13_2 : Int) (x32_2 : Int), v13 = .int .i64 x13_2 ∧ v32 = .int .i64 x32_2 ∧ Aside0 (branch_town_cheapest.l1 kq a2 x9_1 x10_1 x11_1 t104 x13_2 t105 (t105.length : Int) x32_2 a0_0 l0_1 = some (r1, r2, r3)) ∧ Aside0 (kq ≤ k1) ∧ Aside0 (Kd.R (Kd.int .i64) 3 w' w.heap.size (fun k_ => some k_ ≠ ((.slice Ao14 t105.length co14) : Value).ownBlock) (.slice Ao11 x9_1.length co11) x9_1) ∧ Aside0 (Kd.R k41 41 w' w.heap.size (fun _ => True) u11 x11_1) ∧ Aside0 (Kd.R (Kd.int .i64) 3 w' w.heap.size (fun k_ => some k_ ≠ ((.slice Ao11 x9_1.length co11) : Value).ownBlock) (.slice Ao14 t105.length co14) t105) ∧ Aside0 (Below w.heap.size w w'))
    case atStart => exact ⟨((-1)), (0), (by first | rfl | (simp; done) | (simp [*]; done)), (by first | rfl | (simp; done) | (simp [*]; done)), H', ⟨Nat.le_refl _⟩, ⟨by (with_reducible repeat (first | apply Kd.R_alloc | apply Kd.R_drewN | apply Kd.R_drew)); exact Kd.R_mono HO_9.out (fun _ hk => hk.2)⟩, ⟨by (with_reducible repeat (first | apply Kd.R_alloc | apply Kd.R_drewN | apply Kd.R_drew)); exact HO_11.out⟩, ⟨by (with_reducible repeat (first | apply Kd.R_alloc | apply Kd.R_drewN | apply Kd.R_drew)); exact Kd.R_mono HO107.out (fun _ hk => hk.2)⟩, ⟨by repeat (first | (with_reducible first | exact HB.out | apply below_alloc | apply pw_below_drewN | apply below_drew1) | exact HB.out)⟩⟩
    case round =>
     clear H'
     try clear c1
     try clear p2
     try clear c4
     try clear c5
     try clear c6
     try clear c7
     try clear c7b0
     try clear c7b1
     try clear p2
     obtain ⟨x13_2, x32_2, rfl, rfl, HA, HK2, HO_9, HO_11, HO_30, HB⟩ := hrel
     cases gk with
     | zero => exact absurd HA.out (by simp [branch_town_cheapest.l1])
     | succ k2 =>
      have H := HA.out
      clear HA
      simp only [branch_town_cheapest.l1] at H
      by_cases c15 : x32_2 < (t105.length : Int)
      ·rw [if_pos c15] at H
       have c15b0 : decide (x32_2 < (t105.length : Int)) = true := decide_eq_true c15
       clear c15
       by_cases c16 : 0 ≤ x32_2
       ·rw [if_pos c16] at H
        have c16b0 : decide (0 ≤ x32_2) = true := decide_eq_true c16
        clear c16
        by_cases c17 : x32_2 < (t105.length : Int)
        ·rw [if_pos c17] at H
         have c17b0 : decide (x32_2 < (t105.length : Int)) = true := decide_eq_true c17
         clear c17
         replace H := Option.bind_eq_some_iff.mp H
         obtain ⟨t109, A180, H⟩ := H
         replace H : (if t109 = true then (branch_town_cheapest.l1 k2 a2 x9_1 x10_1 x11_1 t104 x13_2 t105 (t105.length : Int) (wrap64 (x32_2 + 1)) a0_0 l0_1) else (if x13_2 < 0 then (if 0 ≤ (rd t105 x32_2) then (if (rd t105 x32_2) < (x9_1.length : Int) then (branch_town_cheapest.l1 k2 a2 x9_1 x10_1 x11_1 t104 (rd x9_1 (rd t105 x32_2)) t105 (t105.length : Int) (wrap64 (x32_2 + 1)) a0_0 l0_1) else (none)) else (none)) else (if 0 ≤ (rd t105 x32_2) then (if (rd t105 x32_2) < (x9_1.length : Int) then (if (rd x9_1 (rd t105 x32_2)) < x13_2 then (branch_town_cheapest.l1 k2 a2 x9_1 x10_1 x11_1 t104 (rd x9_1 (rd t105 x32_2)) t105 (t105.length : Int) (wrap64 (x32_2 + 1)) a0_0 l0_1) else (branch_town_cheapest.l1 k2 a2 x9_1 x10_1 x11_1 t104 x13_2 t105 (t105.length : Int) (wrap64 (x32_2 + 1)) a0_0 l0_1)) else (none)) else (none)))) = some (r1, r2, r3) := H
         have A18 := Aside0.mk A180
         clear A180
         by_cases c19 : t109 = true
         ·subst c19
          have H1 : (branch_town_cheapest.l1 k2 a2 x9_1 x10_1 x11_1 t104 x13_2 t105 (t105.length : Int) (wrap64 (x32_2 + 1)) a0_0 l0_1) = some (r1, r2, r3) := by rw [if_pos rfl] at H; exact H
          clear H
          have H := H1
          clear H1
          have H' := Aside0.mk H
          clear H
          have p108 : 0 ≤ (x32_2 : Int) := of_decide_eq_true (by first | (with_reducible assumption) | assumption)
          have q108 : x32_2 < (t105.length : Int) := of_decide_eq_true (by first | (with_reducible assumption) | assumption)
          obtain ⟨ad108, e108, hx108_0⟩ := Kd.at_int (Kd.R_reads' HO_30.out).2.2 x32_2 p108 q108
          cases e108
          replace p108 := eq_true p108
          replace q108 := eq_true q108
          go_wp2_with (first | ((with_reducible refine gate_dst (N := 38) rfl ?_); refine goesF_ (some 38) rfl rfl HF2.out rfl rfl (i := (rd t105 x32_2)) rfl ?sideB A18.out ?_; (case sideB => exact by repeat (first | (with_reducible first | exact HB.out | apply below_alloc | apply pw_below_drewN | apply below_drew1) | exact HB.out)); intro w20 hb; have n0_ := Aside0.mk (Kd.R_below (by (with_reducible repeat (first | apply Kd.R_alloc | apply Kd.R_drewN | apply Kd.R_drew)); exact HO_9.out) hb); have n1_ := Aside0.mk (Kd.R_below (by (with_reducible repeat (first | apply Kd.R_alloc | apply Kd.R_drewN | apply Kd.R_drew)); exact HO_11.out) hb); have n2_ := Aside0.mk (Kd.R_below (by (with_reducible repeat (first | apply Kd.R_alloc | apply Kd.R_drewN | apply Kd.R_drew)); exact HO_30.out) hb); have n3_ := Aside0.mk (below_step (by repeat (first | (with_reducible first | exact HB.out | apply below_alloc | apply pw_below_drewN | apply below_drew1) | exact HB.out)) hb); clear HO_9; clear HO_11; clear HO_30; clear HB; have HO_9 := n0_; have HO_11 := n1_; have HO_30 := n2_; have HB := n3_; clear n0_ n1_ n2_ n3_; (try clear hb); (try clear hb2); (try clear hk); (try clear hi)))
          go_roundg k2
          case measure => have := HK1.out; have := HK2.out; omega
          case rel => exact ⟨(x13_2), (wrap64 (x32_2 + 1)), (by first | rfl | (simp; done) | (simp [*]; done)), (by first | rfl | (simp; done) | (simp [*]; done)), H', ⟨by have := HK1.out; have := HK2.out; omega⟩, ⟨by (with_reducible repeat (first | apply Kd.R_alloc | apply Kd.R_drewN | apply Kd.R_drew)); exact HO_9.out⟩, ⟨by (with_reducible repeat (first | apply Kd.R_alloc | apply Kd.R_drewN | apply Kd.R_drew)); exact HO_11.out⟩, ⟨by (with_reducible repeat (first | apply Kd.R_alloc | apply Kd.R_drewN | apply Kd.R_drew)); exact HO_30.out⟩, ⟨by repeat (first | (with_reducible first | exact HB.out | apply below_alloc | apply pw_below_drewN | apply below_drew1) | exact HB.out)⟩⟩
         ·replace c19 := Bool.eq_false_iff.mpr c19
          subst c19
          have H1 : (if x13_2 < 0 then (if 0 ≤ (rd t105 x32_2) then (if (rd t105 x32_2) < (x9_1.length : Int) then (branch_town_cheapest.l1 k2 a2 x9_1 x10_1 x11_1 t104 (rd x9_1 (rd t105 x32_2)) t105 (t105.length : Int) (wrap64 (x32_2 + 1)) a0_0 l0_1) else (none)) else (none)) else (if 0 ≤ (rd t105 x32_2) then (if (rd t105 x32_2) < (x9_1.length : Int) then (if (rd x9_1 (rd t105 x32_2)) < x13_2 then (branch_town_cheapest.l1 k2 a2 x9_1 x10_1 x11_1 t104 (rd x9_1 (rd t105 x32_2)) t105 (t105.length : Int) (wrap64 (x32_2 + 1)) a0_0 l0_1) else (branch_town_cheapest.l1 k2 a2 x9_1 x10_1 x11_1 t104 x13_2 t105 (t105.length : Int) (wrap64 (x32_2 + 1)) a0_0 l0_1)) else (none)) else (none))) = some (r1, r2, r3) := by rw [if_neg (show ¬ (false = true) by decide)] at H; exact H
          clear H
          have H := H1
          clear H1
          by_cases c21 : x13_2 < 0
          ·rw [if_pos c21] at H
           have c21b0 : decide (x13_2 < 0) = true := decide_eq_true c21
           clear c21
           by_cases c22 : 0 ≤ (rd t105 x32_2)
           ·rw [if_pos c22] at H
            have c22b0 : decide (0 ≤ (rd t105 x32_2)) = true := decide_eq_true c22
            clear c22
            by_cases c23 : (rd t105 x32_2) < (x9_1.length : Int)
            ·rw [if_pos c23] at H
             have c23b0 : decide ((rd t105 x32_2) < (x9_1.length : Int)) = true := decide_eq_true c23
             clear c23
             have H' := Aside0.mk H
             clear H
             have p108 : 0 ≤ (x32_2 : Int) := of_decide_eq_true (by first | (with_reducible assumption) | assumption)
             have q108 : x32_2 < (t105.length : Int) := of_decide_eq_true (by first | (with_reducible assumption) | assumption)
             obtain ⟨ad108, e108, hx108_0⟩ := Kd.at_int (Kd.R_reads' HO_30.out).2.2 x32_2 p108 q108
             cases e108
             replace p108 := eq_true p108
             replace q108 := eq_true q108
             go_wp2_with (first | ((with_reducible refine gate_dst (N := 38) rfl ?_); refine goesF_ (some 38) rfl rfl HF2.out rfl rfl (i := (rd t105 x32_2)) rfl ?sideB A18.out ?_; (case sideB => exact by repeat (first | (with_reducible first | exact HB.out | apply below_alloc | apply pw_below_drewN | apply below_drew1) | exact HB.out)); intro w24 hb; have n0_ := Aside0.mk (Kd.R_below (by (with_reducible repeat (first | apply Kd.R_alloc | apply Kd.R_drewN | apply Kd.R_drew)); exact HO_9.out) hb); have n1_ := Aside0.mk (Kd.R_below (by (with_reducible repeat (first | apply Kd.R_alloc | apply Kd.R_drewN | apply Kd.R_drew)); exact HO_11.out) hb); have n2_ := Aside0.mk (Kd.R_below (by (with_reducible repeat (first | apply Kd.R_alloc | apply Kd.R_drewN | apply Kd.R_drew)); exact HO_30.out) hb); have n3_ := Aside0.mk (below_step (by repeat (first | (with_reducible first | exact HB.out | apply below_alloc | apply pw_below_drewN | apply below_drew1) | exact HB.out)) hb); clear HO_9; clear HO_11; clear HO_30; clear HB; have HO_9 := n0_; have HO_11 := n1_; have HO_30 := n2_; have HB := n3_; clear n0_ n1_ n2_ n3_; (try clear hb); (try clear hb2); (try clear hk); (try clear hi); have p110 : 0 ≤ ((rd t105 x32_2) : Int) := of_decide_eq_true (by first | (with_reducible assumption) | assumption); have q110 : (rd t105 x32_2) < (x9_1.length : Int) := of_decide_eq_true (by first | (with_reducible assumption) | assumption); obtain ⟨ad110, e110, hx110_0⟩ := Kd.at_int (Kd.R_reads' HO_9.out).2.2 (rd t105 x32_2) p110 q110; cases e110; replace p110 := eq_true p110; replace q110 := eq_true q110))
             go_roundg k2
             case measure => have := HK1.out; have := HK2.out; omega
             case rel => exact ⟨(rd x9_1 (rd t105 x32_2)), (wrap64 (x32_2 + 1)), (by first | rfl | (simp; done) | (simp [*]; done)), (by first | rfl | (simp; done) | (simp [*]; done)), H', ⟨by have := HK1.out; have := HK2.out; omega⟩, ⟨by (with_reducible repeat (first | apply Kd.R_alloc | apply Kd.R_drewN | apply Kd.R_drew)); exact HO_9.out⟩, ⟨by (with_reducible repeat (first | apply Kd.R_alloc | apply Kd.R_drewN | apply Kd.R_drew)); exact HO_11.out⟩, ⟨by (with_reducible repeat (first | apply Kd.R_alloc | apply Kd.R_drewN | apply Kd.R_drew)); exact HO_30.out⟩, ⟨by repeat (first | (with_reducible first | exact HB.out | apply below_alloc | apply pw_below_drewN | apply below_drew1) | exact HB.out)⟩⟩
            ·rw [if_neg c23] at H
             exact absurd H (by simp)
           ·rw [if_neg c22] at H
            exact absurd H (by simp)
          ·rw [if_neg c21] at H
           have c21b0 : decide (x13_2 < 0) = false := decide_eq_false c21
           clear c21
           by_cases c25 : 0 ≤ (rd t105 x32_2)
           ·rw [if_pos c25] at H
            have c25b0 : decide (0 ≤ (rd t105 x32_2)) = true := decide_eq_true c25
            clear c25
            by_cases c26 : (rd t105 x32_2) < (x9_1.length : Int)
            ·rw [if_pos c26] at H
             have c26b0 : decide ((rd t105 x32_2) < (x9_1.length : Int)) = true := decide_eq_true c26
             clear c26
             by_cases c27 : (rd x9_1 (rd t105 x32_2)) < x13_2
             ·rw [if_pos c27] at H
              have c27b0 : decide ((rd x9_1 (rd t105 x32_2)) < x13_2) = true := decide_eq_true c27
              clear c27
              have H' := Aside0.mk H
              clear H
              have p108 : 0 ≤ (x32_2 : Int) := of_decide_eq_true (by first | (with_reducible assumption) | assumption)
              have q108 : x32_2 < (t105.length : Int) := of_decide_eq_true (by first | (with_reducible assumption) | assumption)
              obtain ⟨ad108, e108, hx108_0⟩ := Kd.at_int (Kd.R_reads' HO_30.out).2.2 x32_2 p108 q108
              cases e108
              replace p108 := eq_true p108
              replace q108 := eq_true q108
              go_wp2_with (first | ((with_reducible refine gate_dst (N := 38) rfl ?_); refine goesF_ (some 38) rfl rfl HF2.out rfl rfl (i := (rd t105 x32_2)) rfl ?sideB A18.out ?_; (case sideB => exact by repeat (first | (with_reducible first | exact HB.out | apply below_alloc | apply pw_below_drewN | apply below_drew1) | exact HB.out)); intro w28 hb; have n0_ := Aside0.mk (Kd.R_below (by (with_reducible repeat (first | apply Kd.R_alloc | apply Kd.R_drewN | apply Kd.R_drew)); exact HO_9.out) hb); have n1_ := Aside0.mk (Kd.R_below (by (with_reducible repeat (first | apply Kd.R_alloc | apply Kd.R_drewN | apply Kd.R_drew)); exact HO_11.out) hb); have n2_ := Aside0.mk (Kd.R_below (by (with_reducible repeat (first | apply Kd.R_alloc | apply Kd.R_drewN | apply Kd.R_drew)); exact HO_30.out) hb); have n3_ := Aside0.mk (below_step (by repeat (first | (with_reducible first | exact HB.out | apply below_alloc | apply pw_below_drewN | apply below_drew1) | exact HB.out)) hb); clear HO_9; clear HO_11; clear HO_30; clear HB; have HO_9 := n0_; have HO_11 := n1_; have HO_30 := n2_; have HB := n3_; clear n0_ n1_ n2_ n3_; (try clear hb); (try clear hb2); (try clear hk); (try clear hi); have p111 : 0 ≤ ((rd t105 x32_2) : Int) := of_decide_eq_true (by first | (with_reducible assumption) | assumption); have q111 : (rd t105 x32_2) < (x9_1.length : Int) := of_decide_eq_true (by first | (with_reducible assumption) | assumption); obtain ⟨ad111, e111, hx111_0⟩ := Kd.at_int (Kd.R_reads' HO_9.out).2.2 (rd t105 x32_2) p111 q111; cases e111; replace p111 := eq_true p111; replace q111 := eq_true q111; have p112 : 0 ≤ ((rd t105 x32_2) : Int) := of_decide_eq_true (by first | (with_reducible assumption) | assumption); have q112 : (rd t105 x32_2) < (x9_1.length : Int) := of_decide_eq_true (by first | (with_reducible assumption) | assumption); obtain ⟨ad112, e112, hx112_0⟩ := Kd.at_int (Kd.R_reads' HO_9.out).2.2 (rd t105 x32_2) p112 q112; obtain rfl : ad111 = ad112 := (by injection e112); replace p112 := eq_true p112; replace q112 := eq_true q112))
              go_roundg k2
              case measure => have := HK1.out; have := HK2.out; omega
              case rel => exact ⟨(rd x9_1 (rd t105 x32_2)), (wrap64 (x32_2 + 1)), (by first | rfl | (simp; done) | (simp [*]; done)), (by first | rfl | (simp; done) | (simp [*]; done)), H', ⟨by have := HK1.out; have := HK2.out; omega⟩, ⟨by (with_reducible repeat (first | apply Kd.R_alloc | apply Kd.R_drewN | apply Kd.R_drew)); exact HO_9.out⟩, ⟨by (with_reducible repeat (first | apply Kd.R_alloc | apply Kd.R_drewN | apply Kd.R_drew)); exact HO_11.out⟩, ⟨by (with_reducible repeat (first | apply Kd.R_alloc | apply Kd.R_drewN | apply Kd.R_drew)); exact HO_30.out⟩, ⟨by repeat (first | (with_reducible first | exact HB.out | apply below_alloc | apply pw_below_drewN | apply below_drew1) | exact HB.out)⟩⟩
             ·rw [if_neg c27] at H
              have c27b0 : decide ((rd x9_1 (rd t105 x32_2)) < x13_2) = false := decide_eq_false c27
              clear c27
              have H' := Aside0.mk H
              clear H
              have p108 : 0 ≤ (x32_2 : Int) := of_decide_eq_true (by first | (with_reducible assumption) | assumption)
              have q108 : x32_2 < (t105.length : Int) := of_decide_eq_true (by first | (with_reducible assumption) | assumption)
              obtain ⟨ad108, e108, hx108_0⟩ := Kd.at_int (Kd.R_reads' HO_30.out).2.2 x32_2 p108 q108
              cases e108
              replace p108 := eq_true p108
              replace q108 := eq_true q108
              go_wp2_with (first | ((with_reducible refine gate_dst (N := 38) rfl ?_); refine goesF_ (some 38) rfl rfl HF2.out rfl rfl (i := (rd t105 x32_2)) rfl ?sideB A18.out ?_; (case sideB => exact by repeat (first | (with_reducible first | exact HB.out | apply below_alloc | apply pw_below_drewN | apply below_drew1) | exact HB.out)); intro w29 hb; have n0_ := Aside0.mk (Kd.R_below (by (with_reducible repeat (first | apply Kd.R_alloc | apply Kd.R_drewN | apply Kd.R_drew)); exact HO_9.out) hb); have n1_ := Aside0.mk (Kd.R_below (by (with_reducible repeat (first | apply Kd.R_alloc | apply Kd.R_drewN | apply Kd.R_drew)); exact HO_11.out) hb); have n2_ := Aside0.mk (Kd.R_below (by (with_reducible repeat (first | apply Kd.R_alloc | apply Kd.R_drewN | apply Kd.R_drew)); exact HO_30.out) hb); have n3_ := Aside0.mk (below_step (by repeat (first | (with_reducible first | exact HB.out | apply below_alloc | apply pw_below_drewN | apply below_drew1) | exact HB.out)) hb); clear HO_9; clear HO_11; clear HO_30; clear HB; have HO_9 := n0_; have HO_11 := n1_; have HO_30 := n2_; have HB := n3_; clear n0_ n1_ n2_ n3_; (try clear hb); (try clear hb2); (try clear hk); (try clear hi); have p111 : 0 ≤ ((rd t105 x32_2) : Int) := of_decide_eq_true (by first | (with_reducible assumption) | assumption); have q111 : (rd t105 x32_2) < (x9_1.length : Int) := of_decide_eq_true (by first | (with_reducible assumption) | assumption); obtain ⟨ad111, e111, hx111_0⟩ := Kd.at_int (Kd.R_reads' HO_9.out).2.2 (rd t105 x32_2) p111 q111; cases e111; replace p111 := eq_true p111; replace q111 := eq_true q111))
              go_roundg k2
              case measure => have := HK1.out; have := HK2.out; omega
              case rel => exact ⟨(x13_2), (wrap64 (x32_2 + 1)), (by first | rfl | (simp; done) | (simp [*]; done)), (by first | rfl | (simp; done) | (simp [*]; done)), H', ⟨by have := HK1.out; have := HK2.out; omega⟩, ⟨by (with_reducible repeat (first | apply Kd.R_alloc | apply Kd.R_drewN | apply Kd.R_drew)); exact HO_9.out⟩, ⟨by (with_reducible repeat (first | apply Kd.R_alloc | apply Kd.R_drewN | apply Kd.R_drew)); exact HO_11.out⟩, ⟨by (with_reducible repeat (first | apply Kd.R_alloc | apply Kd.R_drewN | apply Kd.R_drew)); exact HO_30.out⟩, ⟨by repeat (first | (with_reducible first | exact HB.out | apply below_alloc | apply pw_below_drewN | apply below_drew1) | exact HB.out)⟩⟩
            ·rw [if_neg c26] at H
             exact absurd H (by simp)
           ·rw [if_neg c25] at H
            exact absurd H (by simp)
        ·rw [if_neg c17] at H
         exact absurd H (by simp)
       ·rw [if_neg c16] at H
        exact absurd H (by simp)
      ·rw [if_neg c15] at H
       have c15b0 : decide (x32_2 < (t105.length : Int)) = false := decide_eq_false c15
       clear c15
       by_cases c30 : x13_2 < 0
       ·rw [if_pos c30] at H
        have c30b0 : decide (x13_2 < 0) = true := decide_eq_true c30
        clear c30
        simp only [Option.some.injEq, Prod.mk.injEq] at H
        obtain ⟨rfl, rfl, rfl⟩ := H
        go_wp2
        go_ret3
        exact ⟨_, by first | rfl | (simp [errW_none, errW_some] <;> rfl) | (simp [*, errW_none, errW_some] <;> rfl), by first | exact Kd.R_nil _ _ _ _ _ | exact Kd.N_nil _ _ _ _ _ | exact Kd.V_nil _ _ _ _ _ | exact Kd.Q_nil _ _ _ _ _ | exact Kd.S_nil _ _ _ _ _, by repeat (first | (with_reducible first | exact HB.out | apply below_alloc | apply pw_below_drewN | apply below_drew1) | exact HB.out)⟩
       ·rw [if_neg c30] at H
        have c30b0 : decide (x13_2 < 0) = false := decide_eq_false c30
        clear c30
        replace H := Option.bind_eq_some_iff.mp H
        obtain ⟨t113, A310, H⟩ := H
        replace H : (branch_town_cheapest.l2 k2 a2 x9_1 x10_1 x11_1 t104 x13_2 t113 (t113.length : Int) 0 a0_0 l0_1) = some (r1, r2, r3) := H
        have A31 := Aside0.mk A310
        clear A310
        have H' := Aside0.mk H
        clear H
        go_wp2_with (first | ((with_reducible refine gate_callee (f := 59) rfl ?_); refine goesL_ (some 61) rfl rfl Try.func59 (by kernel_rfl) rfl #[.pointer (some ⟨g0, 0, none⟩), .int .i64 t104] rfl (by (try simp only [List.map_toArray, List.map_cons, List.map_nil]); first | done | rfl | (simp only [List.length_drop, List.length_take]; rfl)) ?_; (with_reducible refine (branch_town_entering.calls k2 g0 a0_0 A0_1 c0_1 l0_1 a0_2 t104 t113 _ ?side1 ?side2 ?side3 A31.out).mono ?_); (case side1 => exact ((show Below _ _ _ from by repeat (first | (with_reducible first | exact HB.out | apply below_alloc | apply pw_below_drewN | apply below_drew1) | exact HB.out)).block _ (blk_lt HP0.out)).trans HP0.out); (case side2 => repeat (first | exact (Kd.C_below HR0_1.out HB.out) | (with_reducible refine Kd.C_alloc ?_ _) | (with_reducible refine Kd.C_drewN ?_ _) | (with_reducible refine Kd.C_drew ?_))); (case side3 => exact HC0_1.out); rintro e w32 ⟨v114, rfl, ho0, hb⟩; refine ⟨_, rfl, ?_⟩; have n0_ := Aside0.mk (Kd.R_elder' (by (with_reducible repeat (first | apply Kd.R_alloc | apply Kd.R_drewN | apply Kd.R_drew)); exact HO_9.out) (Kd.R_base ho0) hb); have n1_ := Aside0.mk (Kd.R_below (by (with_reducible repeat (first | apply Kd.R_alloc | apply Kd.R_drewN | apply Kd.R_drew)); exact HO_11.out) hb); have n2_ := Aside0.mk (Kd.R_elder' (by (with_reducible repeat (first | apply Kd.R_alloc | apply Kd.R_drewN | apply Kd.R_drew)); exact HO_30.out) (Kd.R_base ho0) hb); have n3_ := Aside0.mk (Kd.R_lower (Kd.R_new' (Kd.R_new' ho0 (Kd.R_lt (by (with_reducible repeat (first | apply Kd.R_alloc | apply Kd.R_drewN | apply Kd.R_drew)); exact HO_9.out))) (Kd.R_lt (by (with_reducible repeat (first | apply Kd.R_alloc | apply Kd.R_drewN | apply Kd.R_drew)); exact HO_30.out))) (below_size (by repeat (first | (with_reducible first | exact HB.out | apply below_alloc | apply pw_below_drewN | apply below_drew1) | exact HB.out)))); have n4_ := Aside0.mk (below_step (by repeat (first | (with_reducible first | exact HB.out | apply below_alloc | apply pw_below_drewN | apply below_drew1) | exact HB.out)) hb); clear HO_9; clear HO_11; clear HO_30; clear HB; have HO_9 := n0_; have HO_11 := n1_; have HO_30 := n2_; have HO115 := n3_; have HB := n4_; clear n0_ n1_ n2_ n3_ n4_; (try clear hb); (try clear hb2); (try clear hk); (try clear hi); (try clear ho0); obtain ⟨Ao33, co33, eo33⟩ := Kd.R_slice HO115.out; subst eo33))
        go_loopg [63] k2 (fun kq v63 w' => ∃ (x9_3 : List Int) (x63_3 : Int), v63 = .int .i64 x63_3 ∧ Aside0 (branch_town_cheapest.l2 kq a2 x9_3 x10_1 x11_1 t104 x13_2 t113 (t113.length : Int) x63_3 a0_0 l0_1 = some (r1, r2, r3)) ∧ Aside0 (kq ≤ k2) ∧ Aside0 (Kd.R (Kd.int .i64) 3 w' w.heap.size (fun k_ => some k_ ≠ ((.slice Ao33 t113.length co33) : Value).ownBlock) (.slice Ao11 x9_1.length co11) x9_3) ∧ Aside0 (Kd.R k41 41 w' w.heap.size (fun _ => True) u11 x11_1) ∧ Aside0 (Kd.R (Kd.int .i64) 3 w' w.heap.size (fun k_ => some k_ ≠ ((.slice Ao11 x9_1.length co11) : Value).ownBlock) (.slice Ao33 t113.length co33) t113) ∧ Aside0 (Below w.heap.size w w'))
        case atStart => exact ⟨(x9_1), (0), (by first | rfl | (simp; done) | (simp [*]; done)), H', ⟨Nat.le_refl _⟩, ⟨by (with_reducible repeat (first | apply Kd.R_alloc | apply Kd.R_drewN | apply Kd.R_drew)); exact Kd.R_mono HO_9.out (fun _ hk => hk.2)⟩, ⟨by (with_reducible repeat (first | apply Kd.R_alloc | apply Kd.R_drewN | apply Kd.R_drew)); exact HO_11.out⟩, ⟨by (with_reducible repeat (first | apply Kd.R_alloc | apply Kd.R_drewN | apply Kd.R_drew)); exact Kd.R_mono HO115.out (fun _ hk => hk.1.2)⟩, ⟨by repeat (first | (with_reducible first | exact HB.out | apply below_alloc | apply pw_below_drewN | apply below_drew1) | exact HB.out)⟩⟩
        case round =>
         clear H'
         try clear c1
         try clear p1
         try clear q1
         try clear hx1
         try clear c2
         try clear p2
         try clear c3
         try clear c4
         try clear c5
         try clear c6
         try clear p6
         try clear c7
         try clear c7b0
         try clear c7b1
         try clear p10
         try clear q10
         try clear hx10
         try clear p11
         try clear q11
         try clear hx11
         try clear c15
         try clear c15b0
         try clear c16
         try clear c16b0
         try clear c17
         try clear c17b0
         try clear c19
         try clear c21
         try clear c21b0
         try clear c22
         try clear c22b0
         try clear c23
         try clear c23b0
         try clear c25
         try clear c25b0
         try clear c26
         try clear c26b0
         try clear c27
         try clear c27b0
         try clear c30
         try clear c30b0
         try clear hx108_0
         try clear hx110_0
         try clear hx111_0
         try clear hx112_0
         try clear p108
         try clear p110
         try clear p111
         try clear p112
         try clear p2
         try clear q108
         try clear q110
         try clear q111
         try clear q112
         obtain ⟨x9_3, x63_3, rfl, HA, HK3, HO_9, HO_11, HO_61, HB⟩ := hrel
         have hl9_3 := (Kd.R_reads' HO_9.out).1
         rw [hl9_3] at HO_9
         (try simp only [hl9_3])
         (try simp only [hl9_3] at HO_11)
         (try simp only [hl9_3] at HO_61)
         cases gk with
         | zero => exact absurd HA.out (by simp [branch_town_cheapest.l2])
         | succ k3 =>
          have H := HA.out
          clear HA
          simp only [branch_town_cheapest.l2] at H
          by_cases c34 : x63_3 < (t113.length : Int)
          ·rw [if_pos c34] at H
           have c34b0 : decide (x63_3 < (t113.length : Int)) = true := decide_eq_true c34
           (try (have c34b0l := c34b0; simp only [hl9_3] at c34b0l))
           clear c34
           by_cases c35 : 0 ≤ x63_3
           ·rw [if_pos c35] at H
            have c35b0 : decide (0 ≤ x63_3) = true := decide_eq_true c35
            clear c35
            by_cases c36 : x63_3 < (t113.length : Int)
            ·rw [if_pos c36] at H
             have c36b0 : decide (x63_3 < (t113.length : Int)) = true := decide_eq_true c36
             (try (have c36b0l := c36b0; simp only [hl9_3] at c36b0l))
             clear c36
             by_cases c37 : 0 ≤ (rd t113 x63_3)
             ·rw [if_pos c37] at H
              have c37b0 : decide (0 ≤ (rd t113 x63_3)) = true := decide_eq_true c37
              clear c37
              by_cases c38 : (rd t113 x63_3) < (x9_3.length : Int)
              ·rw [if_pos c38] at H
               have c38b0 : decide ((rd t113 x63_3) < (x9_3.length : Int)) = true := decide_eq_true c38
               (try (have c38b0l := c38b0; simp only [hl9_3] at c38b0l))
               clear c38
               obtain ⟨y118, hy118⟩ : ∃ y_ : List Int, y_ = (x9_3.set ((rd t113 x63_3) : Int).toNat (wrap64 ((rd x9_3 (rd t113 x63_3)) - x13_2))) := ⟨_, rfl⟩
               replace H : (branch_town_cheapest.l2 k3 a2 y118 x10_1 x11_1 t104 x13_2 t113 (t113.length : Int) (wrap64 (x63_3 + 1)) a0_0 l0_1) = some (r1, r2, r3) := by first | (rw [hy118]; with_reducible exact H) | (have H2_ := (Option.bind_some _ _).symm.trans H; rw [hy118]; with_reducible exact H2_) | (have H2_ := (Option.bind_some _ _).symm.trans H; with_reducible exact H2_) | with_reducible exact H | (rw [hy118]; exact H) | exact H
               have Ny118 := Aside0.mk hy118
               clear hy118
               have H' := Aside0.mk H
               clear H
               have p116 : 0 ≤ (x63_3 : Int) := of_decide_eq_true (by first | (with_reducible assumption) | assumption)
               have q116 : x63_3 < (t113.length : Int) := of_decide_eq_true (by first | (with_reducible assumption) | assumption)
               obtain ⟨ad116, e116, hx116_0⟩ := Kd.at_int (Kd.R_reads' HO_61.out).2.2 x63_3 p116 q116
               cases e116
               replace p116 := eq_true p116
               replace q116 := eq_true q116
               have p117 : 0 ≤ ((rd t113 x63_3) : Int) := of_decide_eq_true (by first | (with_reducible assumption) | assumption)
               have q117 : (rd t113 x63_3) < (x9_3.length : Int) := of_decide_eq_true (by first | (with_reducible assumption) | assumption)
               obtain ⟨ad117, e117, hx117_0⟩ := Kd.at_int (Kd.R_reads' HO_9.out).2.2 (rd t113 x63_3) p117 q117
               cases e117
               replace p117 := eq_true p117
               replace q117 := eq_true q117
               have p39 : 0 ≤ ((rd t113 x63_3) : Int) := of_decide_eq_true (by first | (with_reducible assumption) | assumption)
               have q39 : ((rd t113 x63_3) : Int) < ((x9_3.length : Int) : Int) := of_decide_eq_true (by first | (with_reducible assumption) | assumption)
               obtain ⟨go39, co39, eo39, gb39, gl39, cl39, HG39⟩ := Kd.R_form HO_9.out (by omega)
               (first | cases eo39 | (injection eo39 with ea_ en_ ec_; (first | subst ea_ | (injection ea_ with ea_; subst ea_)); subst ec_; clear en_))
               have GB39 := Aside0.mk gb39
               have GG39 := Aside0.mk HG39
               clear gb39 gl39 HG39
               (first | simp only [add_plain] at hx117_0 | skip)
               obtain ⟨hx39_0, hf39_0⟩ := Kd.R_celln 0 HO_9.out ((rd t113 x63_3) : Int) p39 q39
               replace p39 := eq_true p39
               replace q39 := eq_true q39
               have HP40 := Kd.R_putg HO_9.out ((rd t113 x63_3) : Int) (wrap64 ((rd x9_3 (rd t113 x63_3)) - x13_2))
               go_wp2_with (first | ((with_reducible refine gate_store (t := 3) (p := 73) rfl ?_); refine store_event (t := 3) (p := 73) (v := ?vo_w41) (w1 := (wr.setCell ⟨go39, ((rd t113 x63_3) : Int).toNat, none⟩ (.int .i64 (wrap64 ((rd x9_3 (rd t113 x63_3)) - x13_2))))) ?hg ?ho ?hn ?hr ?_; (case ho => rfl); (case hg => rfl); (case hn => rfl); (case hr => first | (go_simp; done) | (go_simp; rfl)); intro w41 hw; have hg : wr.grownBy w41 (some go39) := (by rw [hw]; exact HP40.2); have hp_ : Kd.R (Kd.int .i64) 3 w41 w.heap.size (fun k_ => some k_ ≠ (.slice (some ad116) t113.length co33 : Value).ownBlock) (.slice (some ⟨go39, 0, none⟩) x9_3.length co11) y118 := (by rw [hw, Ny118.out]; exact HP40.1); clear HP40; have n0_ := Aside0.mk (hp_); have n1_ := Aside0.mk (Kd.R_over' (v := (.slice (some ⟨go39, 0, none⟩) x9_3.length co11)) (by (with_reducible repeat (first | apply Kd.R_alloc | apply Kd.R_drewN | apply Kd.R_drew)); exact HO_11.out) (Kd.R_typed HO_9.out) (by decide) hg); have n2_ := Aside0.mk (Kd.R_after (v := (.slice (some ⟨go39, 0, none⟩) x9_3.length co11)) (v1 := (.slice (some ⟨go39, 0, none⟩) x9_3.length co11)) (ok := (fun _ => True)) (by (with_reducible repeat (first | apply Kd.R_alloc | apply Kd.R_drewN | apply Kd.R_drew)); exact Kd.R_mono HO_61.out (fun _ hk => ⟨trivial, hk⟩)) hg (.inl rfl)); have n3_ := Aside0.mk ((by rw [hw]; exact below_set (HB.out) GB39.out : Below w.heap.size w w41)); clear HO_9; clear HO_11; clear HO_61; clear HB; have HO_9 := n0_; have HO_11 := n1_; have HO_61 := n2_; have HB := n3_; clear n0_ n1_ n2_ n3_; clear hg hw hp_))
               (try simp only [← hl9_3])
               go_roundg k3
               case measure => have := HK1.out; have := HK2.out; have := HK3.out; omega
               case rel => exact ⟨(y118), (wrap64 (x63_3 + 1)), (by first | rfl | (simp; done) | (simp [*]; done)), H', ⟨by have := HK1.out; have := HK2.out; have := HK3.out; omega⟩, ⟨by (try simp only [hl9_3]); (with_reducible repeat (first | apply Kd.R_alloc | apply Kd.R_drewN | apply Kd.R_drew)); exact HO_9.out⟩, ⟨by (try simp only [hl9_3]); (with_reducible repeat (first | apply Kd.R_alloc | apply Kd.R_drewN | apply Kd.R_drew)); exact HO_11.out⟩, ⟨by (try simp only [hl9_3]); (with_reducible repeat (first | apply Kd.R_alloc | apply Kd.R_drewN | apply Kd.R_drew)); exact Kd.R_mono HO_61.out (fun _ hk => hk.2)⟩, ⟨by repeat (first | (with_reducible first | exact HB.out | apply below_alloc | apply pw_below_drewN | apply below_drew1) | exact HB.out)⟩⟩
              ·rw [if_neg c38] at H
               exact absurd H (by simp)
             ·rw [if_neg c37] at H
              exact absurd H (by simp)
            ·rw [if_neg c36] at H
             exact absurd H (by simp)
           ·rw [if_neg c35] at H
            exact absurd H (by simp)
          ·rw [if_neg c34] at H
           have c34b0 : decide (x63_3 < (t113.length : Int)) = false := decide_eq_false c34
           (try (have c34b0l := c34b0; simp only [hl9_3] at c34b0l))
           clear c34
           by_cases c42 : x13_2 > 0
           ·rw [if_pos c42] at H
            have c42b0 : decide (0 < x13_2) = true := decide_eq_true c42
            clear c42
            by_cases c43 : x11_1.length < 8796093022208
            ·rw [if_pos c43] at H
             have LMc43 := Aside0.mk c43
             clear c43
             obtain ⟨y119, hy119⟩ : ∃ y_ : List (S41), y_ = (x11_1 ++ [(⟨t104, x13_2⟩ : S41)]) := ⟨_, rfl⟩
             replace H : (branch_town_cheapest.l0 k3 a2 x9_3 (wrap64 (x10_1 + x13_2)) y119 a0_0 l0_1) = some (r1, r2, r3) := by first | (rw [hy119]; with_reducible exact H) | (have H2_ := (Option.bind_some _ _).symm.trans H; rw [hy119]; with_reducible exact H2_) | (have H2_ := (Option.bind_some _ _).symm.trans H; with_reducible exact H2_) | with_reducible exact H | (rw [hy119]; exact H) | exact H
             have Ny119 := Aside0.mk hy119
             clear hy119
             have H' := Aside0.mk H
             clear H
             go_wp2_with (first | ((with_reducible refine gate_builtin (b := .append) (xs := #[.tmp 80, .tmp 84]) rfl ?_); at_builtin; refine Kd.R_append k41 (w0 := w) w.heap.size rfl (.tmp 80) (.tmp 84) 35 41 (.agg #[(.int .i64 0), (.int .i64 0)]) 16 rfl Try.underlying35 info41 rfl (by decide) (by omega) u11 x11_1 (⟨t104, x13_2⟩ : S41) [.int .i64 t104, .int .i64 x13_2] (fun _ => True) (fun _ => False) rfl rfl ?aP (fun _ hk => hk.elim) ?aF ?aO ?aB ?aS ?aL ?_; (case aP => exact k41_mkM _ _ _ (⟨t104, x13_2⟩ : S41)); (case aB => exact (by repeat (first | (with_reducible first | exact HB.out | apply below_alloc | apply pw_below_drewN | apply below_drew1) | exact HB.out))); (case aF => exact (fun _ _ => trivial)); (case aO => exact (by (with_reducible repeat (first | apply Kd.R_alloc | apply Kd.R_drewN | apply Kd.R_drew)); exact HO_11.out)); (case aS => exact (below_size (by repeat (first | (with_reducible first | exact HB.out | apply below_alloc | apply pw_below_drewN | apply below_drew1) | exact HB.out)))); (case aL => have := LMc43.out; omega); intro v120 w44 ho hb hg hat; rw [← Ny119.out] at ho; have n0_ := Aside0.mk (Kd.R_over' (by (with_reducible repeat (first | apply Kd.R_alloc | apply Kd.R_drewN | apply Kd.R_drew)); exact HO_9.out) (Kd.R_typed (by (with_reducible repeat (first | apply Kd.R_alloc | apply Kd.R_drewN | apply Kd.R_drew)); exact HO_11.out)) (by decide) hg); have n1_ := Aside0.mk (Kd.R_over' (by (with_reducible repeat (first | apply Kd.R_alloc | apply Kd.R_drewN | apply Kd.R_drew)); exact HO_61.out) (Kd.R_typed (by (with_reducible repeat (first | apply Kd.R_alloc | apply Kd.R_drewN | apply Kd.R_drew)); exact HO_11.out)) (by decide) hg); have n2_ := Aside0.mk (hb); have n3_ := Aside0.mk (ho); clear HO_9; clear HO_61; clear HB; clear HO_11; have HO_9 := n0_; have HO_61 := n1_; have HB := n2_; have HO121 := n3_; clear n0_ n1_ n2_ n3_; clear ho hb hg hat))
             (try simp only [← hl9_3])
             go_roundg k3
             case measure => have := HK1.out; have := HK2.out; have := HK3.out; omega
             case rel => exact ⟨(x9_3), (wrap64 (x10_1 + x13_2)), (y119), (by first | rfl | (simp; done) | (simp [*]; done)), H', ⟨by have := HK1.out; have := HK2.out; have := HK3.out; omega⟩, ⟨by (try simp only [hl9_3]); (with_reducible repeat (first | apply Kd.R_alloc | apply Kd.R_drewN | apply Kd.R_drew)); exact Kd.R_mono HO_9.out (fun _ hk => trivial)⟩, ⟨by (try simp only [hl9_3]); (with_reducible repeat (first | apply Kd.R_alloc | apply Kd.R_drewN | apply Kd.R_drew)); exact HO121.out⟩, ⟨by repeat (first | (with_reducible first | exact HB.out | apply below_alloc | apply pw_below_drewN | apply below_drew1) | exact HB.out)⟩⟩
            ·rw [if_neg c43] at H
             exact absurd H (by simp)
           ·rw [if_neg c42] at H
            have c42b0 : decide (0 < x13_2) = false := decide_eq_false c42
            clear c42
            have H' := Aside0.mk H
            clear H
            go_wp2
            (try simp only [← hl9_3])
            go_roundg k3
            case measure => have := HK1.out; have := HK2.out; have := HK3.out; omega
            case rel => exact ⟨(x9_3), (x10_1), (x11_1), (by first | rfl | (simp; done) | (simp [*]; done)), H', ⟨by have := HK1.out; have := HK2.out; have := HK3.out; omega⟩, ⟨by (try simp only [hl9_3]); (with_reducible repeat (first | apply Kd.R_alloc | apply Kd.R_drewN | apply Kd.R_drew)); exact Kd.R_mono HO_9.out (fun _ hk => trivial)⟩, ⟨by (try simp only [hl9_3]); (with_reducible repeat (first | apply Kd.R_alloc | apply Kd.R_drewN | apply Kd.R_drew)); exact HO_11.out⟩, ⟨by repeat (first | (with_reducible first | exact HB.out | apply below_alloc | apply pw_below_drewN | apply below_drew1) | exact HB.out)⟩⟩
end Go.Proofs.Ytpmadffgdfholaa.B
namespace Go.Proofs.Ytpmadffgdfholaa.B
open Go.RowKit Go.MapKept Go.Proofs.YtpmadffgdfholaaW.PrintWords Go.Proofs.YtpmadffgdfholaaW.PrintLast Go.Proofs.YtpmadffgdfholaaW.PrintMore
set_option linter.unusedVariables false
set_option linter.unusedSimpArgs false
attribute [local go_sem ↓] Go.wp_at_zero Go.wp_at_succ
set_option maxHeartbeats 800000 in
set_option maxRecDepth 100000 in
theorem first3_calls (i : Int) (ga gb m1 m2 : Nat) (g1 g2 : Int → Bool) (w : World) (hA : w.heap[ga]? = some (.cells #[.map (some m1)] 92 (0, 0))) (hB : w.heap[gb]? = some (.cells #[.map (some m2)] 92 (0, 0))) (h1 : SetM w m1 g1) (h2 : SetM w m2 g2) :
  Calls Try.prog 72 #[.int .i64 i, .pointer (some ⟨ga, 0, none⟩), .pointer (some ⟨gb, 0, none⟩)] w fun e w' => e = .returned (.bool (g1 i || g2 i)) ∧ Below w.heap.size w w' := by
 have hl1 := h1.lookup Try.underlying92 Try.underlying3 i (by first | rfl | (go_simp; done))
 have hl2 := h2.lookup Try.underlying92 Try.underlying3 i (by first | rfl | (go_simp; done))
 have ha := (blk_cell hA 0).trans rfl
 have hb := (blk_cell hB 0).trans rfl
 have HB := Aside0.mk (Below.refl w.heap.size w)
 obtain ⟨b1, hb1⟩ : ∃ b, g1 i = b := ⟨_, rfl⟩
 obtain ⟨b2, hb2⟩ : ∃ b, g2 i = b := ⟨_, rfl⟩
 rw [hb1] at hl1 ⊢
 rw [hb2] at hl2 ⊢
 clear hb1 hb2 h1 h2 hA hB
 go_enter Try.func72, Try.ntmps72
 cases b1 with
 | true =>
  go_wp2
  go_ret
  exact ⟨by first | rfl | (simp; done), HB.out⟩
 | false =>
  go_wp2
  go_ret
  exact ⟨by first | rfl | (simp; done), HB.out⟩
theorem first3_fn {w : World} {ga gb m1 m2 : Nat} {g1 g2 : Int → Bool} (hA : w.heap[ga]? = some (.cells #[.map (some m1)] 92 (0, 0))) (hB : w.heap[gb]? = some (.cells #[.map (some m2)] 92 (0, 0))) (h1 : SetM w m1 g1) (h2 : SetM w m2 g2) :
    IsFn Try.prog w (.func (.func 72) #[] #[.pointer (some ⟨ga, 0, none⟩), .pointer (some ⟨gb, 0, none⟩)]) (fun i => some (g1 i || g2 i)) := by
  refine ⟨72, _, Try.f72, rfl, Try.func72, by kernel_rfl, rfl, fun W hW i r hf => ?_⟩
  obtain rfl := Option.some.inj hf
  exact first3_calls i ga gb m1 m2 g1 g2 W (blk_below hA hW) (blk_below hB hW) (h1.below hW) (h2.below hW)
theorem first2_fn {w : World} {g1 gg1 g2 : Nat} {n : Int} {A : Option Addr} {c : Nat} {l : List S30} {m : Option Nat} {tk : Int} (hP1 : w.heap[g1]? = some (.cells #[.pointer (some ⟨gg1, 0, none⟩)] 65 (0, 0))) (hQ1 : w.heap[gg1]? = some (.cells #[.int .i64 n, .slice A l.length c, .map m] 70 (0, 0)))
    (hr : Kd.C k30 w A l.length l) (hc : l.length ≤ c) (hP2 : w.heap[g2]? = some (.cells #[.int .i64 tk] 3 (0, 0))) :
    IsFn Try.prog w (.func (.func 71) #[] #[.pointer (some ⟨g1, 0, none⟩), .pointer (some ⟨g2, 0, none⟩)]) (fun i => branch_town_first_2.f i n l tk) := by
  refine ⟨71, _, Try.f71, rfl, Try.func71, by kernel_rfl, rfl, fun W hW i r hf => ?_⟩
  refine (branch_town_first_2.calls i g1 gg1 n A c l m g2 tk r W (blk_below hP1 hW) (blk_below hQ1 hW) (Kd.C_below hr hW) hc (blk_below hP2 hW) hf).mono (fun e_ w_ x_ => ⟨x_.1, by obtain ⟨_, n_, rfl⟩ := x_; exact pw_below_drewN (Below.refl _ _) n_⟩)
theorem first1_fn (w : World) : IsFn Try.prog w (.func (.func 69) #[] #[]) (fun i => branch_town_first_1.f i) :=
  ⟨69, #[], Try.f69, rfl, Try.func69, by kernel_rfl, rfl, fun W_ _ i_ r_ h_ => (branch_town_first_1.calls i_ r_ W_ h_).mono (fun e_ w_ x_ => ⟨x_.1, by obtain ⟨_, n_, rfl⟩ := x_; exact pw_below_drewN (Below.refl _ _) n_⟩)⟩
/-- The streets of a list but one. -/
def moreL (i : Int) (T : List Int) : Int → Bool := fun j => decide (j ∈ T) && decide (j ≠ i)
theorem moreL_nil (i : Int) : moreL i [] = fun _ => false := by funext j; simp [moreL]
theorem moreL_snoc_ne (i x : Int) (T : List Int) (h : x ≠ i) : moreL i (T ++ [x]) = fun j => decide (j = x) || moreL i T j := by
  funext j
  simp only [moreL, List.mem_append, List.mem_singleton]
  by_cases h1 : j = x
  · subst h1; simp [h]
  · simp [h1]
theorem moreL_snoc_eq (i : Int) (T : List Int) : moreL i (T ++ [i]) = moreL i T := by
  funext j
  simp only [moreL, List.mem_append, List.mem_singleton]
  by_cases h1 : j = i
  · subst h1; simp
  · simp [h1]
def firstL (k : Nat) (n : Int) (l : List S30) (price : List Int) (cost : Int) : Nat → Nat → List Int → (Int → Bool) → Option (List Int × Int × Int)
  | 0, _, list, _ => some (list, cost, 0)
  | c + 1, i, list, gone =>
    (if (rd_T30 l (i : Int)).f1 = 0 then some true else slices_ContainsFunc_int_int.f k list (fun j => branch_town_first_2.f j n l (rd_T30 l (i : Int)).f1)).bind fun sk =>
      if sk = true then firstL k n l price cost c (i + 1) list (fun j => decide (j = (i : Int)) || gone j) else
        (branch_town_cheapest.f k n l price (fun j => some (gone j || moreL (i : Int) (toB l l.length (rd_T30 l (i : Int)).f1) j))).bind fun bt =>
          if (bt.2.2 && (bt.1 == cost)) = true then (if list.length < 1000000 then firstL k n l price cost c (i + 1) (list ++ [(i : Int)]) (fun j => gone j || moreL (i : Int) (toB l l.length (rd_T30 l (i : Int)).f1) j) else none)
          else firstL k n l price cost c (i + 1) list (fun j => decide (j = (i : Int)) || gone j)
def branch_town_first.f (k : Nat) (a0_0 : Int) (l0_1 : List S30) (l1 : List Int) : Option (List Int × Int × Int) :=
  if l0_1.length < 1000000 then (branch_town_cheapest.f k a0_0 l0_1 l1 (fun i => branch_town_first_1.f i)).bind fun bt => if bt.2.2 = true then firstL k a0_0 l0_1 l1 bt.1 l0_1.length 0 [] (fun _ => false) else some ([], 0, 10) else none
theorem firstL_mono (k : Nat) (n : Int) (l : List S30) (price : List Int) (cost : Int) : ∀ c i list gone, LeO (firstL k n l price cost c i list gone) (firstL (k + 1) n l price cost c i list gone)
  | 0, _, _, _ => LeO.refl _
  | c + 1, i, list, gone => by
    unfold firstL
    refine LeO.bind (LeO.ite (LeO.refl _) (slices_ContainsFunc_int_int.mono _ _ k)) fun sk => ?_
    refine LeO.ite (firstL_mono k n l price cost c _ _ _) ?_
    refine LeO.bind (branch_town_cheapest.mono _ _ _ _ k) fun bt => ?_
    exact LeO.ite (LeO.ite (firstL_mono k n l price cost c _ _ _) (LeO.refl _)) (firstL_mono k n l price cost c _ _ _)
theorem branch_town_first.mono : ∀ a0 a1 a2 k, LeO (branch_town_first.f k a0 a1 a2) (branch_town_first.f (k + 1) a0 a1 a2) := by
  intro a0 a1 a2 k
  unfold branch_town_first.f
  refine LeO.ite ?_ (LeO.refl _)
  refine LeO.bind (branch_town_cheapest.mono _ _ _ _ k) fun bt => ?_
  exact LeO.ite (firstL_mono k a0 a1 a2 _ _ _ _ _) (LeO.refl _)
/-- What a walk of first knows of its world: the variables' blocks, the list, what is gone. -/
structure FEnv (w W : World) (tb g0 gq m : Nat) (vl : Value) (list : List Int) (gone : Int → Bool) : Prop where
  hB : Below w.heap.size w W
  tB : W.heap[tb]? = some (.cells #[.pointer (some ⟨g0, 0, none⟩)] 65 (0, 0))
  qB : W.heap[gq]? = some (.cells #[.map (some m)] 92 (0, 0))
  hM : SetM W m gone
  hL : Kd.R (Kd.int .i64) 3 W w.heap.size (fun _ => True) vl list
  gm : w.heap.size ≤ m
theorem FEnv.below {w W W2 : World} {tb g0 gq m : Nat} {vl : Value} {list : List Int} {gone : Int → Bool} (h : FEnv w W tb g0 gq m vl list gone) (hb : Below W.heap.size W W2) : FEnv w W2 tb g0 gq m vl list gone :=
  ⟨below_step h.hB hb, blk_below h.tB hb, blk_below h.qB hb, h.hM.below hb, Kd.R_below h.hL hb, h.gm⟩
theorem FEnv.upd {w W W2 : World} {tb g0 gq m : Nat} {vl : Value} {list : List Int} {gone gone2 : Int → Bool} (h : FEnv w W tb g0 gq m vl list gone) (hM2 : SetM W2 m gone2) (hg : W.grownBy W2 (some m)) : FEnv w W2 tb g0 gq m vl list gone2 :=
  ⟨h.hB.grown hg h.hB.size (fun j hj => by cases hj; exact h.gm), blk_grown h.tB hg (by have := h.hM.ne_cells h.tB; intro e; injection e with e; exact this e.symm), blk_grown h.qB hg (by have := h.hM.ne_cells h.qB; intro e; injection e with e; exact this e.symm), hM2, Kd.R_map h.hL h.hM hg, h.gm⟩
theorem FEnv.other {w W W2 : World} {tb g0 gq m m2 : Nat} {vl : Value} {list : List Int} {gone g2 : Int → Bool} (h : FEnv w W tb g0 gq m vl list gone) (hM2 : SetM W m2 g2) (hne : m ≠ m2) (hlo : w.heap.size ≤ m2) (hg : W.grownBy W2 (some m2)) : FEnv w W2 tb g0 gq m vl list gone :=
  ⟨h.hB.grown hg h.hB.size (fun j hj => by cases hj; exact hlo), blk_grown h.tB hg (by have := hM2.ne_cells h.tB; intro e; injection e with e; exact this e.symm), blk_grown h.qB hg (by have := hM2.ne_cells h.qB; intro e; injection e with e; exact this e.symm), h.hM.of_block (hg.block m h.hM.lt (fun e => hne (by injection e))), Kd.R_map h.hL hM2 hg, h.gm⟩
theorem FEnv.iter {w W W2 : World} {tb g0 gq m m2 r cnt : Nat} {vl : Value} {list : List Int} {gone g2 d2 : Int → Bool} (h : FEnv w W tb g0 gq m vl list gone) (hI : IterM W m2 r g2 d2 cnt) (hlo : w.heap.size ≤ r) (hg : W.grownBy W2 (some r)) : FEnv w W2 tb g0 gq m vl list gone := by
  refine ⟨h.hB.grown hg h.hB.size (fun j hj => by cases hj; exact hlo), blk_grown h.tB hg (by have := hI.ne_cells h.tB; intro e; injection e with e; exact this e.symm), blk_grown h.qB hg (by have := hI.ne_cells h.qB; intro e; injection e with e; exact this e.symm), h.hM.of_block (hg.block m h.hM.lt (fun e => hI.ne_map h.hM (by injection e with e; exact e.symm))), ?_, h.gm⟩
  refine Kd.R_mono (Kd.R_grown (Kd.R_bound h.hL) hg (fun k hk he => ?_)) (fun _ hk => hk.1)
  obtain ⟨_, _, _, q, _, cells, hc⟩ := hk
  injection he with he
  subst he
  exact hI.ne_cells hc rfl
theorem IterM.turn {w w2 : World} {m r k : Nat} {g done : Int → Bool} {cnt : Nat} (h : IterM w m r g done cnt) (hg : w.grownBy w2 (some k)) (h1 : m ≠ k) (h2 : r ≠ k) : IterM w2 m r g done cnt :=
  h.of_blocks (hg.block m h.set.lt (fun e => h1 (by injection e))) (hg.block r h.lt (fun e => h2 (by injection e)))
theorem SetM.row {w w2 : World} {m base : Nat} {g : Int → Bool} {ok : Nat → Prop} {v : Value} {xs : List Int} (h : SetM w m g) (hR : Kd.R (Kd.int .i64) 3 w base ok v xs) (hg : w.grownBy w2 v.ownBlock) : SetM w2 m g :=
  h.of_block (hg.block m h.lt (fun e => by
    obtain ⟨cells, hc⟩ := own_typed (Kd.own_of_R hR) m e.symm
    exact h.ne_cells hc rfl))
theorem FEnv.app {w W W2 : World} {tb g0 gq m : Nat} {vl v2 : Value} {list list2 : List Int} {gone : Int → Bool} (h : FEnv w W tb g0 gq m vl list gone) (hb : Below w.heap.size w W2) (hg : W.grownBy W2 vl.ownBlock) (hL : Kd.R (Kd.int .i64) 3 W2 w.heap.size (fun _ => True) v2 list2) : FEnv w W2 tb g0 gq m v2 list2 gone :=
  ⟨hb, blk_grown h.tB hg (Kd.R_ne h.hL h.tB (by decide)), blk_grown h.qB hg (Kd.R_ne h.hL h.qB (by decide)), h.hM.row h.hL hg, hL, h.gm⟩
theorem take_rdI (T : List Int) (q : Nat) (h : q < T.length) : T.take (q + 1) = T.take q ++ [rd T (q : Int)] := by
  rw [List.take_add_one, List.getElem?_eq_getElem h]
  simp [rd, List.getD, List.getElem?_eq_getElem h]
theorem drop_cell {w W : World} {a : Addr} {v : Value} (h : w.cell? a = some v) (hB : Below w.heap.size w W) : W.cell? a = some v := (hB.cell (World.block_lt_of_cell? w _ h)).trans h
set_option maxHeartbeats 8000000 in
set_option maxRecDepth 100000 in
theorem branch_town_first.calls (k : Nat) (g0 : Nat) (a0_0 : Int) (A0_1 : Option Addr) (c0_1 : Nat) (l0_1 : List S30) (mm base0 : Nat) (A1 : Option Addr) (c1 : Nat) (l1 : List Int) (r1 : List Int) (r2 r3 : Int) (w : World) (hP0 : w.heap[g0]? = some (.cells #[.int .i64 a0_0, .slice A0_1 l0_1.length c0_1, .map (some mm)] 70 (0, 0))) (hr0_1 : Kd.C k30 w A0_1 l0_1.length l0_1) (hc0_1 : l0_1.length ≤ c0_1) (hr1 : Kd.C (Kd.int .i64) w A1 l1.length l1) (hc1 : l1.length ≤ c1) (hG : GrpM w base0 mm (toB l0_1 l0_1.length)) (h : branch_town_first.f k a0_0 l0_1 l1 = some (r1, r2, r3)) :
  Calls Try.prog 51 #[.pointer (some ⟨g0, 0, none⟩), .slice A1 l1.length c1] w fun e w' => ∃ v0_ : Value, e = .returned (.tuple #[v0_, .int .i64 r2, .int .i64 r3]) ∧ Kd.R (Kd.int .i64) 3 w' w.heap.size (fun _ => True) v0_ r1 ∧ Below w.heap.size w w' := by
 have hu30 := Try.underlying30
 have hu65 := Try.underlying65
 have HP0 := Aside0.mk hP0
 have HR0 := Aside0.mk hr0_1
 have HC0 := Aside0.mk hc0_1
 have HR1 := Aside0.mk hr1
 have HC1 := Aside0.mk hc1
 have HG := Aside0.mk hG
 have HX1 := Aside0.mk (show w.cell? ⟨g0, 1, none⟩ = some (.slice A0_1 l0_1.length c0_1) from (blk_cell hP0 1).trans rfl)
 have HX2 := Aside0.mk (show w.cell? ⟨g0, 2, none⟩ = some (.map (some mm)) from (blk_cell hP0 2).trans rfl)
 clear hP0 hr0_1 hc0_1 hr1 hc1 hG
 have HB := Aside0.mk (Below.refl w.heap.size w)
 have hmf : ∀ (fn : Fn) (first cap : Array Value) (w : World), (Instr.makeFunc fn first cap).run Try.prog w = .ok (.func fn first cap) w := fun _ _ _ _ => rfl
 unfold branch_town_first.f at h
 split at h
 case isFalse => exact absurd h (by simp)
 rename_i hlen
 have HLEN := Aside0.mk hlen
 clear hlen
 obtain ⟨⟨b1, b2, b3⟩, hbt, h⟩ := Option.bind_eq_some_iff.1 h
 have HBT := Aside0.mk hbt
 have H0 := Aside0.mk h
 clear hbt h
 cases b3 with
 | false =>
  have h := H0.out
  simp only [Bool.false_eq_true, if_false, Option.some.injEq, Prod.mk.injEq] at h
  obtain ⟨rfl, rfl, rfl⟩ := h
  go_enter Try.func51, Try.ntmps51
  go_wp2_with (first | ((with_reducible refine gate_dst (N := 2) rfl ?_); refine box_event ?hg (N := 2) ?hd (cs := #[.pointer (some ⟨g0, 0, none⟩)]) (t := 65) ?hr ?_; (case hd => rfl); (case hg => rfl); (case hr => first | (go_simp; done) | (go_simp; rfl)); intro tb hg w1 hbox hb; have TB := Aside0.mk hbox; have GT := Aside0.mk (show w.heap.size ≤ tb by rw [hg]; exact Nat.le_refl _); clear HB; have HB := Aside0.mk hb; clear hg hbox hb; have ht_0 : w1.cell? ⟨tb, 0, none⟩ = some (.pointer (some ⟨g0, 0, none⟩)) := (blk_cell TB.out 0).trans rfl) | (go_at_call 46; (refine (branch_town_cheapest.calls k g0 a0_0 A0_1 c0_1 l0_1 (some mm) A1 c1 l1 _ (fun i => branch_town_first_1.f i) b1 b2 _ _ (blk_below HP0.out HB.out) (Kd.C_below HR0.out HB.out) HC0.out (Kd.C_below HR1.out HB.out) HC1.out (first1_fn _) HBT.out).mono ?_); rintro e w2 ⟨vb, rfl, ho, hb⟩; have n0_ := Aside0.mk (below_step HB.out hb); have n1_ := Aside0.mk (blk_below TB.out hb); clear HB TB; have HB := n0_; have TB := n1_; clear n0_ n1_ ho hb ht_0; have ht_0 : w2.cell? ⟨tb, 0, none⟩ = some (.pointer (some ⟨g0, 0, none⟩)) := (blk_cell TB.out 0).trans rfl; have hp_1 := drop_cell HX1.out HB.out; have hp_2 := drop_cell HX2.out HB.out))
  go_ret3
  exact ⟨_, by first | rfl | (simp; done), Kd.R_nil _ _ _ _ _, by repeat (first | (with_reducible first | exact HB.out | apply below_alloc | apply pw_below_drewN | apply below_drew1) | exact HB.out)⟩
 | true =>
  have h := H0.out
  simp only [if_true] at h
  clear H0
  have H0 := Aside0.mk h
  clear h
  go_enter Try.func51, Try.ntmps51
  go_upto_region 7 with (first | ((with_reducible refine gate_dst (N := 2) rfl ?_); refine box_event ?hg (N := 2) ?hd (cs := #[.pointer (some ⟨g0, 0, none⟩)]) (t := 65) ?hr ?_; (case hd => rfl); (case hg => rfl); (case hr => first | (go_simp; done) | (go_simp; rfl)); intro tb hg w1 hbox hb; have TB := Aside0.mk hbox; have GT := Aside0.mk (show w.heap.size ≤ tb by rw [hg]; exact Nat.le_refl _); clear HB; have HB := Aside0.mk hb; clear hg hbox hb; have ht_0 : w1.cell? ⟨tb, 0, none⟩ = some (.pointer (some ⟨g0, 0, none⟩)) := (blk_cell TB.out 0).trans rfl) | (go_at_call 46; (refine (branch_town_cheapest.calls k g0 a0_0 A0_1 c0_1 l0_1 (some mm) A1 c1 l1 _ (fun i => branch_town_first_1.f i) b1 b2 _ _ (blk_below HP0.out HB.out) (Kd.C_below HR0.out HB.out) HC0.out (Kd.C_below HR1.out HB.out) HC1.out (first1_fn _) HBT.out).mono ?_); rintro e w2 ⟨vb, rfl, ho, hb⟩; have n0_ := Aside0.mk (below_step HB.out hb); have n1_ := Aside0.mk (blk_below TB.out hb); clear HB TB; have HB := n0_; have TB := n1_; clear n0_ n1_ ho hb ht_0; have ht_0 : w2.cell? ⟨tb, 0, none⟩ = some (.pointer (some ⟨g0, 0, none⟩)) := (blk_cell TB.out 0).trans rfl; have hp_1 := drop_cell HX1.out HB.out; have hp_2 := drop_cell HX2.out HB.out) | ((with_reducible refine gate_dst (N := 32) rfl ?_); refine map_event ?hg (N := 32) ?hd ?hr ?_; (case hd => rfl); (case hg => rfl); (case hr => rfl); intro m hm w3 hmap hb; have HM := Aside0.mk (SetM.new hmap); have n0_ := Aside0.mk (blk_below (by (with_reducible repeat (first | refine blk_drewN ?_ _ | refine blk_drew ?_ | refine blk_alloc ?_ _)); exact TB.out) hb); have n1_ := Aside0.mk (below_step (by repeat (first | (with_reducible first | exact HB.out | apply below_alloc | apply pw_below_drewN | apply below_drew1) | exact HB.out)) hb); have GM := Aside0.mk ((by rw [hm]; exact (below_size (by repeat (first | (with_reducible first | exact HB.out | apply below_alloc | apply pw_below_drewN | apply below_drew1) | exact HB.out)))) : w.heap.size ≤ m); clear TB HB; have TB := n0_; have HB := n1_; clear n0_ n1_ hm hmap hb))
  obtain ⟨gq, hgq⟩ : ∃ gq, w3.heap.size = gq := ⟨_, rfl⟩
  rw [hgq]
  obtain ⟨wq, hwq⟩ : ∃ wq, w3.alloc (.cells #[.map (some m)] 92) = wq := ⟨_, rfl⟩
  rw [hwq]
  have n0_ : Below w3.heap.size w3 wq := hwq ▸ below_alloc (Below.refl _ _) _
  have FE := Aside0.mk (show FEnv w wq tb g0 gq m (.slice none 0 0) [] (fun _ => false) from ⟨below_step HB.out n0_, blk_below TB.out n0_, hgq ▸ hwq ▸ heap_alloc_new w3 _, HM.out.below n0_, Kd.R_nil _ _ _ _ _, GM.out⟩)
  clear n0_ hgq hwq HB TB HM ht_0 hp_1 hp_2
  have ht_0 : wq.cell? ⟨tb, 0, none⟩ = some (.pointer (some ⟨g0, 0, none⟩)) := (blk_cell FE.out.tB 0).trans rfl
  have hp_1 := drop_cell HX1.out FE.out.hB
  have hp_2 := drop_cell HX2.out FE.out.hB
  have hq_0 : wq.cell? ⟨gq, 0, none⟩ = some (.map (some m)) := (blk_cell FE.out.qB 0).trans rfl
  go_wp2
  go_loopg [11, 38] l0_1.length (fun kq v11 v38 w' => ∃ (i : Nat) (list : List Int) (gone : Int → Bool), v38 = .int .i64 (i : Int) ∧ Aside0 (i + kq = l0_1.length) ∧ Aside0 (firstL k a0_0 l0_1 l1 b1 kq i list gone = some (r1, r2, r3)) ∧ Aside0 (FEnv w w' tb g0 gq m v11 list gone))
  case atStart => exact ⟨0, [], _, rfl, ⟨by simp⟩, ⟨H0.out⟩, FE⟩
  case round =>
   clear H0 FE ht_0 hp_1 hp_2 hq_0
   obtain ⟨i, list, gone, rfl, HI, HH, FE⟩ := hrel
   have ht_0 : wr.cell? ⟨tb, 0, none⟩ = some (.pointer (some ⟨g0, 0, none⟩)) := (blk_cell FE.out.tB 0).trans rfl
   have hp_1 := drop_cell HX1.out FE.out.hB
   have hp_2 := drop_cell HX2.out FE.out.hB
   have hq_0 : wr.cell? ⟨gq, 0, none⟩ = some (.map (some m)) := (blk_cell FE.out.qB 0).trans rfl
   cases gk with
   | zero =>
    have hi := HI.out
    have c4b : decide ((i : Int) < (l0_1.length : Int)) = false := decide_eq_false (by omega)
    have c4b2 : decide (i < l0_1.length) = false := decide_eq_false (by omega)
    have hh := HH.out
    simp only [firstL, Option.some.injEq, Prod.mk.injEq] at hh
    obtain ⟨rfl, rfl, rfl⟩ := hh
    clear hi
    go_wp2
    go_ret3
    exact ⟨_, by first | rfl | (simp; done), FE.out.hL, FE.out.hB⟩
   | succ k1 =>
    have hi0 : (0 : Int) ≤ (i : Int) := Int.natCast_nonneg _
    have hi1 : (i : Int) < (l0_1.length : Int) := by have := HI.out; omega
    have c4b : decide ((i : Int) < (l0_1.length : Int)) = true := decide_eq_true hi1
    have c4b2 : decide (i < l0_1.length) = true := decide_eq_true (by omega)
    have hi2 : i < l0_1.length := by omega
    have hh := HH.out
    unfold firstL at hh
    obtain ⟨ad, e, hx_0, hx_1, hx_2⟩ := at_T30 HR0.out (i : Int) hi0 hi1
    cases e
    obtain ⟨tk, htk⟩ : ∃ tk, (rd_T30 l0_1 (i : Int)).f1 = tk := ⟨_, rfl⟩
    rw [htk] at hx_1 hh
    simp only [Int.toNat_natCast] at hx_1
    clear htk hx_0 hx_2 HH
    replace hx_1 := drop_cell hx_1 FE.out.hB
    replace hi0 := eq_true hi0
    replace hi1 := eq_true hi1
    replace hi2 := eq_true hi2
    obtain ⟨sk, hsk, hh⟩ := Option.bind_eq_some_iff.1 hh
    have HSK := Aside0.mk hsk
    have HH := Aside0.mk hh
    clear hsk hh
    go_upto_region 11 with (fail)
    (try simp only [Act.put, List.setIfInBounds_toArray, List.set_cons_zero, List.set_cons_succ])
    obtain ⟨gt, hgt⟩ : ∃ gt, wr.heap.size = gt := ⟨_, rfl⟩
    rw [hgt]
    obtain ⟨wq1, hwq⟩ : ∃ wq, wr.alloc (.cells #[.int .i64 tk] 3) = wq := ⟨_, rfl⟩
    rw [hwq]
    have n0_ : Below wr.heap.size wr wq1 := hwq ▸ below_alloc (Below.refl _ _) _
    have TK := Aside0.mk (hgt ▸ hwq ▸ heap_alloc_new wr _ : wq1.heap[gt]? = some (.cells #[.int .i64 tk] 3 (0, 0)))
    have GTK := Aside0.mk (hgt ▸ FE.out.hB.size : w.heap.size ≤ gt)
    have n1_ := Aside0.mk (FE.out.below n0_)
    clear FE ht_0 hp_1 hp_2 hq_0 hx_1 n0_ hgt hwq
    have FE := n1_
    clear n1_
    have ht_0 : wq1.cell? ⟨tb, 0, none⟩ = some (.pointer (some ⟨g0, 0, none⟩)) := (blk_cell FE.out.tB 0).trans rfl
    have hp_1 := drop_cell HX1.out FE.out.hB
    have hp_2 := drop_cell HX2.out FE.out.hB
    have hq_0 : wq1.cell? ⟨gq, 0, none⟩ = some (.map (some m)) := (blk_cell FE.out.qB 0).trans rfl
    have hk_0 : wq1.cell? ⟨gt, 0, none⟩ = some (.int .i64 tk) := (blk_cell TK.out 0).trans rfl
    obtain ⟨Al, cl, hvl⟩ := Kd.R_slice FE.out.hL
    subst hvl
    by_cases t0 : tk = 0
    ·have hsk := HSK.out
     rw [if_pos t0] at hsk
     obtain rfl := Option.some.inj hsk
     have hh := HH.out
     simp only [if_true] at hh
     clear HH hsk
     have HH := Aside0.mk hh
     clear hh
     have s0 : (tk == 0) = true := beq_iff_eq.mpr t0
     have s0b : decide (tk = 0) = true := decide_eq_true t0
     clear t0
     go_wp2_with (first | (at_mapUpdate; refine update_event FE.out.hM Try.underlying92 Try.underlying3 rfl _ _ _ rfl (i := (i : Int)) rfl rfl rfl ?_; intro w6 hm6 hg6; have n0_ := Aside0.mk (FE.out.upd hm6 hg6); clear FE ht_0 hp_1 hp_2 hq_0 hk_0 hm6 hg6; have FE := n0_; clear n0_))
     go_roundg k1
     case measure => omega
     case rel => exact ⟨i + 1, list, _, val_succ2 i (by have := HI.out; have := HLEN.out; omega), ⟨by have := HI.out; omega⟩, ⟨HH.out⟩, FE⟩
    have hsk := HSK.out
    rw [if_neg t0] at hsk
    have HSK2 := Aside0.mk hsk
    have s0 : (tk == 0) = false := beq_eq_false_iff_ne.mpr t0
    have s0b : decide (tk = 0) = false := decide_eq_false t0
    clear t0 hsk HSK
    cases sk with
    | true =>
     have hh := HH.out
     simp only [if_true] at hh
     clear HH
     have HH := Aside0.mk hh
     clear hh
     go_wp2_with (first | (go_at_call 70; (refine (slices_ContainsFunc_int_int.calls k Al cl list _ (fun j => branch_town_first_2.f j a0_0 l0_1 tk) _ _ (Kd.R_reads' FE.out.hL).2.2 (Kd.R_reads' FE.out.hL).2.1 (first2_fn FE.out.tB (blk_below HP0.out FE.out.hB) (Kd.C_below HR0.out FE.out.hB) HC0.out TK.out) HSK2.out).mono ?_); rintro e w5 ⟨rfl, hb⟩; have n0_ := Aside0.mk (FE.out.below hb); have n1_ := Aside0.mk (blk_below TK.out hb); clear FE TK hb; have FE := n0_; have TK := n1_; clear n0_ n1_; clear ht_0 hp_1 hp_2 hq_0 hk_0; have ht_0 : w5.cell? ⟨tb, 0, none⟩ = some (.pointer (some ⟨g0, 0, none⟩)) := (blk_cell FE.out.tB 0).trans rfl; have hp_1 := drop_cell HX1.out FE.out.hB; have hp_2 := drop_cell HX2.out FE.out.hB; have hq_0 : w5.cell? ⟨gq, 0, none⟩ = some (.map (some m)) := (blk_cell FE.out.qB 0).trans rfl; have hk_0 : w5.cell? ⟨gt, 0, none⟩ = some (.int .i64 tk) := (blk_cell TK.out 0).trans rfl) | (at_mapUpdate; refine update_event FE.out.hM Try.underlying92 Try.underlying3 rfl _ _ _ rfl (i := (i : Int)) rfl rfl rfl ?_; intro w6 hm6 hg6; have n0_ := Aside0.mk (FE.out.upd hm6 hg6); clear FE ht_0 hp_1 hp_2 hq_0 hk_0 hm6 hg6; have FE := n0_; clear n0_))
     go_roundg k1
     case measure => omega
     case rel => exact ⟨i + 1, list, _, val_succ2 i (by have := HI.out; have := HLEN.out; omega), ⟨by have := HI.out; omega⟩, ⟨HH.out⟩, FE⟩
    | false =>
     have hh := HH.out
     simp only [Bool.false_eq_true, if_false] at hh
     obtain ⟨⟨d1, d2, d3⟩, hdt, hh⟩ := Option.bind_eq_some_iff.1 hh
     have HDT := Aside0.mk hdt
     have HH2 := Aside0.mk hh
     clear HH hdt hh
     go_upto_region 14 with (first | (go_at_call 70; (refine (slices_ContainsFunc_int_int.calls k Al cl list _ (fun j => branch_town_first_2.f j a0_0 l0_1 tk) _ _ (Kd.R_reads' FE.out.hL).2.2 (Kd.R_reads' FE.out.hL).2.1 (first2_fn FE.out.tB (blk_below HP0.out FE.out.hB) (Kd.C_below HR0.out FE.out.hB) HC0.out TK.out) HSK2.out).mono ?_); rintro e w5 ⟨rfl, hb⟩; have n0_ := Aside0.mk (FE.out.below hb); have n1_ := Aside0.mk (blk_below TK.out hb); clear FE TK hb; have FE := n0_; have TK := n1_; clear n0_ n1_; clear ht_0 hp_1 hp_2 hq_0 hk_0; have ht_0 : w5.cell? ⟨tb, 0, none⟩ = some (.pointer (some ⟨g0, 0, none⟩)) := (blk_cell FE.out.tB 0).trans rfl; have hp_1 := drop_cell HX1.out FE.out.hB; have hp_2 := drop_cell HX2.out FE.out.hB; have hq_0 : w5.cell? ⟨gq, 0, none⟩ = some (.map (some m)) := (blk_cell FE.out.qB 0).trans rfl; have hk_0 : w5.cell? ⟨gt, 0, none⟩ = some (.int .i64 tk) := (blk_cell TK.out 0).trans rfl) | ((with_reducible refine gate_dst (N := 58) rfl ?_); refine map_event ?hg (N := 58) ?hd ?hr ?_; (case hd => rfl); (case hg => rfl); (case hr => rfl); intro m2 hm w7 hmap hb; have HM2 := Aside0.mk (SetM.new hmap); have n0_ := Aside0.mk (FE.out.below hb); have n1_ := Aside0.mk (blk_below TK.out hb); have GM2 := Aside0.mk ((by rw [hm]; exact FE.out.hB.size) : w.heap.size ≤ m2); have NM := Aside0.mk ((by have := FE.out.hM.lt; rw [hm]; omega) : m ≠ m2); clear FE TK; have FE := n0_; have TK := n1_; clear n0_ n1_ hm hmap hb; clear ht_0 hp_1 hp_2 hq_0 hk_0; have ht_0 : w7.cell? ⟨tb, 0, none⟩ = some (.pointer (some ⟨g0, 0, none⟩)) := (blk_cell FE.out.tB 0).trans rfl; have hp_1 := drop_cell HX1.out FE.out.hB; have hp_2 := drop_cell HX2.out FE.out.hB; have hq_0 : w7.cell? ⟨gq, 0, none⟩ = some (.map (some m)) := (blk_cell FE.out.qB 0).trans rfl; have hk_0 : w7.cell? ⟨gt, 0, none⟩ = some (.int .i64 tk) := (blk_cell TK.out 0).trans rfl))
     obtain ⟨g2, hg2⟩ : ∃ g2, w7.heap.size = g2 := ⟨_, rfl⟩
     rw [hg2]
     obtain ⟨wq2, hwq⟩ : ∃ wq, w7.alloc (.cells #[.map (some m2)] 92) = wq := ⟨_, rfl⟩
     rw [hwq]
     have n0_ : Below w7.heap.size w7 wq2 := hwq ▸ below_alloc (Below.refl _ _) _
     have MB := Aside0.mk (hg2 ▸ hwq ▸ heap_alloc_new w7 _ : wq2.heap[g2]? = some (.cells #[.map (some m2)] 92 (0, 0)))
     have n1_ := Aside0.mk (FE.out.below n0_)
     have n2_ := Aside0.mk (blk_below TK.out n0_)
     have n3_ := Aside0.mk (HM2.out.below n0_)
     clear FE TK HM2 ht_0 hp_1 hp_2 hq_0 hk_0 n0_ hg2 hwq
     have FE := n1_; have TK := n2_; have HM2 := n3_
     clear n1_ n2_ n3_
     have ht_0 : wq2.cell? ⟨tb, 0, none⟩ = some (.pointer (some ⟨g0, 0, none⟩)) := (blk_cell FE.out.tB 0).trans rfl
     have hp_1 := drop_cell HX1.out FE.out.hB
     have hp_2 := drop_cell HX2.out FE.out.hB
     have hq_0 : wq2.cell? ⟨gq, 0, none⟩ = some (.map (some m)) := (blk_cell FE.out.qB 0).trans rfl
     have hk_0 : wq2.cell? ⟨gt, 0, none⟩ = some (.int .i64 tk) := (blk_cell TK.out 0).trans rfl
     have hm3 : ∀ w, (zeroValue 28).run Try.prog w = .ok (.slice none 0 0) w := fun w => by first | rfl | (go_simp; done)
     obtain ⟨vt, hlook, hRt, _, _⟩ := GrpM.lookup HG.out Try.underlying68 Try.underlying3 tk hm3
     obtain ⟨At, ct, hvt⟩ := Kd.R_slice hRt
     subst hvt
     have HRT := Aside0.mk (Kd.R_reads' hRt).2.2
     have hlk : (Instr.lookup 68 (.map (some mm)) (.int .i64 tk) false).run Try.prog wq2.drew = .ok (.slice At (toB l0_1 l0_1.length tk).length ct) wq2.drew := hlook _ (FE.out.hB.block mm HG.out.lt)
     obtain ⟨T, hT⟩ : ∃ T, toB l0_1 l0_1.length tk = T := ⟨_, rfl⟩
     have HTL := Aside0.mk (show T.length ≤ l0_1.length by rw [← hT]; exact toB_len _ _ _)
     rw [hT] at HRT hlk HH2 HDT
     clear hT hRt hlook hm3
     go_wp2_with fail
     go_region_held3 (fun w' => w'.cell? ⟨tb, 0, none⟩ = some (.pointer (some ⟨g0, 0, none⟩)) ∧ w'.cell? ⟨g0, 2, none⟩ = some (.map (some mm)) ∧ w'.cell? ⟨gt, 0, none⟩ = some (.int .i64 tk)) (go_keep) (fail)
     obtain ⟨wq3, hwq⟩ : ∃ wq, wq2.drew = wq := ⟨_, rfl⟩
     rw [hwq]
     have n0_ : Below wq2.heap.size wq2 wq3 := hwq ▸ below_drew1 (Below.refl _ _)
     have n1_ := Aside0.mk (FE.out.below n0_)
     have n2_ := Aside0.mk (blk_below TK.out n0_)
     have n3_ := Aside0.mk (HM2.out.below n0_)
     have n4_ := Aside0.mk (blk_below MB.out n0_)
     clear FE TK HM2 MB ht_0 hp_1 hp_2 hq_0 hk_0 n0_ hwq hlk
     have FE := n1_; have TK := n2_; have HM2 := n3_; have MB := n4_
     clear n1_ n2_ n3_ n4_
     go_wp2
     go_loopg [66] T.length (fun kq v66 w' => ∃ q : Nat, v66 = .int .i64 (q : Int) ∧ Aside0 (q + kq = T.length) ∧ Aside0 (FEnv w w' tb g0 gq m (.slice Al list.length cl) list gone) ∧ Aside0 (w'.heap[gt]? = some (.cells #[.int .i64 tk] 3 (0, 0))) ∧ Aside0 (w'.heap[g2]? = some (.cells #[.map (some m2)] 92 (0, 0))) ∧ Aside0 (SetM w' m2 (moreL (i : Int) (T.take q))))
     case atStart => exact ⟨0, rfl, ⟨by simp⟩, FE, TK, MB, ⟨by rw [List.take_zero, moreL_nil]; exact HM2.out⟩⟩
     case round =>
      clear FE TK MB HM2
      obtain ⟨q, rfl, HQ, FE, TK, MB, HM2⟩ := hrel
      have ht_0 : wr.cell? ⟨tb, 0, none⟩ = some (.pointer (some ⟨g0, 0, none⟩)) := (blk_cell FE.out.tB 0).trans rfl
      have hp_1 := drop_cell HX1.out FE.out.hB
      have hp_2 := drop_cell HX2.out FE.out.hB
      have hq_0 : wr.cell? ⟨gq, 0, none⟩ = some (.map (some m)) := (blk_cell FE.out.qB 0).trans rfl
      have hm_0 : wr.cell? ⟨g2, 0, none⟩ = some (.map (some m2)) := (blk_cell MB.out 0).trans rfl
      cases gk with
      | zero =>
       have hq := HQ.out
       have d4b : decide ((q : Int) < (T.length : Int)) = false := decide_eq_false (by omega)
       have d4b2 : decide (q < T.length) = false := decide_eq_false (by omega)
       have hM2 := HM2.out
       rw [List.take_of_length_le (by omega)] at hM2
       clear HM2 hq
       have HM2 := Aside0.mk hM2
       clear hM2
       cases d3 with
       | false =>
        have hh := HH2.out
        simp only [Bool.false_and, Bool.false_eq_true, if_false] at hh
        clear HH2
        have HH := Aside0.mk hh
        clear hh
        go_wp2_with (first | (go_at_call 46; (refine (branch_town_cheapest.calls k g0 a0_0 _ c0_1 l0_1 (some mm) A1 c1 l1 _ (fun j => some (gone j || moreL (i : Int) T j)) d1 d2 _ _ (blk_below HP0.out FE.out.hB) (Kd.C_below HR0.out FE.out.hB) HC0.out (Kd.C_below HR1.out FE.out.hB) HC1.out (first3_fn FE.out.qB MB.out FE.out.hM HM2.out) HDT.out).mono ?_); rintro e w9 ⟨ve, rfl, ho, hb⟩; have n0_ := Aside0.mk (FE.out.below hb); have n1_ := Aside0.mk (blk_below MB.out hb); have n2_ := Aside0.mk (HM2.out.below hb); clear FE MB HM2 ho hb ht_0 hp_1 hp_2 hq_0 hm_0; have FE := n0_; have MB := n1_; have HM2 := n2_; clear n0_ n1_ n2_; have hq_0 : w9.cell? ⟨gq, 0, none⟩ = some (.map (some m)) := (blk_cell FE.out.qB 0).trans rfl; have hm_0 : w9.cell? ⟨g2, 0, none⟩ = some (.map (some m2)) := (blk_cell MB.out 0).trans rfl) | (at_mapUpdate; refine update_event FE.out.hM Try.underlying92 Try.underlying3 rfl _ _ _ rfl (i := (i : Int)) rfl rfl rfl ?_; intro w6 hm6 hg6; have n0_ := Aside0.mk (FE.out.upd hm6 hg6); clear FE hq_0 hm_0 hm6 hg6; have FE := n0_; clear n0_))
        go_roundg k1
        case measure => omega
        case rel => exact ⟨i + 1, list, _, val_succ2 i (by have := HI.out; have := HLEN.out; omega), ⟨by have := HI.out; omega⟩, ⟨HH.out⟩, FE⟩
       | true =>
        by_cases t5 : d1 = b1
        case neg =>
         have s5 : (d1 == b1) = false := beq_eq_false_iff_ne.mpr t5
         have s5b : decide (d1 = b1) = false := decide_eq_false t5
         clear t5
         have hh := HH2.out
         simp only [s5, Bool.and_false, Bool.false_eq_true, if_false] at hh
         clear HH2
         have HH := Aside0.mk hh
         clear hh
         go_wp2_with (first | (go_at_call 46; (refine (branch_town_cheapest.calls k g0 a0_0 _ c0_1 l0_1 (some mm) A1 c1 l1 _ (fun j => some (gone j || moreL (i : Int) T j)) d1 d2 _ _ (blk_below HP0.out FE.out.hB) (Kd.C_below HR0.out FE.out.hB) HC0.out (Kd.C_below HR1.out FE.out.hB) HC1.out (first3_fn FE.out.qB MB.out FE.out.hM HM2.out) HDT.out).mono ?_); rintro e w9 ⟨ve, rfl, ho, hb⟩; have n0_ := Aside0.mk (FE.out.below hb); have n1_ := Aside0.mk (blk_below MB.out hb); have n2_ := Aside0.mk (HM2.out.below hb); clear FE MB HM2 ho hb ht_0 hp_1 hp_2 hq_0 hm_0; have FE := n0_; have MB := n1_; have HM2 := n2_; clear n0_ n1_ n2_; have hq_0 : w9.cell? ⟨gq, 0, none⟩ = some (.map (some m)) := (blk_cell FE.out.qB 0).trans rfl; have hm_0 : w9.cell? ⟨g2, 0, none⟩ = some (.map (some m2)) := (blk_cell MB.out 0).trans rfl) | (at_mapUpdate; refine update_event FE.out.hM Try.underlying92 Try.underlying3 rfl _ _ _ rfl (i := (i : Int)) rfl rfl rfl ?_; intro w6 hm6 hg6; have n0_ := Aside0.mk (FE.out.upd hm6 hg6); clear FE hq_0 hm_0 hm6 hg6; have FE := n0_; clear n0_))
         go_roundg k1
         case measure => omega
         case rel => exact ⟨i + 1, list, _, val_succ2 i (by have := HI.out; have := HLEN.out; omega), ⟨by have := HI.out; omega⟩, ⟨HH.out⟩, FE⟩
        have s5 : (d1 == b1) = true := beq_iff_eq.mpr t5
        have s5b : decide (d1 = b1) = true := decide_eq_true t5
        clear t5
        have hh := HH2.out
        simp only [s5, Bool.and_true, if_true] at hh
        by_cases hll : list.length < 1000000
        case neg => rw [if_neg hll] at hh; exact absurd hh (by simp)
        rw [if_pos hll] at hh
        have HLL := Aside0.mk hll
        clear HH2 hll
        have HH := Aside0.mk hh
        clear hh
        go_wp2_with (first | (go_at_call 46; (refine (branch_town_cheapest.calls k g0 a0_0 _ c0_1 l0_1 (some mm) A1 c1 l1 _ (fun j => some (gone j || moreL (i : Int) T j)) d1 d2 _ _ (blk_below HP0.out FE.out.hB) (Kd.C_below HR0.out FE.out.hB) HC0.out (Kd.C_below HR1.out FE.out.hB) HC1.out (first3_fn FE.out.qB MB.out FE.out.hM HM2.out) HDT.out).mono ?_); rintro e w9 ⟨ve, rfl, ho, hb⟩; have n0_ := Aside0.mk (FE.out.below hb); have n1_ := Aside0.mk (blk_below MB.out hb); have n2_ := Aside0.mk (HM2.out.below hb); clear FE MB HM2 ho hb ht_0 hp_1 hp_2 hq_0 hm_0; have FE := n0_; have MB := n1_; have HM2 := n2_; clear n0_ n1_ n2_; have hq_0 : w9.cell? ⟨gq, 0, none⟩ = some (.map (some m)) := (blk_cell FE.out.qB 0).trans rfl; have hm_0 : w9.cell? ⟨g2, 0, none⟩ = some (.map (some m2)) := (blk_cell MB.out 0).trans rfl) | ((with_reducible refine gate_builtin (b := .append) (xs := #[.tmp 90, .tmp 92]) rfl ?_); at_builtin; refine Kd.R_append (Kd.int .i64) (w0 := w) w.heap.size rfl (.tmp 90) (.tmp 92) 28 3 (.int .i64 0) 8 rfl Try.underlying28 info3 rfl (by decide) (by omega) (.slice Al list.length cl) list (i : Int) [.int .i64 (i : Int)] (fun _ => True) (fun _ => False) rfl (by first | (go_simp; done) | (go_simp; rfl)) ?aP (fun _ hk => hk.elim) ?aF ?aO ?aB ?aS ?aL ?_; (case aP => exact rfl); (case aB => exact (by repeat (first | exact FE.out.hB | apply below_alloc | apply below_drew1))); (case aF => exact (fun _ _ => trivial)); (case aO => exact (by (with_reducible repeat (first | apply Kd.R_alloc | apply Kd.R_drewN | apply Kd.R_drew)); exact FE.out.hL)); (case aS => exact (below_size (by repeat (first | exact FE.out.hB | apply below_alloc | apply below_drew1)))); (case aL => have := HLL.out; omega); intro v2 w10 ho hb hg hat; have hg2 : w9.grownBy w10 (Value.slice Al list.length cl).ownBlock := (by first | exact hg | exact grown_then (below_alloc (Below.refl _ _) _) hg); have n1_ := Aside0.mk (blk_grown MB.out hg2 (Kd.R_ne FE.out.hL MB.out (by decide))); have n2_ := Aside0.mk (HM2.out.row FE.out.hL hg2); have n0_ := Aside0.mk (FE.out.app hb hg2 ho); clear FE MB HM2 ho hb hg hat hg2 hq_0 hm_0; have FE := n0_; have MB := n1_; have HM2 := n2_; clear n0_ n1_ n2_; have hq_0 : w10.cell? ⟨gq, 0, none⟩ = some (.map (some m)) := (blk_cell FE.out.qB 0).trans rfl; have hm_0 : w10.cell? ⟨g2, 0, none⟩ = some (.map (some m2)) := (blk_cell MB.out 0).trans rfl) | (at_range; refine range_event HM2.out Try.underlying92 rfl _ rfl rfl ?_; intro r w11 cnt hr hI hb; have n0_ := Aside0.mk (FE.out.below hb); have GR := Aside0.mk (Nat.le_trans FE.out.hB.size hr); have HI3 := Aside0.mk hI; clear FE MB HM2 hr hI hb hq_0 hm_0; have FE := n0_; clear n0_))
        obtain ⟨Tm, hTm⟩ : ∃ Tm, moreL (i : Int) T = Tm := ⟨_, rfl⟩
        rw [hTm] at HI3 HH
        clear hTm HDT
        go_frame
        go_loopg [21] cnt (fun kq v21 w' => ∃ dn gd : Int → Bool, Aside0 (∀ j, gd j = (gone j || dn j)) ∧ Aside0 (IterM w' m2 r Tm dn kq) ∧ Aside0 (FEnv w w' tb g0 gq m v2 (list ++ [(i : Int)]) gd))
        case atStart => exact ⟨fun _ => false, gone, ⟨fun j => by simp⟩, HI3, FE⟩
        case round =>
         clear FE HI3
         obtain ⟨dn, gd, HD, HI3, FE⟩ := hrel
         go_wp2_with (first | (at_next; refine next_event HI3.out rfl _ rfl rfl ?_ ?_; rotate_left; (intro y w12 cnt1 hgx hdx hI2 hlt hg hen; have n0_ := Aside0.mk (FE.out.iter HI3.out GR.out hg); clear FE HI3; have FE := n0_; have HI3 := Aside0.mk hI2; have HLT := Aside0.mk hlt; clear n0_ hI2 hg hgx hdx hlt; have hq_0 : w12.cell? ⟨gq, 0, none⟩ = some (.map (some m)) := (blk_cell FE.out.qB 0).trans rfl); rotate_left; (intro h0 hd; have HDD := Aside0.mk hd; clear h0 hd)) | (at_mapUpdate; refine update_event FE.out.hM Try.underlying92 Try.underlying3 rfl _ _ _ rfl (i := y) rfl rfl rfl ?_; intro w13 hm13 hg13; have n0_ := Aside0.mk (FE.out.upd hm13 hg13); have n1_ := Aside0.mk (HI3.out.turn hg13 (fun h => NM.out h.symm) (HI3.out.ne_map FE.out.hM)); clear FE HI3 hq_0 hen hm13 hg13; have FE := n0_; have HI3 := n1_; clear n0_ n1_))
         ·go_roundg k1
          case measure => omega
          case rel => exact ⟨i + 1, list ++ [(i : Int)], gd, val_succ2 i (by have := HI.out; have := HLEN.out; omega), ⟨by have := HI.out; omega⟩, ⟨by have hh := HH.out; have e : (fun j => gone j || Tm j) = gd := funext (fun j => by rw [HD.out j, HDD.out j]); rw [← e]; exact hh⟩, FE⟩
         ·go_roundg cnt1
          case measure => exact HLT.out
          case rel => exact ⟨fun j => decide (j = y) || dn j, fun j => decide (j = y) || gd j, ⟨fun j => by simp only [HD.out j]; cases decide (j = y) <;> cases gone j <;> cases dn j <;> rfl⟩, HI3, FE⟩
      | succ k2 =>
       have hj0 : (0 : Int) ≤ (q : Int) := Int.natCast_nonneg _
       have hj1 : (q : Int) < (T.length : Int) := by have := HQ.out; omega
       have d4b : decide ((q : Int) < (T.length : Int)) = true := decide_eq_true hj1
       have hj2 : q < T.length := by omega
       have d4b2 : decide (q < T.length) = true := decide_eq_true hj2
       obtain ⟨ade, e, hy_0⟩ := Kd.at_int HRT.out (q : Int) hj0 hj1
       cases e
       have hts := take_rdI T q hj2
       obtain ⟨y, hy⟩ : ∃ y, rd T (q : Int) = y := ⟨_, rfl⟩
       rw [hy] at hy_0 hts
       simp only [Int.toNat_natCast] at hy_0
       replace hy_0 := drop_cell hy_0 FE.out.hB
       have HTS := Aside0.mk hts
       clear hy hts
       replace hj0 := eq_true hj0
       replace hj1 := eq_true hj1
       replace hj2 := eq_true hj2
       by_cases t6 : y = (i : Int)
       ·have s6 : (y == (i : Int)) = true := beq_iff_eq.mpr t6
        have s6b : (y != (i : Int)) = false := bne_eq_false_iff_eq.mpr t6
        have s6c : decide (y = (i : Int)) = true := decide_eq_true t6
        have T6 := Aside0.mk t6
        clear t6
        go_wp2
        go_roundg k2
        case measure => omega
        case rel => exact ⟨q + 1, val_succ2 q (by have := HQ.out; have := HTL.out; have := HLEN.out; omega), ⟨by have := HQ.out; omega⟩, FE, TK, MB, ⟨by rw [HTS.out, T6.out, moreL_snoc_eq]; exact HM2.out⟩⟩
       ·have s6 : (y == (i : Int)) = false := beq_eq_false_iff_ne.mpr t6
        have s6b : (y != (i : Int)) = true := bne_iff_ne.mpr t6
        have s6c : decide (y = (i : Int)) = false := decide_eq_false t6
        have T6 := Aside0.mk t6
        clear t6
        go_wp2_with (first | (at_mapUpdate; refine update_event HM2.out Try.underlying92 Try.underlying3 rfl _ _ _ rfl (i := y) rfl rfl rfl ?_; intro w6 hm6 hg6; have n0_ := Aside0.mk (FE.out.other HM2.out NM.out GM2.out hg6); have n1_ := Aside0.mk (blk_grown TK.out hg6 (by have := HM2.out.ne_cells TK.out; intro h; injection h with h; exact this h.symm)); have n2_ := Aside0.mk (blk_grown MB.out hg6 (by have := HM2.out.ne_cells MB.out; intro h; injection h with h; exact this h.symm)); clear FE TK MB HM2 ht_0 hp_1 hp_2 hq_0 hm_0 hy_0 hg6; have FE := n0_; have TK := n1_; have MB := n2_; have HM2 := Aside0.mk hm6; clear n0_ n1_ n2_ hm6))
        go_roundg k2
        case measure => omega
        case rel => exact ⟨q + 1, val_succ2 q (by have := HQ.out; have := HTL.out; have := HLEN.out; omega), ⟨by have := HQ.out; omega⟩, FE, TK, MB, ⟨by rw [HTS.out, moreL_snoc_ne _ _ _ T6.out]; exact HM2.out⟩⟩
end Go.Proofs.Ytpmadffgdfholaa.B
namespace Go.Proofs.Ytpmadffgdfholaa.B
open Go.RowKit Go.Proofs.YtpmadffgdfholaaW.PrintWords Go.Proofs.YtpmadffgdfholaaW.PrintLast Go.Proofs.YtpmadffgdfholaaW.PrintMore
attribute [local go_sem] max2_int min2_int max_two min_two max_three min_three max_four min_four   -- for this text's walks alone
set_option linter.unusedVariables false
set_option linter.unusedSimpArgs false
mutual
def branch_town_narrow.l0 : Nat → (Int → Option Bool) → Int → Int → Int → Int → List (S30) → Option (Int × Int)
  | 0, _, _, _, _, _, _ => none
  | k + 1, x1, x6, x7, x8, x1000, x1001 => (branch_town_everybody.f x1000 x1001).bind fun t101 => (if x8 ≤ t101 then ((branch_town_entering.f k x1000 x1001 x8).bind fun t102 => (branch_town_narrow.l1 k x1 x6 x7 x8 0 t102 (t102.length : Int) 0 x1000 x1001)) else (some (x6, x7)))
def branch_town_narrow.l1 : Nat → (Int → Option Bool) → Int → Int → Int → Int → List Int → Int → Int → Int → List (S30) → Option (Int × Int)
  | 0, _, _, _, _, _, _, _, _, _, _ => none
  | k + 1, x1, x6, x7, x8, x9, x20, x21, x22, x1000, x1001 => if x22 < x21 then (if 0 ≤ x22 then (if x22 < (x20.length : Int) then ((x1 (rd x20 x22)).bind fun t106 => (if t106 = true then (branch_town_narrow.l1 k x1 x6 x7 x8 x9 x20 x21 (wrap64 (x22 + 1)) x1000 x1001) else (branch_town_narrow.l1 k x1 x6 x7 x8 (wrap64 (x9 + 1)) x20 x21 (wrap64 (x22 + 1)) x1000 x1001))) else (none)) else (none)) else (if x6 < 0 then (branch_town_narrow.l0 k x1 x9 x8 (wrap64 (x8 + 2)) x1000 x1001) else (if x9 < x6 then (branch_town_narrow.l0 k x1 x9 x8 (wrap64 (x8 + 2)) x1000 x1001) else (branch_town_narrow.l0 k x1 x6 x7 (wrap64 (x8 + 2)) x1000 x1001)))
end
def branch_town_narrow.f (k : Nat) (a0_0 : Int) (l0_1 : List (S30)) (a1 : (Int → Option Bool)) : Option (Int × Int) := branch_town_narrow.l0 k a1 (-1) 0 2 a0_0 l0_1
theorem branch_town_narrow.mono_l : ∀ k, (∀ y0 y1 y2 y3 y4 y5, LeO (branch_town_narrow.l0 k y0 y1 y2 y3 y4 y5) (branch_town_narrow.l0 (k + 1) y0 y1 y2 y3 y4 y5)) ∧ (∀ y0 y1 y2 y3 y4 y5 y6 y7 y8 y9, LeO (branch_town_narrow.l1 k y0 y1 y2 y3 y4 y5 y6 y7 y8 y9) (branch_town_narrow.l1 (k + 1) y0 y1 y2 y3 y4 y5 y6 y7 y8 y9))
  | 0 => ⟨fun _ _ _ _ _ _ r h => by simp [branch_town_narrow.l0] at h, fun _ _ _ _ _ _ _ _ _ _ r h => by simp [branch_town_narrow.l1] at h⟩
  | k + 1 => by
    obtain ⟨ih0, ih1⟩ := branch_town_narrow.mono_l k
    refine ⟨?_, ?_⟩
    · intro y0 y1 y2 y3 y4 y5
      unfold branch_town_narrow.l0
      repeat' first
      | (with_reducible exact ih0 _ _ _ _ _ _)
      | (with_reducible exact ih1 _ _ _ _ _ _ _ _ _ _)
      | (with_reducible exact branch_town_entering.mono _ _ _ _)
      | (with_reducible exact LeO.refl _)
      | (with_reducible exact LeO.none _)
      | (with_reducible refine LeO.ite ?_ ?_)
      | (with_reducible refine LeO.bind ?_ (fun _ => ?_))
      | exact ih0 _ _ _ _ _ _
      | exact ih1 _ _ _ _ _ _ _ _ _ _
      | exact branch_town_entering.mono _ _ _ _
      | exact LeO.none _
      | refine LeO.ite ?_ ?_
      | refine LeO.bind ?_ (fun _ => ?_)
    · intro y0 y1 y2 y3 y4 y5 y6 y7 y8 y9
      unfold branch_town_narrow.l1
      repeat' first
      | (with_reducible exact ih0 _ _ _ _ _ _)
      | (with_reducible exact ih1 _ _ _ _ _ _ _ _ _ _)
      | (with_reducible exact branch_town_entering.mono _ _ _ _)
      | (with_reducible exact LeO.refl _)
      | (with_reducible exact LeO.none _)
      | (with_reducible refine LeO.ite ?_ ?_)
      | (with_reducible refine LeO.bind ?_ (fun _ => ?_))
      | exact ih0 _ _ _ _ _ _
      | exact ih1 _ _ _ _ _ _ _ _ _ _
      | exact branch_town_entering.mono _ _ _ _
      | exact LeO.none _
      | refine LeO.ite ?_ ?_
      | refine LeO.bind ?_ (fun _ => ?_)
theorem branch_town_narrow.mono : ∀ a0 a1 a2 k, LeO (branch_town_narrow.f k a0 a1 a2) (branch_town_narrow.f (k + 1) a0 a1 a2) := by
  intro a0 a1 a2 k
  obtain ⟨ih0, ih1⟩ := branch_town_narrow.mono_l k
  unfold branch_town_narrow.f
  repeat' first
      | (with_reducible exact ih0 _ _ _ _ _ _)
      | (with_reducible exact ih1 _ _ _ _ _ _ _ _ _ _)
      | (with_reducible exact branch_town_entering.mono _ _ _ _)
      | (with_reducible exact LeO.refl _)
      | (with_reducible exact LeO.none _)
      | (with_reducible refine LeO.ite ?_ ?_)
      | (with_reducible refine LeO.bind ?_ (fun _ => ?_))
      | exact ih0 _ _ _ _ _ _
      | exact ih1 _ _ _ _ _ _ _ _ _ _
      | exact branch_town_entering.mono _ _ _ _
      | exact LeO.none _
      | refine LeO.ite ?_ ?_
      | refine LeO.bind ?_ (fun _ => ?_)
set_option maxHeartbeats 8000000 in
set_option maxRecDepth 100000 in
theorem branch_town_narrow.calls (k : Nat) (g0 : Nat) (a0_0 : Int) (A0_1 : Option Addr) (c0_1 : Nat) (l0_1 : List (S30)) (a0_2 : Option Nat) (vf1 : Value) (a1 : (Int → Option Bool)) (r1 : Int) (r2 : Int) (w : World) (hP0 : w.heap[g0]? = some (.cells #[.int .i64 a0_0, .slice A0_1 l0_1.length c0_1, .map a0_2] 70 (0, 0))) (hr0_1 : Kd.C k30 w A0_1 l0_1.length l0_1) (hc0_1 : l0_1.length ≤ c0_1) (hF1 : IsLook Try.prog 92 w vf1 a1) (h : branch_town_narrow.f k a0_0 l0_1 a1 = some (r1, r2)) :
  Calls Try.prog 53 #[.pointer (some ⟨g0, 0, none⟩), vf1] w fun e w' => e = .returned (.tuple #[.int .i64 r1, .int .i64 r2]) ∧ Below w.heap.size w w' := by
 have HP0 := Aside0.mk hP0
 clear hP0
 have HR0_1 := Aside0.mk hr0_1
 have HC0_1 := Aside0.mk hc0_1
 clear hr0_1 hc0_1
 have HF1 := Aside0.mk hF1
 clear hF1
 have HB := Aside0.mk (Below.refl w.heap.size w)
 have H : (branch_town_narrow.l0 k a1 (-1) 0 2 a0_0 l0_1) = some (r1, r2) := h
 clear h
 have H' := Aside0.mk H
 clear H
 go_enter Try.func53, Try.ntmps53
 go_wp2
 go_loopg [6, 7, 8] k (fun kq v6 v7 v8 w' => ∃ (x6_1 : Int) (x7_1 : Int) (x8_1 : Int), v6 = .int .i64 x6_1 ∧ v7 = .int .i64 x7_1 ∧ v8 = .int .i64 x8_1 ∧ Aside0 (branch_town_narrow.l0 kq a1 x6_1 x7_1 x8_1 a0_0 l0_1 = some (r1, r2)) ∧ Aside0 (kq ≤ k) ∧ Aside0 (Below w.heap.size w w'))
 case atStart => exact ⟨((-1)), (0), (2), (by first | rfl | (simp; done) | (simp [*]; done)), (by first | rfl | (simp; done) | (simp [*]; done)), (by first | rfl | (simp; done) | (simp [*]; done)), H', ⟨Nat.le_refl _⟩, ⟨by repeat (first | (with_reducible first | exact HB.out | apply below_alloc | apply pw_below_drewN | apply below_drew1) | exact HB.out)⟩⟩
 case round =>
  clear H'
  try clear p2
  obtain ⟨x6_1, x7_1, x8_1, rfl, rfl, rfl, HA, HK1, HB⟩ := hrel
  cases gk with
  | zero => exact absurd HA.out (by simp [branch_town_narrow.l0])
  | succ k1 =>
   have H := HA.out
   clear HA
   simp only [branch_town_narrow.l0] at H
   replace H := Option.bind_eq_some_iff.mp H
   obtain ⟨t101, A30, H⟩ := H
   replace H : (if x8_1 ≤ t101 then ((branch_town_entering.f k1 a0_0 l0_1 x8_1).bind fun t102 => (branch_town_narrow.l1 k1 a1 x6_1 x7_1 x8_1 0 t102 (t102.length : Int) 0 a0_0 l0_1)) else (some (x6_1, x7_1))) = some (r1, r2) := H
   have A3 := Aside0.mk A30
   clear A30
   by_cases c4 : x8_1 ≤ t101
   ·rw [if_pos c4] at H
    have c4b0 : decide (x8_1 ≤ t101) = true := decide_eq_true c4
    clear c4
    replace H := Option.bind_eq_some_iff.mp H
    obtain ⟨t102, A50, H⟩ := H
    replace H : (branch_town_narrow.l1 k1 a1 x6_1 x7_1 x8_1 0 t102 (t102.length : Int) 0 a0_0 l0_1) = some (r1, r2) := H
    have A5 := Aside0.mk A50
    clear A50
    have H' := Aside0.mk H
    clear H
    go_wp2_with (first | ((with_reducible refine gate_callee (f := 74) rfl ?_); refine goesL_ (some 14) rfl rfl Try.func74 (by kernel_rfl) rfl #[.pointer (some ⟨g0, 0, none⟩)] rfl (by (try simp only [List.map_toArray, List.map_cons, List.map_nil]); first | done | rfl | (simp only [List.length_drop, List.length_take]; rfl)) ?_; (with_reducible refine (branch_town_everybody.calls g0 a0_0 A0_1 c0_1 l0_1 a0_2 t101 _ ?side1 ?side2 ?side3 A3.out).mono ?_); (case side1 => exact ((show Below _ _ _ from by repeat (first | (with_reducible first | exact HB.out | apply below_alloc | apply pw_below_drewN | apply below_drew1) | exact HB.out)).block _ (blk_lt HP0.out)).trans HP0.out); (case side2 => repeat (first | exact (Kd.C_below HR0_1.out HB.out) | (with_reducible refine Kd.C_alloc ?_ _) | (with_reducible refine Kd.C_drewN ?_ _) | (with_reducible refine Kd.C_drew ?_))); (case side3 => exact HC0_1.out); rintro e w' ⟨rfl, ⟨nd, rfl⟩⟩; refine ⟨_, rfl, ?_⟩) | ((with_reducible refine gate_callee (f := 59) rfl ?_); refine goesL_ (some 20) rfl rfl Try.func59 (by kernel_rfl) rfl #[.pointer (some ⟨g0, 0, none⟩), .int .i64 x8_1] rfl (by (try simp only [List.map_toArray, List.map_cons, List.map_nil]); first | done | rfl | (simp only [List.length_drop, List.length_take]; rfl)) ?_; (with_reducible refine (branch_town_entering.calls k1 g0 a0_0 A0_1 c0_1 l0_1 a0_2 x8_1 t102 _ ?side1 ?side2 ?side3 A5.out).mono ?_); (case side1 => exact ((show Below _ _ _ from by repeat (first | (with_reducible first | exact HB.out | apply below_alloc | apply pw_below_drewN | apply below_drew1) | exact HB.out)).block _ (blk_lt HP0.out)).trans HP0.out); (case side2 => repeat (first | exact (Kd.C_below HR0_1.out (by repeat (first | (with_reducible first | exact HB.out | apply below_alloc | apply pw_below_drewN | apply below_drew1) | exact HB.out))) | (with_reducible refine Kd.C_alloc ?_ _) | (with_reducible refine Kd.C_drewN ?_ _) | (with_reducible refine Kd.C_drew ?_))); (case side3 => exact HC0_1.out); rintro e w6 ⟨v103, rfl, ho0, hb⟩; refine ⟨_, rfl, ?_⟩; have n0_ := Aside0.mk (Kd.R_lower ho0 (below_size (by repeat (first | (with_reducible first | exact HB.out | apply below_alloc | apply pw_below_drewN | apply below_drew1) | exact HB.out)))); have n1_ := Aside0.mk (below_step (by repeat (first | (with_reducible first | exact HB.out | apply below_alloc | apply pw_below_drewN | apply below_drew1) | exact HB.out)) hb); clear HB; have HO104 := n0_; have HB := n1_; clear n0_ n1_; (try clear hb); (try clear hb2); (try clear hk); (try clear hi); (try clear ho0); obtain ⟨Ao7, co7, eo7⟩ := Kd.R_slice HO104.out; subst eo7))
    go_loopg [9, 22] k1 (fun kq v9 v22 w' => ∃ (x9_2 : Int) (x22_2 : Int), v9 = .int .i64 x9_2 ∧ v22 = .int .i64 x22_2 ∧ Aside0 (branch_town_narrow.l1 kq a1 x6_1 x7_1 x8_1 x9_2 t102 (t102.length : Int) x22_2 a0_0 l0_1 = some (r1, r2)) ∧ Aside0 (kq ≤ k1) ∧ Aside0 (Kd.R (Kd.int .i64) 3 w' w.heap.size (fun _ => True) (.slice Ao7 t102.length co7) t102) ∧ Aside0 (Below w.heap.size w w'))
    case atStart => exact ⟨(0), (0), (by first | rfl | (simp; done) | (simp [*]; done)), (by first | rfl | (simp; done) | (simp [*]; done)), H', ⟨Nat.le_refl _⟩, ⟨by (with_reducible repeat (first | apply Kd.R_alloc | apply Kd.R_drewN | apply Kd.R_drew)); exact HO104.out⟩, ⟨by repeat (first | (with_reducible first | exact HB.out | apply below_alloc | apply pw_below_drewN | apply below_drew1) | exact HB.out)⟩⟩
    case round =>
     clear H'
     try clear p2
     try clear c4
     try clear c4b0
     try clear c5
     try clear c7
     try clear p2
     obtain ⟨x9_2, x22_2, rfl, rfl, HA, HK2, HO_20, HB⟩ := hrel
     cases gk with
     | zero => exact absurd HA.out (by simp [branch_town_narrow.l1])
     | succ k2 =>
      have H := HA.out
      clear HA
      simp only [branch_town_narrow.l1] at H
      by_cases c8 : x22_2 < (t102.length : Int)
      ·rw [if_pos c8] at H
       have c8b0 : decide (x22_2 < (t102.length : Int)) = true := decide_eq_true c8
       clear c8
       by_cases c9 : 0 ≤ x22_2
       ·rw [if_pos c9] at H
        have c9b0 : decide (0 ≤ x22_2) = true := decide_eq_true c9
        clear c9
        by_cases c10 : x22_2 < (t102.length : Int)
        ·rw [if_pos c10] at H
         have c10b0 : decide (x22_2 < (t102.length : Int)) = true := decide_eq_true c10
         clear c10
         replace H := Option.bind_eq_some_iff.mp H
         obtain ⟨t106, A110, H⟩ := H
         replace H : (if t106 = true then (branch_town_narrow.l1 k2 a1 x6_1 x7_1 x8_1 x9_2 t102 (t102.length : Int) (wrap64 (x22_2 + 1)) a0_0 l0_1) else (branch_town_narrow.l1 k2 a1 x6_1 x7_1 x8_1 (wrap64 (x9_2 + 1)) t102 (t102.length : Int) (wrap64 (x22_2 + 1)) a0_0 l0_1)) = some (r1, r2) := H
         have A11 := Aside0.mk A110
         clear A110
         by_cases c12 : t106 = true
         ·subst c12
          have H1 : (branch_town_narrow.l1 k2 a1 x6_1 x7_1 x8_1 x9_2 t102 (t102.length : Int) (wrap64 (x22_2 + 1)) a0_0 l0_1) = some (r1, r2) := by rw [if_pos rfl] at H; exact H
          clear H
          have H := H1
          clear H1
          have H' := Aside0.mk H
          clear H
          have p105 : 0 ≤ (x22_2 : Int) := of_decide_eq_true (by first | (with_reducible assumption) | assumption)
          have q105 : x22_2 < (t102.length : Int) := of_decide_eq_true (by first | (with_reducible assumption) | assumption)
          obtain ⟨ad105, e105, hx105_0⟩ := Kd.at_int (Kd.R_reads' HO_20.out).2.2 x22_2 p105 q105
          cases e105
          replace p105 := eq_true p105
          replace q105 := eq_true q105
          go_wp2_with (first | ((with_reducible refine gate_dst (N := 28) rfl ?_); refine goesK_ (some 28) rfl rfl HF1.out rfl rfl (i := (rd t102 x22_2)) rfl ?sideB A11.out ?_; (case sideB => exact by repeat (first | (with_reducible first | exact HB.out | apply below_alloc | apply pw_below_drewN | apply below_drew1) | exact HB.out)); intro w13 hb; have n0_ := Aside0.mk (Kd.R_below (by (with_reducible repeat (first | apply Kd.R_alloc | apply Kd.R_drewN | apply Kd.R_drew)); exact HO_20.out) hb); have n1_ := Aside0.mk (below_step (by repeat (first | (with_reducible first | exact HB.out | apply below_alloc | apply pw_below_drewN | apply below_drew1) | exact HB.out)) hb); clear HO_20; clear HB; have HO_20 := n0_; have HB := n1_; clear n0_ n1_; (try clear hb); (try clear hb2); (try clear hk); (try clear hi)))
          go_roundg k2
          case measure => have := HK1.out; have := HK2.out; omega
          case rel => exact ⟨(x9_2), (wrap64 (x22_2 + 1)), (by first | rfl | (simp; done) | (simp [*]; done)), (by first | rfl | (simp; done) | (simp [*]; done)), H', ⟨by have := HK1.out; have := HK2.out; omega⟩, ⟨by (with_reducible repeat (first | apply Kd.R_alloc | apply Kd.R_drewN | apply Kd.R_drew)); exact HO_20.out⟩, ⟨by repeat (first | (with_reducible first | exact HB.out | apply below_alloc | apply pw_below_drewN | apply below_drew1) | exact HB.out)⟩⟩
         ·replace c12 := Bool.eq_false_iff.mpr c12
          subst c12
          have H1 : (branch_town_narrow.l1 k2 a1 x6_1 x7_1 x8_1 (wrap64 (x9_2 + 1)) t102 (t102.length : Int) (wrap64 (x22_2 + 1)) a0_0 l0_1) = some (r1, r2) := by rw [if_neg (show ¬ (false = true) by decide)] at H; exact H
          clear H
          have H := H1
          clear H1
          have H' := Aside0.mk H
          clear H
          have p105 : 0 ≤ (x22_2 : Int) := of_decide_eq_true (by first | (with_reducible assumption) | assumption)
          have q105 : x22_2 < (t102.length : Int) := of_decide_eq_true (by first | (with_reducible assumption) | assumption)
          obtain ⟨ad105, e105, hx105_0⟩ := Kd.at_int (Kd.R_reads' HO_20.out).2.2 x22_2 p105 q105
          cases e105
          replace p105 := eq_true p105
          replace q105 := eq_true q105
          go_wp2_with (first | ((with_reducible refine gate_dst (N := 28) rfl ?_); refine goesK_ (some 28) rfl rfl HF1.out rfl rfl (i := (rd t102 x22_2)) rfl ?sideB A11.out ?_; (case sideB => exact by repeat (first | (with_reducible first | exact HB.out | apply below_alloc | apply pw_below_drewN | apply below_drew1) | exact HB.out)); intro w14 hb; have n0_ := Aside0.mk (Kd.R_below (by (with_reducible repeat (first | apply Kd.R_alloc | apply Kd.R_drewN | apply Kd.R_drew)); exact HO_20.out) hb); have n1_ := Aside0.mk (below_step (by repeat (first | (with_reducible first | exact HB.out | apply below_alloc | apply pw_below_drewN | apply below_drew1) | exact HB.out)) hb); clear HO_20; clear HB; have HO_20 := n0_; have HB := n1_; clear n0_ n1_; (try clear hb); (try clear hb2); (try clear hk); (try clear hi)))
          go_roundg k2
          case measure => have := HK1.out; have := HK2.out; omega
          case rel => exact ⟨(wrap64 (x9_2 + 1)), (wrap64 (x22_2 + 1)), (by first | rfl | (simp; done) | (simp [*]; done)), (by first | rfl | (simp; done) | (simp [*]; done)), H', ⟨by have := HK1.out; have := HK2.out; omega⟩, ⟨by (with_reducible repeat (first | apply Kd.R_alloc | apply Kd.R_drewN | apply Kd.R_drew)); exact HO_20.out⟩, ⟨by repeat (first | (with_reducible first | exact HB.out | apply below_alloc | apply pw_below_drewN | apply below_drew1) | exact HB.out)⟩⟩
        ·rw [if_neg c10] at H
         exact absurd H (by simp)
       ·rw [if_neg c9] at H
        exact absurd H (by simp)
      ·rw [if_neg c8] at H
       have c8b0 : decide (x22_2 < (t102.length : Int)) = false := decide_eq_false c8
       clear c8
       by_cases c15 : x6_1 < 0
       ·rw [if_pos c15] at H
        have c15b0 : decide (x6_1 < 0) = true := decide_eq_true c15
        clear c15
        have H' := Aside0.mk H
        clear H
        go_wp2
        go_roundg k2
        case measure => have := HK1.out; have := HK2.out; omega
        case rel => exact ⟨(x9_2), (x8_1), (wrap64 (x8_1 + 2)), (by first | rfl | (simp; done) | (simp [*]; done)), (by first | rfl | (simp; done) | (simp [*]; done)), (by first | rfl | (simp; done) | (simp [*]; done)), H', ⟨by have := HK1.out; have := HK2.out; omega⟩, ⟨by repeat (first | (with_reducible first | exact HB.out | apply below_alloc | apply pw_below_drewN | apply below_drew1) | exact HB.out)⟩⟩
       ·rw [if_neg c15] at H
        have c15b0 : decide (x6_1 < 0) = false := decide_eq_false c15
        clear c15
        by_cases c16 : x9_2 < x6_1
        ·rw [if_pos c16] at H
         have c16b0 : decide (x9_2 < x6_1) = true := decide_eq_true c16
         clear c16
         have H' := Aside0.mk H
         clear H
         go_wp2
         go_roundg k2
         case measure => have := HK1.out; have := HK2.out; omega
         case rel => exact ⟨(x9_2), (x8_1), (wrap64 (x8_1 + 2)), (by first | rfl | (simp; done) | (simp [*]; done)), (by first | rfl | (simp; done) | (simp [*]; done)), (by first | rfl | (simp; done) | (simp [*]; done)), H', ⟨by have := HK1.out; have := HK2.out; omega⟩, ⟨by repeat (first | (with_reducible first | exact HB.out | apply below_alloc | apply pw_below_drewN | apply below_drew1) | exact HB.out)⟩⟩
        ·rw [if_neg c16] at H
         have c16b0 : decide (x9_2 < x6_1) = false := decide_eq_false c16
         clear c16
         have H' := Aside0.mk H
         clear H
         go_wp2
         go_roundg k2
         case measure => have := HK1.out; have := HK2.out; omega
         case rel => exact ⟨(x6_1), (x7_1), (wrap64 (x8_1 + 2)), (by first | rfl | (simp; done) | (simp [*]; done)), (by first | rfl | (simp; done) | (simp [*]; done)), (by first | rfl | (simp; done) | (simp [*]; done)), H', ⟨by have := HK1.out; have := HK2.out; omega⟩, ⟨by repeat (first | (with_reducible first | exact HB.out | apply below_alloc | apply pw_below_drewN | apply below_drew1) | exact HB.out)⟩⟩
   ·rw [if_neg c4] at H
    have c4b0 : decide (x8_1 ≤ t101) = false := decide_eq_false c4
    clear c4
    simp only [Option.some.injEq, Prod.mk.injEq] at H
    obtain ⟨rfl, rfl⟩ := H
    go_wp2_with (first | ((with_reducible refine gate_callee (f := 74) rfl ?_); refine goesL_ (some 14) rfl rfl Try.func74 (by kernel_rfl) rfl #[.pointer (some ⟨g0, 0, none⟩)] rfl (by (try simp only [List.map_toArray, List.map_cons, List.map_nil]); first | done | rfl | (simp only [List.length_drop, List.length_take]; rfl)) ?_; (with_reducible refine (branch_town_everybody.calls g0 a0_0 A0_1 c0_1 l0_1 a0_2 t101 _ ?side1 ?side2 ?side3 A3.out).mono ?_); (case side1 => exact ((show Below _ _ _ from by repeat (first | (with_reducible first | exact HB.out | apply below_alloc | apply pw_below_drewN | apply below_drew1) | exact HB.out)).block _ (blk_lt HP0.out)).trans HP0.out); (case side2 => repeat (first | exact (Kd.C_below HR0_1.out HB.out) | (with_reducible refine Kd.C_alloc ?_ _) | (with_reducible refine Kd.C_drewN ?_ _) | (with_reducible refine Kd.C_drew ?_))); (case side3 => exact HC0_1.out); rintro e w' ⟨rfl, ⟨nd, rfl⟩⟩; refine ⟨_, rfl, ?_⟩))
    go_ret2
    exact ⟨by first | rfl | (simp [errW_none, errW_some] <;> rfl) | (simp [*, errW_none, errW_some] <;> rfl), by repeat (first | (with_reducible first | exact HB.out | apply below_alloc | apply pw_below_drewN | apply below_drew1) | exact HB.out)⟩
def branch_Narrow.f (k : Nat) (a0 : Int) (l1 : List (S30)) : Option (Int × Int × Int) := (branch_read.f a0 l1).bind fun t107 => (if t107 = 0 then ((branch_town_narrow.f k a0 l1 (fun _ => some false)).bind fun bt109 => (some (bt109.1, bt109.2, 0))) else (some (0, 0, t107)))
theorem branch_Narrow.mono : ∀ a0 a1 k, LeO (branch_Narrow.f k a0 a1) (branch_Narrow.f (k + 1) a0 a1) := by
  intro a0 a1 k
  unfold branch_Narrow.f
  repeat' first
      | (with_reducible exact branch_town_narrow.mono _ _ _ _)
      | (with_reducible exact LeO.refl _)
      | (with_reducible exact LeO.none _)
      | (with_reducible refine LeO.ite ?_ ?_)
      | (with_reducible refine LeO.bind ?_ (fun _ => ?_))
      | exact branch_town_narrow.mono _ _ _ _
      | exact LeO.none _
      | refine LeO.ite ?_ ?_
      | refine LeO.bind ?_ (fun _ => ?_)
set_option maxHeartbeats 8000000 in
set_option maxRecDepth 100000 in
theorem branch_Narrow.calls (k : Nat) (a0 : Int) (A1 : Option Addr) (c1 : Nat) (l1 : List (S30)) (r1 : Int) (r2 : Int) (r3 : Int) (w : World) (hr1 : Kd.C k30 w A1 l1.length l1) (hc1 : l1.length ≤ c1) (h : branch_Narrow.f k a0 l1 = some (r1, r2, r3)) :
  Calls Try.prog 30 #[.int .i64 a0, .slice A1 l1.length c1] w fun e w' => e = .returned (.tuple #[.int .i64 r1, .int .i64 r2, .int .i64 r3]) ∧ Below w.heap.size w w' := by
 have HR1 := Aside0.mk hr1
 have HC1 := Aside0.mk hc1
 clear hr1 hc1
 have HB := Aside0.mk (Below.refl w.heap.size w)
 have H : ((branch_read.f a0 l1).bind fun t107 => (if t107 = 0 then ((branch_town_narrow.f k a0 l1 (fun _ => some false)).bind fun bt109 => (some (bt109.1, bt109.2, 0))) else (some (0, 0, t107)))) = some (r1, r2, r3) := h
 clear h
 replace H := Option.bind_eq_some_iff.mp H
 obtain ⟨t107, A30, H⟩ := H
 replace H : (if t107 = 0 then ((branch_town_narrow.f k a0 l1 (fun _ => some false)).bind fun bt109 => (some (bt109.1, bt109.2, 0))) else (some (0, 0, t107))) = some (r1, r2, r3) := H
 have A3 := Aside0.mk A30
 clear A30
 by_cases c4 : t107 = 0
 ·rw [if_pos c4] at H
  have c4b0 : (t107 == 0) = true := beq_iff_eq.mpr c4
  have c4b1 : (t107 != 0) = false := bne_eq_false_iff_eq.mpr c4
  clear c4
  replace H := Option.bind_eq_some_iff.mp H
  obtain ⟨⟨t109, t110⟩, A50, H⟩ := H
  replace H : (some (t109, t110, 0)) = some (r1, r2, r3) := H
  have A5 := Aside0.mk A50
  clear A50
  simp only [Option.some.injEq, Prod.mk.injEq] at H
  obtain ⟨rfl, rfl, rfl⟩ := H
  go_enter Try.func30, Try.ntmps30
  go_wp2_with (first | (go_at_call 44; (with_reducible refine (branch_read.calls_ok a0 A1 c1 l1 t107 _ ?side1 ?side2 A3.out (by first | (with_reducible assumption) | assumption)).mono ?_); (case side1 => repeat (first | exact HR1.out | (with_reducible refine Kd.C_alloc ?_ _) | (with_reducible refine Kd.C_drewN ?_ _) | (with_reducible refine Kd.C_drew ?_))); (case side2 => exact HC1.out); rintro e w6 ⟨gb108, mr108, rfl, hg, hbox, hb⟩; have n0_ := Aside0.mk (below_step (by repeat (first | (with_reducible first | exact HB.out | apply below_alloc | apply pw_below_drewN | apply below_drew1) | exact HB.out)) hb); have n1_ := Aside0.mk (hbox); have n2_ := Aside0.mk ((Nat.le_trans (below_size (by repeat (first | (with_reducible first | exact HB.out | apply below_alloc | apply pw_below_drewN | apply below_drew1) | exact HB.out))) hg : w.heap.size ≤ gb108)); have n3_ := Aside0.mk ((Nat.le_trans (below_size (by repeat (first | (with_reducible first | exact HB.out | apply below_alloc | apply pw_below_drewN | apply below_drew1) | exact HB.out))) hg : w.heap.size ≤ gb108)); clear HB; have HB := n0_; have BK108 := n1_; have GW108 := n2_; have GE108 := n3_; clear n0_ n1_ n2_ n3_; clear hb hbox hg) | ((with_reducible refine gate_callee (f := 53) rfl ?_); refine goesL_ (some 22) rfl rfl Try.func53 (by kernel_rfl) rfl #[.pointer (some ⟨gb108, 0, none⟩), (.map none)] rfl (by (try simp only [List.map_toArray, List.map_cons, List.map_nil]); first | done | rfl | (simp only [List.length_drop, List.length_take]; rfl)) ?_; (with_reducible refine (branch_town_narrow.calls k gb108 a0 A1 c1 l1 mr108 (.map none) (fun _ => some false) t109 t110 _ ?side1 ?side2 ?side3 ?side4 A5.out).mono ?_); (case side1 => exact by (with_reducible repeat (first | refine blk_drewN ?_ _ | refine blk_drew ?_ | refine blk_alloc ?_ _)); exact BK108.out); (case side2 => repeat (first | exact (Kd.C_below HR1.out HB.out) | (with_reducible refine Kd.C_alloc ?_ _) | (with_reducible refine Kd.C_drewN ?_ _) | (with_reducible refine Kd.C_drew ?_))); (case side3 => exact HC1.out); (case side4 => exact IsLook.nil rfl rfl (fun _ => by first | rfl | (go_simp; done)) _); rintro e w7 ⟨rfl, hb⟩; refine ⟨_, rfl, ?_⟩; have n0_ := Aside0.mk (blk_below (g := gb108) (o := .cells #[.int .i64 a0, .slice A1 l1.length c1, .map mr108] 70 (0, 0)) (by (with_reducible repeat (first | refine blk_drewN ?_ _ | refine blk_drew ?_ | refine blk_alloc ?_ _)); exact BK108.out) hb); have n1_ := Aside0.mk (below_step (by repeat (first | (with_reducible first | exact HB.out | apply below_alloc | apply pw_below_drewN | apply below_drew1 | refine below_set ?_ GE108.out) | exact HB.out)) hb); clear BK108; clear HB; have BK108 := n0_; have HB := n1_; clear n0_ n1_; (try clear hb); (try clear hb2); (try clear hk); (try clear hi)))
  go_ret3
  exact ⟨by first | rfl | (simp [errW_none, errW_some] <;> rfl) | (simp [*, errW_none, errW_some] <;> rfl), by repeat (first | (with_reducible first | exact HB.out | apply below_alloc | apply pw_below_drewN | apply below_drew1 | refine below_set ?_ GE108.out) | exact HB.out)⟩
 ·rw [if_neg c4] at H
  have c4b0 : (t107 == 0) = false := beq_eq_false_iff_ne.mpr c4
  have c4b1 : (t107 != 0) = true := bne_iff_ne.mpr c4
  simp only [Option.some.injEq, Prod.mk.injEq] at H
  obtain ⟨rfl, rfl, rfl⟩ := H
  go_enter Try.func30, Try.ntmps30
  go_wp2_with (first | (go_at_call 44; (with_reducible refine (branch_read.calls_err a0 A1 c1 l1 t107 _ ?side1 ?side2 A3.out (by first | (with_reducible assumption) | assumption)).mono ?_); (case side1 => repeat (first | exact HR1.out | (with_reducible refine Kd.C_alloc ?_ _) | (with_reducible refine Kd.C_drewN ?_ _) | (with_reducible refine Kd.C_drew ?_))); (case side2 => exact HC1.out); rintro e w8 ⟨rfl, hb⟩; have n0_ := Aside0.mk (below_step (by repeat (first | (with_reducible first | exact HB.out | apply below_alloc | apply pw_below_drewN | apply below_drew1) | exact HB.out)) hb); clear HB; have HB := n0_; clear n0_; (try clear hb)))
  go_ret3
  exact ⟨by first | rfl | (simp [errW_none, errW_some] <;> rfl) | (simp [*, errW_none, errW_some] <;> rfl), by repeat (first | (with_reducible first | exact HB.out | apply below_alloc | apply pw_below_drewN | apply below_drew1) | exact HB.out)⟩
end Go.Proofs.Ytpmadffgdfholaa.B
namespace Go.Proofs.Ytpmadffgdfholaa.B
open Go.RowKit Go.Proofs.YtpmadffgdfholaaW.PrintWords Go.Proofs.YtpmadffgdfholaaW.PrintLast Go.Proofs.YtpmadffgdfholaaW.PrintMore
attribute [local go_sem] max2_int min2_int max_two min_two max_three min_three max_four min_four   -- for this text's walks alone
set_option linter.unusedVariables false
set_option linter.unusedSimpArgs false
def trishawref03_put.l0 : Nat → List Int → Int → Int → Option (List Int)
  | 0, _, _, _ => none
  | k + 1, x0, x1, x6 => if x6 < (x0.length : Int) then (if 0 ≤ x6 then (if (rd x0 x6) < x1 then (trishawref03_put.l0 k x0 x1 (wrap64 (x6 + 1))) else (if x6 ≤ (x0.length : Int) then (if ([] : List Int).length + (x0.take (x6 : Int).toNat).length < 17592186044416 then ((some (([] : List Int) ++ (x0.take (x6 : Int).toNat) : List Int)).bind fun y103 => (if y103.length < 17592186044416 then ((some (y103 ++ [x1] : List Int)).bind fun y106 => (if y106.length + (x0.drop (x6 : Int).toNat).length < 17592186044416 then (some (y106 ++ (x0.drop (x6 : Int).toNat))) else (none))) else (none))) else (none)) else (none))) else (none)) else (if 0 ≤ x6 then (if x6 ≤ (x0.length : Int) then (if ([] : List Int).length + (x0.take (x6 : Int).toNat).length < 17592186044416 then ((some (([] : List Int) ++ (x0.take (x6 : Int).toNat) : List Int)).bind fun y114 => (if y114.length < 17592186044416 then ((some (y114 ++ [x1] : List Int)).bind fun y117 => (if y117.length + (x0.drop (x6 : Int).toNat).length < 17592186044416 then (some (y117 ++ (x0.drop (x6 : Int).toNat))) else (none))) else (none))) else (none)) else (none)) else (none))
def trishawref03_put.f (k : Nat) (l0 : List Int) (a1 : Int) : Option (List Int) := trishawref03_put.l0 k l0 a1 0
theorem trishawref03_put.mono_l : ∀ k, (∀ y0 y1 y2, LeO (trishawref03_put.l0 k y0 y1 y2) (trishawref03_put.l0 (k + 1) y0 y1 y2))
  | 0 => fun _ _ _ r h => by simp [trishawref03_put.l0] at h
  | k + 1 => by
    have ih0 := trishawref03_put.mono_l k
    · intro y0 y1 y2
      unfold trishawref03_put.l0
      repeat' first
      | (with_reducible exact ih0 _ _ _)
      | (with_reducible exact LeO.refl _)
      | (with_reducible exact LeO.none _)
      | (with_reducible refine LeO.ite ?_ ?_)
      | (with_reducible refine LeO.bind ?_ (fun _ => ?_))
      | exact ih0 _ _ _
      | exact LeO.none _
      | refine LeO.ite ?_ ?_
      | refine LeO.bind ?_ (fun _ => ?_)
theorem trishawref03_put.mono : ∀ a0 a1 k, LeO (trishawref03_put.f k a0 a1) (trishawref03_put.f (k + 1) a0 a1) := by
  intro a0 a1 k
  have ih0 := trishawref03_put.mono_l k
  unfold trishawref03_put.f
  repeat' first
      | (with_reducible exact ih0 _ _ _)
      | (with_reducible exact LeO.refl _)
      | (with_reducible exact LeO.none _)
      | (with_reducible refine LeO.ite ?_ ?_)
      | (with_reducible refine LeO.bind ?_ (fun _ => ?_))
      | exact ih0 _ _ _
      | exact LeO.none _
      | refine LeO.ite ?_ ?_
      | refine LeO.bind ?_ (fun _ => ?_)
set_option maxHeartbeats 8000000 in
set_option maxRecDepth 100000 in
theorem trishawref03_put.calls (k : Nat) (A0 : Option Addr) (c0 : Nat) (l0 : List Int) (a1 : Int) (r : List Int) (w : World) (hr0 : Kd.C (Kd.int .i64) w A0 l0.length l0) (hc0 : l0.length ≤ c0) (h : trishawref03_put.f k l0 a1 = some r) :
  Calls Try.prog 73 #[.slice A0 l0.length c0, .int .i64 a1] w fun e w' => ∃ v0_ : Value, e = .returned (v0_) ∧ Kd.R (Kd.int .i64) 3 w' w.heap.size (fun _ => True) v0_ r ∧ Below w.heap.size w w' := by
 have HR0 := Aside0.mk hr0
 have HC0 := Aside0.mk hc0
 clear hr0 hc0
 have HB := Aside0.mk (Below.refl w.heap.size w)
 have H : (trishawref03_put.l0 k l0 a1 0) = some r := h
 clear h
 have H' := Aside0.mk H
 clear H
 go_enter Try.func73, Try.ntmps73
 go_wp2
 go_loopg [6] k (fun kq v6 w' => ∃ (x6_1 : Int), v6 = .int .i64 x6_1 ∧ Aside0 (trishawref03_put.l0 kq l0 a1 x6_1 = some r) ∧ Aside0 (kq ≤ k) ∧ Aside0 (Below w.heap.size w w'))
 case atStart => exact ⟨(0), (by first | rfl | (simp; done) | (simp [*]; done)), H', ⟨Nat.le_refl _⟩, ⟨by repeat (first | (with_reducible first | exact HB.out | apply below_alloc | apply pw_below_drewN | apply below_drew1) | exact HB.out)⟩⟩
 case round =>
  clear H'
  try clear p2
  obtain ⟨x6_1, rfl, HA, HK1, HB⟩ := hrel
  cases gk with
  | zero => exact absurd HA.out (by simp [trishawref03_put.l0])
  | succ k1 =>
   have H := HA.out
   clear HA
   simp only [trishawref03_put.l0] at H
   by_cases c3 : x6_1 < (l0.length : Int)
   ·rw [if_pos c3] at H
    have c3b0 : decide (x6_1 < (l0.length : Int)) = true := decide_eq_true c3
    clear c3
    by_cases c4 : 0 ≤ x6_1
    ·rw [if_pos c4] at H
     have c4b0 : decide (0 ≤ x6_1) = true := decide_eq_true c4
     clear c4
     by_cases c5 : (rd l0 x6_1) < a1
     ·rw [if_pos c5] at H
      have c5b0 : decide ((rd l0 x6_1) < a1) = true := decide_eq_true c5
      clear c5
      have H' := Aside0.mk H
      clear H
      have p101 : 0 ≤ (x6_1 : Int) := of_decide_eq_true (by first | (with_reducible assumption) | assumption)
      have q101 : x6_1 < (l0.length : Int) := of_decide_eq_true (by first | (with_reducible assumption) | assumption)
      obtain ⟨ad101, e101, hx101_0⟩ := Kd.at_int HR0.out x6_1 p101 q101
      cases e101
      replace hx101_0 := (HB.out.cell (World.block_lt_of_cell? w _ hx101_0)).trans hx101_0
      replace p101 := eq_true p101
      replace q101 := eq_true q101
      go_wp2
      go_roundg k1
      case measure => have := HK1.out; omega
      case rel => exact ⟨(wrap64 (x6_1 + 1)), (by first | rfl | (simp; done) | (simp [*]; done)), H', ⟨by have := HK1.out; omega⟩, ⟨by repeat (first | (with_reducible first | exact HB.out | apply below_alloc | apply pw_below_drewN | apply below_drew1) | exact HB.out)⟩⟩
     ·rw [if_neg c5] at H
      have c5b0 : decide ((rd l0 x6_1) < a1) = false := decide_eq_false c5
      clear c5
      have c6b0 := eq_true (of_decide_eq_true (by first | (with_reducible assumption) | assumption) : 0 ≤ x6_1)
      by_cases c7 : x6_1 ≤ (l0.length : Int)
      ·rw [if_pos c7] at H
       have c7b0 := eq_true c7
       have c7b1 : decide (x6_1 ≤ (l0.length : Int)) = true := decide_eq_true c7
       clear c7
       by_cases c8 : ([] : List Int).length + (l0.take (x6_1 : Int).toNat).length < 17592186044416
       ·rw [if_pos c8] at H
        have LMc8 := Aside0.mk c8
        clear c8
        obtain ⟨y103, hy103⟩ : ∃ y_ : List Int, y_ = (([] : List Int) ++ (l0.take (x6_1 : Int).toNat)) := ⟨_, rfl⟩
        replace H : (if y103.length < 17592186044416 then ((some (y103 ++ [a1] : List Int)).bind fun y106 => (if y106.length + (l0.drop (x6_1 : Int).toNat).length < 17592186044416 then (some (y106 ++ (l0.drop (x6_1 : Int).toNat))) else (none))) else (none)) = some r := by first | (rw [hy103]; with_reducible exact H) | (have H2_ := (Option.bind_some _ _).symm.trans H; rw [hy103]; with_reducible exact H2_) | (have H2_ := (Option.bind_some _ _).symm.trans H; with_reducible exact H2_) | with_reducible exact H | (rw [hy103]; exact H) | exact H
        have Ny103 := Aside0.mk hy103
        clear hy103
        by_cases c9 : y103.length < 17592186044416
        ·rw [if_pos c9] at H
         have LMc9 := Aside0.mk c9
         clear c9
         obtain ⟨y106, hy106⟩ : ∃ y_ : List Int, y_ = (y103 ++ [a1]) := ⟨_, rfl⟩
         replace H : (if y106.length + (l0.drop (x6_1 : Int).toNat).length < 17592186044416 then (some (y106 ++ (l0.drop (x6_1 : Int).toNat))) else (none)) = some r := by first | (rw [hy106]; with_reducible exact H) | (have H2_ := (Option.bind_some _ _).symm.trans H; rw [hy106]; with_reducible exact H2_) | (have H2_ := (Option.bind_some _ _).symm.trans H; with_reducible exact H2_) | with_reducible exact H | (rw [hy106]; exact H) | exact H
         have Ny106 := Aside0.mk hy106
         clear hy106
         have c10b0 := eq_true (of_decide_eq_true (by first | (with_reducible assumption) | assumption) : 0 ≤ x6_1)
         have c11b0 := eq_true (of_decide_eq_true (by first | (with_reducible assumption) | assumption) : x6_1 ≤ (l0.length : Int))
         by_cases c12 : y106.length + (l0.drop (x6_1 : Int).toNat).length < 17592186044416
         ·rw [if_pos c12] at H
          have LMc12 := Aside0.mk c12
          clear c12
          obtain ⟨y110, hy110⟩ : ∃ y_ : List Int, y_ = (y106 ++ (l0.drop (x6_1 : Int).toNat)) := ⟨_, rfl⟩
          replace H : (some y110) = some r := by first | (rw [hy110]; with_reducible exact H) | (have H2_ := (Option.bind_some _ _).symm.trans H; rw [hy110]; with_reducible exact H2_) | (have H2_ := (Option.bind_some _ _).symm.trans H; with_reducible exact H2_) | with_reducible exact H | (rw [hy110]; exact H) | exact H
          have Ny110 := Aside0.mk hy110
          clear hy110
          obtain rfl := Option.some.inj H
          have p101 : 0 ≤ (x6_1 : Int) := of_decide_eq_true (by first | (with_reducible assumption) | assumption)
          have q101 : x6_1 < (l0.length : Int) := of_decide_eq_true (by first | (with_reducible assumption) | assumption)
          obtain ⟨ad101, e101, hx101_0⟩ := Kd.at_int HR0.out x6_1 p101 q101
          cases e101
          replace hx101_0 := (HB.out.cell (World.block_lt_of_cell? w _ hx101_0)).trans hx101_0
          replace p101 := eq_true p101
          replace q101 := eq_true q101
          obtain ⟨i013, hi013, _, hsz13, _⟩ := info_parts info3
          obtain ⟨hcut13, hA13, hC13⟩ := print_take_of (P := Try.prog) (Value.int .i64) 0 28 3 .i64 Try.underlying28 hi013 hsz13 (some ad101) c0 l0 x6_1 (of_decide_eq_true (by first | (with_reducible assumption) | assumption)) (of_decide_eq_true (by first | (with_reducible assumption) | assumption)) HC0.out
          have HR102 := Aside0.mk (Kd.C_of_reads (h1 := fun _ => rfl) (hA13 _ (Kd.reads_of_C HR0.out)))
          have HC102 := Aside0.mk hC13
          clear hA13 hC13 hi013 hsz13
          go_wp2_with (first | ((with_reducible refine gate_builtin (b := .append) (xs := #[.tmp 21, .tmp 24]) rfl ?_); at_builtin; refine Kd.R_append_rows (Kd.int .i64) (w0 := w) w.heap.size rfl (.tmp 21) (.tmp 24) 28 3 (.int .i64 0) 8 rfl Try.underlying28 info3 rfl (by decide) (by omega) (.slice none 0 0) ([] : List Int) (l0.take (x6_1 : Int).toNat) _ _ _ (fun _ => True) (fun _ => False) rfl rfl ?aO ?aR (fun _ _ h => h) (fun _ h => h.elim) ?aF ?aB ?aS ?aL ?_; (case aR => first | (have hq_ := (Kd.C_below HR102.out HB.out); rw [show (l0.take (x6_1 : Int).toNat).length = x6_1.toNat from (by rw [List.length_take]; have h_ : (x6_1 : Int) ≤ (l0.length : Int) := of_decide_eq_true (by first | (with_reducible assumption) | assumption); omega)] at hq_; exact hq_) | (rw [← show (l0.take (x6_1 : Int).toNat).length = x6_1.toNat from (by rw [List.length_take]; have h_ : (x6_1 : Int) ≤ (l0.length : Int) := of_decide_eq_true (by first | (with_reducible assumption) | assumption); omega)]; repeat (first | exact (Kd.C_below HR102.out HB.out) | (with_reducible refine Kd.C_alloc ?_ _) | (with_reducible refine Kd.C_drewN ?_ _) | (with_reducible refine Kd.C_drew ?_))) | (repeat (first | exact (Kd.C_below HR102.out HB.out) | (with_reducible refine Kd.C_alloc ?_ _) | (with_reducible refine Kd.C_drewN ?_ _) | (with_reducible refine Kd.C_drew ?_)))); (case aB => exact (by repeat (first | (with_reducible first | exact HB.out | apply below_alloc | apply pw_below_drewN | apply below_drew1) | exact HB.out))); (case aF => exact (fun _ _ => trivial)); (case aO => exact ((Kd.R_nil _ _ _ _ (fun _ => True)))); (case aS => exact (below_size (by repeat (first | (with_reducible first | exact HB.out | apply below_alloc | apply pw_below_drewN | apply below_drew1) | exact HB.out)))); (case aL => have := LMc8.out; have hlx_ := (show (l0.take (x6_1 : Int).toNat).length = x6_1.toNat from (by rw [List.length_take]; have h_ : (x6_1 : Int) ≤ (l0.length : Int) := of_decide_eq_true (by first | (with_reducible assumption) | assumption); omega)); omega); intro v104 w14 ho hb hg hat; rw [← Ny103.out] at ho; have n0_ := Aside0.mk (hb); have n1_ := Aside0.mk (ho); clear HB; have HB := n0_; have HO105 := n1_; clear n0_ n1_; clear ho hb hg hat) | ((with_reducible refine gate_builtin (b := .append) (xs := #[.tmp 26, .tmp 28]) rfl ?_); at_builtin; refine Kd.R_append (Kd.int .i64) (w0 := w) w.heap.size rfl (.tmp 26) (.tmp 28) 28 3 (.int .i64 0) 8 rfl Try.underlying28 info3 rfl (by decide) (by omega) v104 y103 a1 [.int .i64 a1] (fun _ => True) (fun _ => False) rfl rfl ?aP (fun _ hk => hk.elim) ?aF ?aO ?aB ?aS ?aL ?_; (case aP => exact rfl); (case aB => exact (by repeat (first | (with_reducible first | exact HB.out | apply below_alloc | apply pw_below_drewN | apply below_drew1) | exact HB.out))); (case aF => exact (fun _ _ => trivial)); (case aO => exact (by (with_reducible repeat (first | apply Kd.R_alloc | apply Kd.R_drewN | apply Kd.R_drew)); exact HO105.out)); (case aS => exact (below_size (by repeat (first | (with_reducible first | exact HB.out | apply below_alloc | apply pw_below_drewN | apply below_drew1) | exact HB.out)))); (case aL => have := LMc9.out; omega); intro v107 w15 ho hb hg hat; rw [← Ny106.out] at ho; have n0_ := Aside0.mk (hb); have n1_ := Aside0.mk (ho); clear HB; clear HO105; have HB := n0_; have HO108 := n1_; clear n0_ n1_; clear ho hb hg hat; obtain ⟨i016, hi016, _, hsz16, _⟩ := info_parts info3; obtain ⟨A16, hcut16, hA16, hC16⟩ := print_drop_of (P := Try.prog) (Value.int .i64) 0 28 3 .i64 Try.underlying28 hi016 hsz16 (some ad101) c0 l0 x6_1 (of_decide_eq_true (by first | (with_reducible assumption) | assumption)) (of_decide_eq_true (by first | (with_reducible assumption) | assumption)) HC0.out; have HR109 := Aside0.mk (Kd.C_of_reads (h1 := fun _ => rfl) (hA16 _ (Kd.reads_of_C HR0.out))); have HC109 := Aside0.mk hC16; clear hA16 hC16 hi016 hsz16) | ((with_reducible refine gate_builtin (b := .append) (xs := #[.tmp 30, .tmp 33]) rfl ?_); at_builtin; refine Kd.R_append_rows (Kd.int .i64) (w0 := w) w.heap.size rfl (.tmp 30) (.tmp 33) 28 3 (.int .i64 0) 8 rfl Try.underlying28 info3 rfl (by decide) (by omega) v107 y106 (l0.drop (x6_1 : Int).toNat) _ _ _ (fun _ => True) (fun _ => False) rfl rfl ?aO ?aR (fun _ _ h => h) (fun _ h => h.elim) ?aF ?aB ?aS ?aL ?_; (case aR => first | (have hq_ := (Kd.C_below HR109.out HB.out); rw [show (l0.drop (x6_1 : Int).toNat).length = (l0.length - x6_1.toNat) from List.length_drop] at hq_; exact hq_) | (rw [← show (l0.drop (x6_1 : Int).toNat).length = (l0.length - x6_1.toNat) from List.length_drop]; repeat (first | exact (Kd.C_below HR109.out HB.out) | (with_reducible refine Kd.C_alloc ?_ _) | (with_reducible refine Kd.C_drewN ?_ _) | (with_reducible refine Kd.C_drew ?_))) | (repeat (first | exact (Kd.C_below HR109.out HB.out) | (with_reducible refine Kd.C_alloc ?_ _) | (with_reducible refine Kd.C_drewN ?_ _) | (with_reducible refine Kd.C_drew ?_)))); (case aB => exact (by repeat (first | (with_reducible first | exact HB.out | apply below_alloc | apply pw_below_drewN | apply below_drew1) | exact HB.out))); (case aF => exact (fun _ _ => trivial)); (case aO => exact (by (with_reducible repeat (first | apply Kd.R_alloc | apply Kd.R_drewN | apply Kd.R_drew)); exact HO108.out)); (case aS => exact (below_size (by repeat (first | (with_reducible first | exact HB.out | apply below_alloc | apply pw_below_drewN | apply below_drew1) | exact HB.out)))); (case aL => have := LMc12.out; have hlx_ := (show (l0.drop (x6_1 : Int).toNat).length = (l0.length - x6_1.toNat) from List.length_drop); omega); intro v111 w17 ho hb hg hat; rw [← Ny110.out] at ho; have n0_ := Aside0.mk (hb); have n1_ := Aside0.mk (ho); clear HB; clear HO108; have HB := n0_; have HO112 := n1_; clear n0_ n1_; clear ho hb hg hat))
          go_ret
          exact ⟨_, by first | rfl | (simp [errW_none, errW_some] <;> rfl) | (simp [*, errW_none, errW_some] <;> rfl), by (with_reducible repeat (first | apply Kd.R_alloc | apply Kd.R_drewN | apply Kd.R_drew)); exact HO112.out, by repeat (first | (with_reducible first | exact HB.out | apply below_alloc | apply pw_below_drewN | apply below_drew1) | exact HB.out)⟩
         ·rw [if_neg c12] at H
          exact absurd H (by simp)
        ·rw [if_neg c9] at H
         exact absurd H (by simp)
       ·rw [if_neg c8] at H
        exact absurd H (by simp)
      ·rw [if_neg c7] at H
       exact absurd H (by simp)
    ·rw [if_neg c4] at H
     exact absurd H (by simp)
   ·rw [if_neg c3] at H
    have c3b0 : decide (x6_1 < (l0.length : Int)) = false := decide_eq_false c3
    clear c3
    by_cases c18 : 0 ≤ x6_1
    ·rw [if_pos c18] at H
     have c18b0 := eq_true c18
     have c18b1 : decide (0 ≤ x6_1) = true := decide_eq_true c18
     clear c18
     by_cases c19 : x6_1 ≤ (l0.length : Int)
     ·rw [if_pos c19] at H
      have c19b0 := eq_true c19
      have c19b1 : decide (x6_1 ≤ (l0.length : Int)) = true := decide_eq_true c19
      clear c19
      by_cases c20 : ([] : List Int).length + (l0.take (x6_1 : Int).toNat).length < 17592186044416
      ·rw [if_pos c20] at H
       have LMc20 := Aside0.mk c20
       clear c20
       obtain ⟨y114, hy114⟩ : ∃ y_ : List Int, y_ = (([] : List Int) ++ (l0.take (x6_1 : Int).toNat)) := ⟨_, rfl⟩
       replace H : (if y114.length < 17592186044416 then ((some (y114 ++ [a1] : List Int)).bind fun y117 => (if y117.length + (l0.drop (x6_1 : Int).toNat).length < 17592186044416 then (some (y117 ++ (l0.drop (x6_1 : Int).toNat))) else (none))) else (none)) = some r := by first | (rw [hy114]; with_reducible exact H) | (have H2_ := (Option.bind_some _ _).symm.trans H; rw [hy114]; with_reducible exact H2_) | (have H2_ := (Option.bind_some _ _).symm.trans H; with_reducible exact H2_) | with_reducible exact H | (rw [hy114]; exact H) | exact H
       have Ny114 := Aside0.mk hy114
       clear hy114
       by_cases c21 : y114.length < 17592186044416
       ·rw [if_pos c21] at H
        have LMc21 := Aside0.mk c21
        clear c21
        obtain ⟨y117, hy117⟩ : ∃ y_ : List Int, y_ = (y114 ++ [a1]) := ⟨_, rfl⟩
        replace H : (if y117.length + (l0.drop (x6_1 : Int).toNat).length < 17592186044416 then (some (y117 ++ (l0.drop (x6_1 : Int).toNat))) else (none)) = some r := by first | (rw [hy117]; with_reducible exact H) | (have H2_ := (Option.bind_some _ _).symm.trans H; rw [hy117]; with_reducible exact H2_) | (have H2_ := (Option.bind_some _ _).symm.trans H; with_reducible exact H2_) | with_reducible exact H | (rw [hy117]; exact H) | exact H
        have Ny117 := Aside0.mk hy117
        clear hy117
        have c22b0 := eq_true (of_decide_eq_true (by first | (with_reducible assumption) | assumption) : 0 ≤ x6_1)
        have c23b0 := eq_true (of_decide_eq_true (by first | (with_reducible assumption) | assumption) : x6_1 ≤ (l0.length : Int))
        by_cases c24 : y117.length + (l0.drop (x6_1 : Int).toNat).length < 17592186044416
        ·rw [if_pos c24] at H
         have LMc24 := Aside0.mk c24
         clear c24
         obtain ⟨y121, hy121⟩ : ∃ y_ : List Int, y_ = (y117 ++ (l0.drop (x6_1 : Int).toNat)) := ⟨_, rfl⟩
         replace H : (some y121) = some r := by first | (rw [hy121]; with_reducible exact H) | (have H2_ := (Option.bind_some _ _).symm.trans H; rw [hy121]; with_reducible exact H2_) | (have H2_ := (Option.bind_some _ _).symm.trans H; with_reducible exact H2_) | with_reducible exact H | (rw [hy121]; exact H) | exact H
         have Ny121 := Aside0.mk hy121
         clear hy121
         obtain rfl := Option.some.inj H
         obtain ⟨i025, hi025, _, hsz25, _⟩ := info_parts info3
         obtain ⟨hcut25, hA25, hC25⟩ := print_take_of (P := Try.prog) (Value.int .i64) 0 28 3 .i64 Try.underlying28 hi025 hsz25 A0 c0 l0 x6_1 (of_decide_eq_true (by first | (with_reducible assumption) | assumption)) (of_decide_eq_true (by first | (with_reducible assumption) | assumption)) HC0.out
         have HR113 := Aside0.mk (Kd.C_of_reads (h1 := fun _ => rfl) (hA25 _ (Kd.reads_of_C HR0.out)))
         have HC113 := Aside0.mk hC25
         clear hA25 hC25 hi025 hsz25
         go_wp2_with (first | ((with_reducible refine gate_builtin (b := .append) (xs := #[.tmp 21, .tmp 24]) rfl ?_); at_builtin; refine Kd.R_append_rows (Kd.int .i64) (w0 := w) w.heap.size rfl (.tmp 21) (.tmp 24) 28 3 (.int .i64 0) 8 rfl Try.underlying28 info3 rfl (by decide) (by omega) (.slice none 0 0) ([] : List Int) (l0.take (x6_1 : Int).toNat) _ _ _ (fun _ => True) (fun _ => False) rfl rfl ?aO ?aR (fun _ _ h => h) (fun _ h => h.elim) ?aF ?aB ?aS ?aL ?_; (case aR => first | (have hq_ := (Kd.C_below HR113.out HB.out); rw [show (l0.take (x6_1 : Int).toNat).length = x6_1.toNat from (by rw [List.length_take]; have h_ : (x6_1 : Int) ≤ (l0.length : Int) := of_decide_eq_true (by first | (with_reducible assumption) | assumption); omega)] at hq_; exact hq_) | (rw [← show (l0.take (x6_1 : Int).toNat).length = x6_1.toNat from (by rw [List.length_take]; have h_ : (x6_1 : Int) ≤ (l0.length : Int) := of_decide_eq_true (by first | (with_reducible assumption) | assumption); omega)]; repeat (first | exact (Kd.C_below HR113.out HB.out) | (with_reducible refine Kd.C_alloc ?_ _) | (with_reducible refine Kd.C_drewN ?_ _) | (with_reducible refine Kd.C_drew ?_))) | (repeat (first | exact (Kd.C_below HR113.out HB.out) | (with_reducible refine Kd.C_alloc ?_ _) | (with_reducible refine Kd.C_drewN ?_ _) | (with_reducible refine Kd.C_drew ?_)))); (case aB => exact (by repeat (first | (with_reducible first | exact HB.out | apply below_alloc | apply pw_below_drewN | apply below_drew1) | exact HB.out))); (case aF => exact (fun _ _ => trivial)); (case aO => exact ((Kd.R_nil _ _ _ _ (fun _ => True)))); (case aS => exact (below_size (by repeat (first | (with_reducible first | exact HB.out | apply below_alloc | apply pw_below_drewN | apply below_drew1) | exact HB.out)))); (case aL => have := LMc20.out; have hlx_ := (show (l0.take (x6_1 : Int).toNat).length = x6_1.toNat from (by rw [List.length_take]; have h_ : (x6_1 : Int) ≤ (l0.length : Int) := of_decide_eq_true (by first | (with_reducible assumption) | assumption); omega)); omega); intro v115 w26 ho hb hg hat; rw [← Ny114.out] at ho; have n0_ := Aside0.mk (hb); have n1_ := Aside0.mk (ho); clear HB; have HB := n0_; have HO116 := n1_; clear n0_ n1_; clear ho hb hg hat) | ((with_reducible refine gate_builtin (b := .append) (xs := #[.tmp 26, .tmp 28]) rfl ?_); at_builtin; refine Kd.R_append (Kd.int .i64) (w0 := w) w.heap.size rfl (.tmp 26) (.tmp 28) 28 3 (.int .i64 0) 8 rfl Try.underlying28 info3 rfl (by decide) (by omega) v115 y114 a1 [.int .i64 a1] (fun _ => True) (fun _ => False) rfl rfl ?aP (fun _ hk => hk.elim) ?aF ?aO ?aB ?aS ?aL ?_; (case aP => exact rfl); (case aB => exact (by repeat (first | (with_reducible first | exact HB.out | apply below_alloc | apply pw_below_drewN | apply below_drew1) | exact HB.out))); (case aF => exact (fun _ _ => trivial)); (case aO => exact (by (with_reducible repeat (first | apply Kd.R_alloc | apply Kd.R_drewN | apply Kd.R_drew)); exact HO116.out)); (case aS => exact (below_size (by repeat (first | (with_reducible first | exact HB.out | apply below_alloc | apply pw_below_drewN | apply below_drew1) | exact HB.out)))); (case aL => have := LMc21.out; omega); intro v118 w27 ho hb hg hat; rw [← Ny117.out] at ho; have n0_ := Aside0.mk (hb); have n1_ := Aside0.mk (ho); clear HB; clear HO116; have HB := n0_; have HO119 := n1_; clear n0_ n1_; clear ho hb hg hat; obtain ⟨i028, hi028, _, hsz28, _⟩ := info_parts info3; obtain ⟨A28, hcut28, hA28, hC28⟩ := print_drop_of (P := Try.prog) (Value.int .i64) 0 28 3 .i64 Try.underlying28 hi028 hsz28 A0 c0 l0 x6_1 (of_decide_eq_true (by first | (with_reducible assumption) | assumption)) (of_decide_eq_true (by first | (with_reducible assumption) | assumption)) HC0.out; have HR120 := Aside0.mk (Kd.C_of_reads (h1 := fun _ => rfl) (hA28 _ (Kd.reads_of_C HR0.out))); have HC120 := Aside0.mk hC28; clear hA28 hC28 hi028 hsz28) | ((with_reducible refine gate_builtin (b := .append) (xs := #[.tmp 30, .tmp 33]) rfl ?_); at_builtin; refine Kd.R_append_rows (Kd.int .i64) (w0 := w) w.heap.size rfl (.tmp 30) (.tmp 33) 28 3 (.int .i64 0) 8 rfl Try.underlying28 info3 rfl (by decide) (by omega) v118 y117 (l0.drop (x6_1 : Int).toNat) _ _ _ (fun _ => True) (fun _ => False) rfl rfl ?aO ?aR (fun _ _ h => h) (fun _ h => h.elim) ?aF ?aB ?aS ?aL ?_; (case aR => first | (have hq_ := (Kd.C_below HR120.out HB.out); rw [show (l0.drop (x6_1 : Int).toNat).length = (l0.length - x6_1.toNat) from List.length_drop] at hq_; exact hq_) | (rw [← show (l0.drop (x6_1 : Int).toNat).length = (l0.length - x6_1.toNat) from List.length_drop]; repeat (first | exact (Kd.C_below HR120.out HB.out) | (with_reducible refine Kd.C_alloc ?_ _) | (with_reducible refine Kd.C_drewN ?_ _) | (with_reducible refine Kd.C_drew ?_))) | (repeat (first | exact (Kd.C_below HR120.out HB.out) | (with_reducible refine Kd.C_alloc ?_ _) | (with_reducible refine Kd.C_drewN ?_ _) | (with_reducible refine Kd.C_drew ?_)))); (case aB => exact (by repeat (first | (with_reducible first | exact HB.out | apply below_alloc | apply pw_below_drewN | apply below_drew1) | exact HB.out))); (case aF => exact (fun _ _ => trivial)); (case aO => exact (by (with_reducible repeat (first | apply Kd.R_alloc | apply Kd.R_drewN | apply Kd.R_drew)); exact HO119.out)); (case aS => exact (below_size (by repeat (first | (with_reducible first | exact HB.out | apply below_alloc | apply pw_below_drewN | apply below_drew1) | exact HB.out)))); (case aL => have := LMc24.out; have hlx_ := (show (l0.drop (x6_1 : Int).toNat).length = (l0.length - x6_1.toNat) from List.length_drop); omega); intro v122 w29 ho hb hg hat; rw [← Ny121.out] at ho; have n0_ := Aside0.mk (hb); have n1_ := Aside0.mk (ho); clear HB; clear HO119; have HB := n0_; have HO123 := n1_; clear n0_ n1_; clear ho hb hg hat))
         go_ret
         exact ⟨_, by first | rfl | (simp [errW_none, errW_some] <;> rfl) | (simp [*, errW_none, errW_some] <;> rfl), by (with_reducible repeat (first | apply Kd.R_alloc | apply Kd.R_drewN | apply Kd.R_drew)); exact HO123.out, by repeat (first | (with_reducible first | exact HB.out | apply below_alloc | apply pw_below_drewN | apply below_drew1) | exact HB.out)⟩
        ·rw [if_neg c24] at H
         exact absurd H (by simp)
       ·rw [if_neg c21] at H
        exact absurd H (by simp)
      ·rw [if_neg c20] at H
       exact absurd H (by simp)
     ·rw [if_neg c19] at H
      exact absurd H (by simp)
    ·rw [if_neg c18] at H
     exact absurd H (by simp)
end Go.Proofs.Ytpmadffgdfholaa.B
namespace Go.Proofs.Ytpmadffgdfholaa.B
open Go.RowKit Go.Proofs.YtpmadffgdfholaaW.PrintWords Go.Proofs.YtpmadffgdfholaaW.PrintLast Go.Proofs.YtpmadffgdfholaaW.PrintMore
set_option linter.unusedVariables false
set_option linter.unusedSimpArgs false
/-- What was found: how many, the least cost, its first list (none yet: empty). -/
abbrev FoundS := Int × Int × List Int
mutual
def refB.f : Nat → Int → List S30 → Int → Int → List Int → FoundS → Option FoundS
  | 0, _, _, _, _, _, _ => none
  | k + 1, n, l, sign, corner, now, s => if corner = n then
      (trishawref03_reached.f k l now).bind fun t => if 0 ≤ n then (if t = wrap64 ((shl .i64 1 n) - 1) then
        (trishawref03_cost.f k l now).bind fun u => if now.length = 0 then none else
          if s.2.2.length = 0 then some (wrap64 (s.1 + 1), wrap64 (sign * u), now) else
          if wrap64 (sign * u) < s.2.1 then some (wrap64 (s.1 + 1), wrap64 (sign * u), now) else
          if wrap64 (sign * u) = s.2.1 then (trishawref03_Less.f k now s.2.2).bind fun b => if b = true then some (wrap64 (s.1 + 1), wrap64 (sign * u), now) else some (wrap64 (s.1 + 1), s.2.1, s.2.2)
          else some (wrap64 (s.1 + 1), s.2.1, s.2.2)
        else some s) else none
    else refB.l0 k n l sign corner now s 0
def refB.l0 : Nat → Int → List S30 → Int → Int → List Int → FoundS → Int → Option FoundS
  | 0, _, _, _, _, _, _, _ => none
  | k + 1, n, l, sign, corner, now, s, i => if i < (l.length : Int) then (if 0 ≤ i then (if (rd_T30 l i).f1 = corner then
      (trishawref03_put.f k now i).bind fun t => (refB.f k n l sign (wrap64 (corner + 1)) t s).bind fun s2 => refB.l0 k n l sign corner now s2 (wrap64 (i + 1))
      else refB.l0 k n l sign corner now s (wrap64 (i + 1))) else none) else some s
end
theorem refB.mono_l : ∀ k, (∀ n l sign corner now s, LeO (refB.f k n l sign corner now s) (refB.f (k + 1) n l sign corner now s)) ∧ (∀ n l sign corner now s i, LeO (refB.l0 k n l sign corner now s i) (refB.l0 (k + 1) n l sign corner now s i))
  | 0 => ⟨fun _ _ _ _ _ _ r h => by simp [refB.f] at h, fun _ _ _ _ _ _ _ r h => by simp [refB.l0] at h⟩
  | k + 1 => by
    obtain ⟨ih0, ih1⟩ := refB.mono_l k
    refine ⟨fun n l sign corner now s => ?_, fun n l sign corner now s i => ?_⟩
    · unfold refB.f
      refine LeO.ite (LeO.bind (trishawref03_reached.mono _ _ k) fun t => LeO.ite (LeO.ite (LeO.bind (trishawref03_cost.mono _ _ k) fun u => ?_) (LeO.refl _)) (LeO.refl _)) (ih1 _ _ _ _ _ _ _)
      refine LeO.ite (LeO.refl _) (LeO.ite (LeO.refl _) (LeO.ite (LeO.refl _) (LeO.ite (LeO.bind (trishawref03_Less.mono _ _ k) fun b => LeO.refl _) (LeO.refl _))))
    · unfold refB.l0
      refine LeO.ite (LeO.ite (LeO.ite (LeO.bind (trishawref03_put.mono _ _ k) fun t => LeO.bind (ih0 _ _ _ _ _ _) fun s2 => ih1 _ _ _ _ _ _ _) (ih1 _ _ _ _ _ _ _)) (LeO.refl _)) (LeO.refl _)
/-- A world that has changed in one block alone, and in what is new. -/
structure KB (g : Nat) (w w' : World) : Prop where
  os : w'.os = w.os
  tape : w'.tape = w.tape
  output : w'.output = w.output
  keep : KeepBut w w' g none
theorem KB.refl (g : Nat) (w : World) : KB g w w := ⟨rfl, rfl, rfl, KeepBut.refl w g none⟩
theorem KB.trans {g : Nat} {w w1 w2 : World} (h : KB g w w1) (k : KB g w1 w2) : KB g w w2 := ⟨k.os.trans h.os, k.tape.trans h.tape, k.output.trans h.output, h.keep.trans k.keep (.inl rfl)⟩
theorem KB.of_below {g : Nat} {w w1 : World} (h : Below w.heap.size w w1) : KB g w w1 := ⟨h.os, h.tape, h.output, KeepBut.of_below h g none⟩
theorem KB.set {g : Nat} {w w1 : World} (h : KB g w w1) (j : Nat) (u : Value) : KB g w (w1.setCell ⟨g, j, none⟩ u) := ⟨h.os, h.tape, h.output, h.keep.set_ j u⟩
theorem KB.below {g : Nat} {w0 w w1 : World} (hb : Below w0.heap.size w0 w) (hg : w0.heap.size ≤ g) (h : KB g w w1) : Below w0.heap.size w0 w1 := by
  refine ⟨h.os.trans hb.os, h.tape.trans hb.tape, h.output.trans hb.output, Nat.le_trans hb.size h.keep.1, fun k hk => ?_⟩
  rw [h.keep.2 k (Nat.lt_of_lt_of_le hk hb.size) (by omega) (by simp)]
  exact hb.block k hk
theorem KB.step {g : Nat} {w w1 w2 : World} (h : KB g w w1) (hb : Below w1.heap.size w1 w2) : KB g w w2 := h.trans (KB.of_below hb)
/-- The block of what was found. -/
structure FoundE (g B0 : Nat) (W : World) (s : FoundS) (AB : Option Addr) (cB : Nat) : Prop where
  blk : W.heap[g]? = some (.cells #[.int .i64 s.1, .int .i64 s.2.1, .slice AB s.2.2.length cB] 81 (0, 0))
  own : Kd.R (Kd.int .i64) 3 W B0 (fun k => k ≠ g) (.slice AB s.2.2.length cB) s.2.2
  nil : s.2.2.length = 0 → AB = Option.none ∧ cB = 0
theorem FoundE.rd {g B0 : Nat} {W : World} {s : FoundS} {AB : Option Addr} {cB : Nat} (h : FoundE g B0 W s AB cB) : ∀ W', KeepBut W W' g none → Kd.C (Kd.int .i64) W' AB s.2.2.length s.2.2 := Kd.C_foot_own h.own (fun _ hk => hk)
theorem FoundE.len {g B0 : Nat} {W : World} {s : FoundS} {AB : Option Addr} {cB : Nat} (h : FoundE g B0 W s AB cB) : s.2.2.length ≤ cB := (Kd.R_reads' h.own).2.1
theorem FoundE.keep {g B0 : Nat} {W W1 : World} {s : FoundS} {AB : Option Addr} {cB : Nat} (h : FoundE g B0 W s AB cB) (hb : Below W.heap.size W W1) : FoundE g B0 W1 s AB cB :=
  ⟨blk_below h.blk hb, Kd.R_below h.own hb, h.nil⟩
theorem FoundE.put0 {g B0 : Nat} {W : World} {s : FoundS} {AB : Option Addr} {cB : Nat} (h : FoundE g B0 W s AB cB) (x : Int) : FoundE g B0 (W.setCell ⟨g, 0, none⟩ (.int .i64 x)) (x, s.2.1, s.2.2) AB cB :=
  ⟨blk_put h.blk 0 _ rfl, Kd.R_far h.own (fun _ hk => hk) _, h.nil⟩
theorem FoundE.put21 {g B0 : Nat} {W : World} {s : FoundS} {AB AN : Option Addr} {cB cN : Nat} (h : FoundE g B0 W s AB cB) {now : List Int} (hr : Kd.R (Kd.int .i64) 3 W B0 (fun k => k ≠ g) (.slice AN now.length cN) now) (h0 : now.length ≠ 0) (x : Int) : FoundE g B0 ((W.setCell ⟨g, 2, none⟩ (.slice AN now.length cN)).setCell ⟨g, 1, none⟩ (.int .i64 x)) (s.1, x, now) AN cN :=
  ⟨blk_put (blk_put h.blk 2 _ rfl) 1 _ rfl, Kd.R_far (Kd.R_far hr (fun _ hk => hk) _) (fun _ hk => hk) _, fun e => absurd e h0⟩
theorem eql_nil28 (w : World) (a : Option Addr) (n c : Nat) : (binOp .eql 28 (.slice a n c) (.slice none 0 0)).run Try.prog w = .ok (.bool a.isNone) w := by
  unfold binOp
  simp [Op.equal, Op.maxDepth, Lib.run_equalIn_slice_nil w 9999 28 3 a n c 0 0 Try.underlying28, Result.andThen]
theorem foot_step {α : Type} {d : Kd α} {g : Nat} {W W1 : World} {A : Option Addr} {n : Nat} {xs : List α} (h : ∀ W', KeepBut W W' g none → d.C W' A n xs) (hk : KeepBut W W1 g none) : ∀ W', KeepBut W1 W' g none → d.C W' A n xs := fun W' h2 => h W' (hk.trans h2 (.inl rfl))
def refB.T1 : Bool × List (List Nat × List Nat) := (true, [([], []), ([], []), ([0, 1], [0, 1]), ([], []), ([3], [3]), ([4], [4]), ([2, 5], [2, 5])])
def refB.B1 : List Nat := [0, 0, 3, 0, 8, 24, 63]
theorem refB.tab1 : rtab .any (opsOf Try.f52 1) = refB.T1 := by kernel_rfl
theorem refB.bits1 : waitsOk refB.T1.2 refB.B1 = true := by kernel_rfl
set_option maxHeartbeats 8000000 in
set_option maxRecDepth 100000 in
theorem refB.calls (k : Nat) : ∀ (g B0 : Nat) (n : Int) (A1 : Option Addr) (c1 : Nat) (l : List S30) (sign corner : Int) (AN : Option Addr) (cN : Nat) (now : List Int) (s r : FoundS) (AB : Option Addr) (cB : Nat) (w : World) (hB0 : B0 ≤ w.heap.size) (hS : FoundE g B0 w s AB cB) (hr1 : ∀ W', KeepBut w W' g none → Kd.C k30 W' A1 l.length l) (hc1 : l.length ≤ c1) (hN : Kd.R (Kd.int .i64) 3 w B0 (fun k => k ≠ g) (.slice AN now.length cN) now) (h : refB.f k n l sign corner now s = some r),
  Calls Try.prog 52 #[.pointer (some ⟨g, 0, none⟩), .int .i64 n, .slice A1 l.length c1, .int .i64 sign, .int .i64 corner, .slice AN now.length cN] w fun e w' => e = .returned (.tuple #[]) ∧ KB g w w' ∧ ∃ AB' cB', FoundE g B0 w' r AB' cB' := by
 induction k using Nat.strongRecOn with
 | _ k ih =>
 intro g B0 n A1 c1 l sign corner AN cN now s r AB cB w hB0 hS hr1 hc1 hN h
 have hrN := Kd.C_foot_own hN (g := g) (fun _ hk => hk)
 have hcN := (Kd.R_reads' hN).2.1
 have HNO := Aside0.mk hN
 have HB0 := Aside0.mk hB0
 clear hN hB0
 cases k with
 | zero => exact absurd h (by simp [refB.f])
 | succ k =>
 simp only [refB.f] at h
 have hu81 := Try.underlying81
 have hu79 := Try.underlying79
 have HS := Aside0.mk hS
 have HR1 := Aside0.mk hr1
 have HC1 := Aside0.mk hc1
 have HRN := Aside0.mk hrN
 have HCN := Aside0.mk hcN
 have IH := Aside0.mk ih
 clear hS hr1 hc1 hrN hcN ih
 have HK := Aside0.mk (KB.refl g w)
 by_cases c3 : corner = n
 case pos =>
  rw [if_pos c3] at h
  have c3b : (corner == n) = true := beq_iff_eq.mpr c3
  have c3c : decide (corner = n) = true := decide_eq_true c3
  obtain ⟨t, ht, h⟩ := Option.bind_eq_some_iff.1 h
  have HT := Aside0.mk ht
  clear ht
  by_cases c4 : 0 ≤ n
  case neg => rw [if_neg c4] at h; exact absurd h (by simp)
  rw [if_pos c4] at h
  have c4b := eq_true c4
  obtain ⟨ji, hji⟩ : ∃ j_ : Int, shl .i64 1 n = j_ := ⟨_, rfl⟩
  have hji_ := hji
  unfold shl at hji_
  rw [hji] at h
  have hji24z : n ≤ 64 → (IntKind.i64.wrap (1 * 2 ^ n.toNat)) = ji := shl_small hji
  have hji24_ : (IntKind.i64.wrap (1 * 2 ^ min n.toNat 64)) = ji := hji
  have hji24u : (IntKind.i64.wrap (2 ^ min n.toNat 64)) = ji := by have h_ := hji24_; rw [Int.one_mul] at h_; exact h_
  have hji24v : n ≤ 64 → (IntKind.i64.wrap (2 ^ n.toNat)) = ji := fun hle_ => by have h_ := hji24z hle_; rw [Int.one_mul] at h_; exact h_
  have hji24y : (wrap64 (1 * 2 ^ min n.toNat 64)) = ji := (i64_w _).symm.trans hji24_
  have hji24x : n ≤ 64 → (wrap64 (1 * 2 ^ n.toNat)) = ji := fun h_ => (i64_w _).symm.trans (hji24z h_)
  by_cases c5 : t = wrap64 (ji - 1)
  case neg =>
   rw [if_neg c5] at h
   obtain rfl := Option.some.inj h
   have c5b : (t == wrap64 (ji - 1)) = false := beq_eq_false_iff_ne.mpr c5
   have c5c : (t != wrap64 (ji - 1)) = true := bne_iff_ne.mpr c5
   have c5d : decide (t = wrap64 (ji - 1)) = false := decide_eq_false c5
   clear c5 h c3 c4
   go_enter Try.func52, Try.ntmps52
   go_wp2
   have n0_ := Aside0.mk (HS.out.keep (below_drew1 (Below.refl _ _)))
   have n1_ := Aside0.mk (HK.out.step (below_drew1 (Below.refl _ _)))
   clear HS HK
   have HS := n0_; have HK := n1_
   clear n0_ n1_
   refine start_ (n := 7) (S := fun w' => True) (ds := []) #[false, false, false, false, false, false, false] (by kernel_rfl) rfl rfl trivial (fun hHeld => ?_); refine with_tabW refB.tab1 refB.bits1 (fun HT_ HW_ => ?_)
   generalize w.drew = w0 at HS HK hHeld ⊢
   refine pure_ (i := 0) (N := some 17) (v := ?_) (a' := ?_) #[true, false, false, false, false, false, false] rfl rfl (any_of HT_.out (by kernel_rfl)) (fun _ _ _ h => h) (Or.inl ⟨by rfl, ?_⟩) ?_ ?_
   rotate_left
   ·intro w'
    go_simp
    first | with_reducible rfl | rfl
   rotate_left
   ·simp only [Act.put, List.setIfInBounds_toArray, List.set_cons_zero, List.set_cons_succ, i64_w, i32_w]
    rfl
   refine pure_ (i := 1) (N := some 18) (v := ?_) (a' := ?_) #[true, true, false, false, false, false, false] rfl rfl (any_of HT_.out (by kernel_rfl)) (fun _ _ _ h => h) (Or.inl ⟨by rfl, ?_⟩) ?_ ?_
   rotate_left
   ·intro w'
    go_simp
    first | with_reducible rfl | rfl
   rotate_left
   ·simp only [Act.put, List.setIfInBounds_toArray, List.set_cons_zero, List.set_cons_succ, i64_w, i32_w]
    rfl
   refine pure_ (i := 3) (N := some 20) (v := ?_) (a' := ?_) #[true, true, false, true, false, false, false] rfl rfl (any_of HT_.out (by kernel_rfl)) (fun _ _ _ h => h) (Or.inl ⟨by rfl, ?_⟩) ?_ ?_
   rotate_left
   ·intro w'
    go_simp
    first | with_reducible rfl | rfl
   rotate_left
   ·simp only [Act.put, List.setIfInBounds_toArray, List.set_cons_zero, List.set_cons_succ, i64_w, i32_w]
    rfl
   refine pure_ (i := 4) (N := some 21) (v := ?_) (a' := ?_) #[true, true, false, true, true, false, false] rfl rfl (any_of HT_.out (by kernel_rfl)) (fun _ _ _ h => h) (Or.inl ⟨by rfl, ?_⟩) ?_ ?_
   rotate_left
   ·intro w'
    go_simp
    first | with_reducible rfl | rfl
   rotate_left
   ·simp only [Act.put, List.setIfInBounds_toArray, List.set_cons_zero, List.set_cons_succ, i64_w, i32_w]
    rfl
   refine pure_ (i := 5) (N := some 22) (v := ?_) (a' := ?_) #[true, true, false, true, true, true, false] rfl rfl (any_of HT_.out (by kernel_rfl)) (fun _ _ _ h => h) (Or.inl ⟨by rfl, ?_⟩) ?_ ?_
   rotate_left
   ·intro w'
    go_simp
    first | with_reducible rfl | rfl
   rotate_left
   ·simp only [Act.put, List.setIfInBounds_toArray, List.set_cons_zero, List.set_cons_succ, i64_w, i32_w]
    rfl
   refine one_ (i := 2) (N := some 19) #[true, true, true, true, true, true, false] rfl rfl (one_of HT_.out (by kernel_rfl)) (by decide) (fun K hK => ?_)
   refine goes_ Try.func56 (by kernel_rfl) rfl #[.slice A1 l.length c1, .slice AN now.length cN] (by rfl) rfl rfl (by (try simp only [List.map_toArray, List.map_cons, List.map_nil]); first | done | rfl) ?_
   with_reducible refine (trishawref03_reached.calls k A1 c1 l AN cN now t _ (HR1.out _ HK.out.keep) HC1.out (HRN.out _ HK.out.keep) HCN.out HT.out).mono ?_
   rintro e w1 ⟨rfl, hb⟩
   refine ⟨_, rfl, ?_⟩
   have n0_ := Aside0.mk (HS.out.keep hb)
   have n1_ := Aside0.mk (HK.out.step hb)
   clear HS HK hb
   have HS := n0_; have HK := n1_
   clear n0_ n1_
   refine hK.out _ _ trivial (fun hHeld => ?_)
   clear hK K
   refine norm_ (a' := ?_) ?_ ?_
   rotate_left
   ·show Act.put _ (some 19) _ = _
    simp only [Act.put, List.setIfInBounds_toArray, List.set_cons_zero, List.set_cons_succ, i64_w, i32_w]
    rfl
   refine pure_ (i := 6) (N := some 23) (v := ?_) (a' := ?_) #[true, true, true, true, true, true, true] rfl rfl (any_of HT_.out (by kernel_rfl)) (fun _ _ _ h => h) (Or.inl ⟨by rfl, ?_⟩) ?_ ?_
   rotate_left
   ·intro w'
    go_simp
    first | with_reducible rfl | rfl
   rotate_left
   ·simp only [Act.put, List.setIfInBounds_toArray, List.set_cons_zero, List.set_cons_succ, i64_w, i32_w]
    rfl
   refine done_ (done_of HT_.out (by kernel_rfl)) ?_
   go_wp2
   refine bodyPost_ret (results_none rfl _ _ _) rfl ?_
   exact ⟨rfl, HK.out, _, _, HS.out⟩
  rw [if_pos c5] at h
  have c5b : (t == wrap64 (ji - 1)) = true := beq_iff_eq.mpr c5
  have c5c : (t != wrap64 (ji - 1)) = false := bne_eq_false_iff_eq.mpr c5
  have c5d : decide (t = wrap64 (ji - 1)) = true := decide_eq_true c5
  obtain ⟨u, hu, h⟩ := Option.bind_eq_some_iff.1 h
  have HU := Aside0.mk hu
  clear c5 hu c3 c4
  by_cases c6 : now.length = 0
  case pos => rw [if_pos c6] at h; exact absurd h (by simp)
  rw [if_neg c6] at h
  obtain ⟨x, hx⟩ : ∃ x, wrap64 (s.1 + 1) = x := ⟨_, rfl⟩
  have hxw : (IntKind.i64.wrap (s.1 + 1)) = x := (i64_w _).trans hx
  obtain ⟨cc, hcc⟩ : ∃ cc, wrap64 (sign * u) = cc := ⟨_, rfl⟩
  have hccw : (IntKind.i64.wrap (sign * u)) = cc := (i64_w _).trans hcc
  rw [hx, hcc] at h
  have HH := Aside0.mk h
  have C6 := Aside0.mk c6
  clear h c6
  go_enter Try.func52, Try.ntmps52
  go_wp2
  have n0_ := Aside0.mk (HS.out.keep (below_drew1 (Below.refl _ _)))
  have n1_ := Aside0.mk (HK.out.step (below_drew1 (Below.refl _ _)))
  clear HS HK
  have HS := n0_; have HK := n1_
  clear n0_ n1_
  refine start_ (n := 7) (S := fun w' => True) (ds := []) #[false, false, false, false, false, false, false] (by kernel_rfl) rfl rfl trivial (fun hHeld => ?_); refine with_tabW refB.tab1 refB.bits1 (fun HT_ HW_ => ?_)
  generalize w.drew = w0 at HS HK hHeld ⊢
  refine pure_ (i := 0) (N := some 17) (v := ?_) (a' := ?_) #[true, false, false, false, false, false, false] rfl rfl (any_of HT_.out (by kernel_rfl)) (fun _ _ _ h => h) (Or.inl ⟨by rfl, ?_⟩) ?_ ?_
  rotate_left
  ·intro w'
   go_simp
   first | with_reducible rfl | rfl
  rotate_left
  ·simp only [Act.put, List.setIfInBounds_toArray, List.set_cons_zero, List.set_cons_succ, i64_w, i32_w]
   rfl
  refine pure_ (i := 1) (N := some 18) (v := ?_) (a' := ?_) #[true, true, false, false, false, false, false] rfl rfl (any_of HT_.out (by kernel_rfl)) (fun _ _ _ h => h) (Or.inl ⟨by rfl, ?_⟩) ?_ ?_
  rotate_left
  ·intro w'
   go_simp
   first | with_reducible rfl | rfl
  rotate_left
  ·simp only [Act.put, List.setIfInBounds_toArray, List.set_cons_zero, List.set_cons_succ, i64_w, i32_w]
   rfl
  refine pure_ (i := 3) (N := some 20) (v := ?_) (a' := ?_) #[true, true, false, true, false, false, false] rfl rfl (any_of HT_.out (by kernel_rfl)) (fun _ _ _ h => h) (Or.inl ⟨by rfl, ?_⟩) ?_ ?_
  rotate_left
  ·intro w'
   go_simp
   first | with_reducible rfl | rfl
  rotate_left
  ·simp only [Act.put, List.setIfInBounds_toArray, List.set_cons_zero, List.set_cons_succ, i64_w, i32_w]
   rfl
  refine pure_ (i := 4) (N := some 21) (v := ?_) (a' := ?_) #[true, true, false, true, true, false, false] rfl rfl (any_of HT_.out (by kernel_rfl)) (fun _ _ _ h => h) (Or.inl ⟨by rfl, ?_⟩) ?_ ?_
  rotate_left
  ·intro w'
   go_simp
   first | with_reducible rfl | rfl
  rotate_left
  ·simp only [Act.put, List.setIfInBounds_toArray, List.set_cons_zero, List.set_cons_succ, i64_w, i32_w]
   rfl
  refine pure_ (i := 5) (N := some 22) (v := ?_) (a' := ?_) #[true, true, false, true, true, true, false] rfl rfl (any_of HT_.out (by kernel_rfl)) (fun _ _ _ h => h) (Or.inl ⟨by rfl, ?_⟩) ?_ ?_
  rotate_left
  ·intro w'
   go_simp
   first | with_reducible rfl | rfl
  rotate_left
  ·simp only [Act.put, List.setIfInBounds_toArray, List.set_cons_zero, List.set_cons_succ, i64_w, i32_w]
   rfl
  refine one_ (i := 2) (N := some 19) #[true, true, true, true, true, true, false] rfl rfl (one_of HT_.out (by kernel_rfl)) (by decide) (fun K hK => ?_)
  refine goes_ Try.func56 (by kernel_rfl) rfl #[.slice A1 l.length c1, .slice AN now.length cN] (by rfl) rfl rfl (by (try simp only [List.map_toArray, List.map_cons, List.map_nil]); first | done | rfl) ?_
  with_reducible refine (trishawref03_reached.calls k A1 c1 l AN cN now t _ (HR1.out _ HK.out.keep) HC1.out (HRN.out _ HK.out.keep) HCN.out HT.out).mono ?_
  rintro e w1 ⟨rfl, hb⟩
  refine ⟨_, rfl, ?_⟩
  have n0_ := Aside0.mk (HS.out.keep hb)
  have n1_ := Aside0.mk (HK.out.step hb)
  clear HS HK hb
  have HS := n0_; have HK := n1_
  clear n0_ n1_
  refine hK.out _ _ trivial (fun hHeld => ?_)
  clear hK K
  refine norm_ (a' := ?_) ?_ ?_
  rotate_left
  ·show Act.put _ (some 19) _ = _
   simp only [Act.put, List.setIfInBounds_toArray, List.set_cons_zero, List.set_cons_succ, i64_w, i32_w]
   rfl
  refine pure_ (i := 6) (N := some 23) (v := ?_) (a' := ?_) #[true, true, true, true, true, true, true] rfl rfl (any_of HT_.out (by kernel_rfl)) (fun _ _ _ h => h) (Or.inl ⟨by rfl, ?_⟩) ?_ ?_
  rotate_left
  ·intro w'
   go_simp
   first | with_reducible rfl | rfl
  rotate_left
  ·simp only [Act.put, List.setIfInBounds_toArray, List.set_cons_zero, List.set_cons_succ, i64_w, i32_w]
   rfl
  refine done_ (done_of HT_.out (by kernel_rfl)) ?_
  by_cases c7 : s.2.2.length = 0
  case pos =>
   obtain ⟨rfl, rfl⟩ := HS.out.nil c7
   have h := HH.out
   rw [if_pos c7] at h
   obtain rfl := Option.some.inj h
   have C7 := Aside0.mk c7
   clear h HH c7
   have hx0 : w1.cell? ⟨g, 0, none⟩ = some (.int .i64 s.1) := (blk_cell HS.out.blk 0).trans rfl
   have hx1 : w1.cell? ⟨g, 1, none⟩ = some (.int .i64 s.2.1) := (blk_cell HS.out.blk 1).trans rfl
   have hx2 : w1.cell? ⟨g, 2, none⟩ = some (.slice none 0 0) := (blk_cell HS.out.blk 2).trans (by rw [C7.out]; rfl)
   have hf0 := blk_frozen HS.out.blk 0
   have hf1 := blk_frozen HS.out.blk 1
   have hf2 := blk_frozen HS.out.blk 2
   have heq0 : ∀ w, (binOp .eql 28 (.slice none 0 0) (.slice none 0 0)).run Try.prog w = .ok (.bool true) w := fun w => eql_nil28 w none 0 0
   go_wp2_with (first | (go_at_call 63; (refine (trishawref03_cost.calls k A1 c1 l AN cN now u _ (HR1.out _ (HK.out.set 0 _).keep) HC1.out (HRN.out _ (HK.out.set 0 _).keep) HCN.out HU.out).mono ?_); rintro e w2 ⟨rfl, hd⟩; have hb := hd.below; have n0_ := Aside0.mk ((HS.out.put0 x).keep hb); have n1_ := Aside0.mk ((HK.out.set 0 (.int .i64 x)).step hb); clear HS HK hb hd hx0 hx1 hx2 hf0 hf1 hf2; have HS := n0_; have HK := n1_; clear n0_ n1_; have hx1 : w2.cell? ⟨g, 1, none⟩ = some (.int .i64 s.2.1) := (blk_cell HS.out.blk 1).trans rfl; have hx2 : w2.cell? ⟨g, 2, none⟩ = some (.slice none 0 0) := (blk_cell HS.out.blk 2).trans (by rw [C7.out]; rfl); have hf1 := blk_frozen HS.out.blk 1; have hf2 := blk_frozen HS.out.blk 2))
   refine bodyPost_ret (results_none rfl _ _ _) rfl ?_
   exact ⟨rfl, (HK.out.set 2 _).set 1 _, _, _, HS.out.put21 (Kd.R_keep HNO.out HK.out.keep (fun _ hk => hk)) C6.out cc⟩
  have C7 := Aside0.mk c7
  obtain ⟨ad, hAB⟩ : ∃ ad, AB = some ad := by obtain ⟨x_, hx_, _⟩ := (HS.out.rd _ (KeepBut.refl _ _ _)).2.2 (by omega); exact ⟨x_, hx_⟩
  subst hAB
  have h := HH.out
  rw [if_neg c7] at h
  clear HH c7
  have hx0 : w1.cell? ⟨g, 0, none⟩ = some (.int .i64 s.1) := (blk_cell HS.out.blk 0).trans rfl
  have hx1 : w1.cell? ⟨g, 1, none⟩ = some (.int .i64 s.2.1) := (blk_cell HS.out.blk 1).trans rfl
  have hx2 : w1.cell? ⟨g, 2, none⟩ = some (.slice (some ad) s.2.2.length cB) := (blk_cell HS.out.blk 2).trans (by rfl)
  have hf0 := blk_frozen HS.out.blk 0
  have hf1 := blk_frozen HS.out.blk 1
  have hf2 := blk_frozen HS.out.blk 2
  have heq0 : ∀ w, (binOp .eql 28 (.slice (some ad) s.2.2.length cB) (.slice none 0 0)).run Try.prog w = .ok (.bool false) w := fun w => eql_nil28 w (some ad) _ _
  by_cases c8 : cc < s.2.1
  case pos =>
   rw [if_pos c8] at h
   obtain rfl := Option.some.inj h
   have c8b : decide (cc < s.2.1) = true := decide_eq_true c8
   clear h c8
   go_wp2_with (first | (go_at_call 63; (refine (trishawref03_cost.calls k A1 c1 l AN cN now u _ (HR1.out _ (HK.out.set 0 _).keep) HC1.out (HRN.out _ (HK.out.set 0 _).keep) HCN.out HU.out).mono ?_); rintro e w2 ⟨rfl, hd⟩; have hb := hd.below; have n0_ := Aside0.mk ((HS.out.put0 x).keep hb); have n1_ := Aside0.mk ((HK.out.set 0 (.int .i64 x)).step hb); clear HS HK hb hd hx0 hx1 hx2 hf0 hf1 hf2; have HS := n0_; have HK := n1_; clear n0_ n1_; have hx1 : w2.cell? ⟨g, 1, none⟩ = some (.int .i64 s.2.1) := (blk_cell HS.out.blk 1).trans rfl; have hx2 : w2.cell? ⟨g, 2, none⟩ = some (.slice (some ad) s.2.2.length cB) := (blk_cell HS.out.blk 2).trans (by rfl); have hf1 := blk_frozen HS.out.blk 1; have hf2 := blk_frozen HS.out.blk 2))
   refine bodyPost_ret (results_none rfl _ _ _) rfl ?_
   exact ⟨rfl, (HK.out.set 2 _).set 1 _, _, _, HS.out.put21 (Kd.R_keep HNO.out HK.out.keep (fun _ hk => hk)) C6.out cc⟩
  rw [if_neg c8] at h
  have c8b : decide (cc < s.2.1) = false := decide_eq_false c8
  clear c8
  by_cases c9 : cc = s.2.1
  case neg =>
   rw [if_neg c9] at h
   obtain rfl := Option.some.inj h
   have c9b : (cc == s.2.1) = false := beq_eq_false_iff_ne.mpr c9
   clear h c9
   go_wp2_with (first | (go_at_call 63; (refine (trishawref03_cost.calls k A1 c1 l AN cN now u _ (HR1.out _ (HK.out.set 0 _).keep) HC1.out (HRN.out _ (HK.out.set 0 _).keep) HCN.out HU.out).mono ?_); rintro e w2 ⟨rfl, hd⟩; have hb := hd.below; have n0_ := Aside0.mk ((HS.out.put0 x).keep hb); have n1_ := Aside0.mk ((HK.out.set 0 (.int .i64 x)).step hb); clear HS HK hb hd hx0 hx1 hx2 hf0 hf1 hf2; have HS := n0_; have HK := n1_; clear n0_ n1_; have hx1 : w2.cell? ⟨g, 1, none⟩ = some (.int .i64 s.2.1) := (blk_cell HS.out.blk 1).trans rfl; have hx2 : w2.cell? ⟨g, 2, none⟩ = some (.slice (some ad) s.2.2.length cB) := (blk_cell HS.out.blk 2).trans (by rfl); have hf1 := blk_frozen HS.out.blk 1; have hf2 := blk_frozen HS.out.blk 2))
   refine bodyPost_ret (results_none rfl _ _ _) rfl ?_
   exact ⟨rfl, HK.out, _, _, HS.out⟩
  rw [if_pos c9] at h
  have c9b : (cc == s.2.1) = true := beq_iff_eq.mpr c9
  clear c9
  obtain ⟨bb, hbb, h⟩ := Option.bind_eq_some_iff.1 h
  have HL := Aside0.mk hbb
  clear hbb
  cases bb with
  | true =>
   rw [if_pos rfl] at h
   obtain rfl := Option.some.inj h
   clear h
   go_wp2_with (first | (go_at_call 63; (refine (trishawref03_cost.calls k A1 c1 l AN cN now u _ (HR1.out _ (HK.out.set 0 _).keep) HC1.out (HRN.out _ (HK.out.set 0 _).keep) HCN.out HU.out).mono ?_); rintro e w2 ⟨rfl, hd⟩; have hb := hd.below; have n0_ := Aside0.mk ((HS.out.put0 x).keep hb); have n1_ := Aside0.mk ((HK.out.set 0 (.int .i64 x)).step hb); clear HS HK hb hd hx0 hx1 hx2 hf0 hf1 hf2; have HS := n0_; have HK := n1_; clear n0_ n1_; have hx1 : w2.cell? ⟨g, 1, none⟩ = some (.int .i64 s.2.1) := (blk_cell HS.out.blk 1).trans rfl; have hx2 : w2.cell? ⟨g, 2, none⟩ = some (.slice (some ad) s.2.2.length cB) := (blk_cell HS.out.blk 2).trans (by rfl); have hf1 := blk_frozen HS.out.blk 1; have hf2 := blk_frozen HS.out.blk 2) | (go_at_call 38; (refine (trishawref03_Less.calls k AN cN now (some ad) cB s.2.2 true _ (HRN.out _ HK.out.keep) HCN.out (HS.out.rd _ (KeepBut.refl _ _ _)) HS.out.len HL.out).mono ?_); rintro e w3 ⟨rfl, hd⟩; have hb := hd.below; have n0_ := Aside0.mk (HS.out.keep hb); have n1_ := Aside0.mk (HK.out.step hb); clear HS HK hb hd hx1 hx2 hf1 hf2; have HS := n0_; have HK := n1_; clear n0_ n1_; have hf1 := blk_frozen HS.out.blk 1; have hf2 := blk_frozen HS.out.blk 2; have hx1 : w3.cell? ⟨g, 1, none⟩ = some (.int .i64 s.2.1) := (blk_cell HS.out.blk 1).trans rfl; have hx2 : w3.cell? ⟨g, 2, none⟩ = some (.slice (some ad) s.2.2.length cB) := (blk_cell HS.out.blk 2).trans rfl))
   refine bodyPost_ret (results_none rfl _ _ _) rfl ?_
   exact ⟨rfl, (HK.out.set 2 _).set 1 _, _, _, HS.out.put21 (Kd.R_keep HNO.out HK.out.keep (fun _ hk => hk)) C6.out cc⟩
  | false =>
   rw [if_neg (by decide)] at h
   obtain rfl := Option.some.inj h
   clear h
   go_wp2_with (first | (go_at_call 63; (refine (trishawref03_cost.calls k A1 c1 l AN cN now u _ (HR1.out _ (HK.out.set 0 _).keep) HC1.out (HRN.out _ (HK.out.set 0 _).keep) HCN.out HU.out).mono ?_); rintro e w2 ⟨rfl, hd⟩; have hb := hd.below; have n0_ := Aside0.mk ((HS.out.put0 x).keep hb); have n1_ := Aside0.mk ((HK.out.set 0 (.int .i64 x)).step hb); clear HS HK hb hd hx0 hx1 hx2 hf0 hf1 hf2; have HS := n0_; have HK := n1_; clear n0_ n1_; have hx1 : w2.cell? ⟨g, 1, none⟩ = some (.int .i64 s.2.1) := (blk_cell HS.out.blk 1).trans rfl; have hx2 : w2.cell? ⟨g, 2, none⟩ = some (.slice (some ad) s.2.2.length cB) := (blk_cell HS.out.blk 2).trans (by rfl); have hf1 := blk_frozen HS.out.blk 1; have hf2 := blk_frozen HS.out.blk 2) | (go_at_call 38; (refine (trishawref03_Less.calls k AN cN now (some ad) cB s.2.2 false _ (HRN.out _ HK.out.keep) HCN.out (HS.out.rd _ (KeepBut.refl _ _ _)) HS.out.len HL.out).mono ?_); rintro e w3 ⟨rfl, hd⟩; have hb := hd.below; have n0_ := Aside0.mk (HS.out.keep hb); have n1_ := Aside0.mk (HK.out.step hb); clear HS HK hb hd hx1 hx2 hf1 hf2; have HS := n0_; have HK := n1_; clear n0_ n1_; have hf1 := blk_frozen HS.out.blk 1; have hf2 := blk_frozen HS.out.blk 2; have hx1 : w3.cell? ⟨g, 1, none⟩ = some (.int .i64 s.2.1) := (blk_cell HS.out.blk 1).trans rfl; have hx2 : w3.cell? ⟨g, 2, none⟩ = some (.slice (some ad) s.2.2.length cB) := (blk_cell HS.out.blk 2).trans rfl))
   refine bodyPost_ret (results_none rfl _ _ _) rfl ?_
   exact ⟨rfl, HK.out, _, _, HS.out⟩
 case neg =>
  rw [if_neg c3] at h
  have c3b : (corner == n) = false := beq_eq_false_iff_ne.mpr c3
  have c3c : decide (corner = n) = false := decide_eq_false c3
  clear c3
  have HH := Aside0.mk h
  clear h
  go_enter Try.func52, Try.ntmps52
  go_wp2
  go_loopg [13] k (fun kq v13 w' => ∃ (i : Int) (s' : FoundS) (AB' : Option Addr) (cB' : Nat), v13 = .int .i64 i ∧ Aside0 (refB.l0 kq n l sign corner now s' i = some r) ∧ Aside0 (kq ≤ k) ∧ Aside0 (KB g w w') ∧ Aside0 (FoundE g B0 w' s' AB' cB'))
  case atStart => exact ⟨0, s, AB, cB, rfl, HH, ⟨Nat.le_refl _⟩, HK, HS⟩
  case round =>
   clear HH HK HS
   obtain ⟨i, s', AB', cB', rfl, HH, HQ, HK, HS⟩ := hrel
   cases gk with
   | zero => exact absurd HH.out (by simp [refB.l0])
   | succ k1 =>
    have h := HH.out
    clear HH
    simp only [refB.l0] at h
    by_cases c4 : i < (l.length : Int)
    case neg =>
     rw [if_neg c4] at h
     obtain rfl := Option.some.inj h
     have c4b : decide (i < (l.length : Int)) = false := decide_eq_false c4
     clear h c4
     go_wp2
     refine bodyPost_end (results_none rfl _ _ _) rfl ?_
     exact ⟨rfl, HK.out, _, _, HS.out⟩
    rw [if_pos c4] at h
    have c4b : decide (i < (l.length : Int)) = true := decide_eq_true c4
    by_cases c5 : 0 ≤ i
    case neg => rw [if_neg c5] at h; exact absurd h (by simp)
    rw [if_pos c5] at h
    have c5b := eq_true c5
    have c4c := eq_true c4
    obtain ⟨ad1, e1, hy_0, hy_1, hy_2⟩ := at_T30 (HR1.out _ HK.out.keep) i c5 c4
    cases e1
    clear hy_0 hy_2 c4 c5
    by_cases c6 : (rd_T30 l i).f1 = corner
    case neg =>
     rw [if_neg c6] at h
     have c6b : ((rd_T30 l i).f1 == corner) = false := beq_eq_false_iff_ne.mpr c6
     clear c6
     have HH := Aside0.mk h
     clear h
     go_wp2
     go_roundg k1
     case measure => omega
     case rel => exact ⟨_, s', AB', cB', by first | rfl | (simp only [i64_w]; rfl), HH, ⟨by have := HQ.out; omega⟩, HK, HS⟩
    rw [if_pos c6] at h
    have c6b : ((rd_T30 l i).f1 == corner) = true := beq_iff_eq.mpr c6
    clear c6
    obtain ⟨t, ht, h⟩ := Option.bind_eq_some_iff.1 h
    obtain ⟨s2, hs2, h⟩ := Option.bind_eq_some_iff.1 h
    have HT := Aside0.mk ht
    have HS2 := Aside0.mk hs2
    have HH := Aside0.mk h
    clear h ht hs2
    go_wp2_with (first | (go_at_call 73; (refine (trishawref03_put.calls k1 AN cN now i t _ (HRN.out _ HK.out.keep) HCN.out HT.out).mono ?_); rintro e w2 ⟨vt, rfl, ho, hb⟩; obtain ⟨At, ct, hvt⟩ := Kd.R_slice ho; subst hvt; have hlt := blk_lt HS.out.blk; have HN := Aside0.mk (Kd.R_lower (Kd.R_mono (Kd.R_bound ho) (fun k_ hk_ => (by have := hk_.2.1; omega : k_ ≠ g))) (Nat.le_trans HB0.out HK.out.keep.1)); have n0_ := Aside0.mk (HS.out.keep hb); have n1_ := Aside0.mk (HK.out.step hb); clear HS HK hb ho hlt hy_1; have HS := n0_; have HK := n1_; clear n0_ n1_) | (go_at_call 52; (refine (IH.out k1 (by have := HQ.out; omega) g B0 n (some ad1) c1 l sign (wrap64 (corner + 1)) At ct t s' s2 AB' cB' _ (Nat.le_trans HB0.out HK.out.keep.1) HS.out (foot_step HR1.out HK.out.keep) HC1.out HN.out HS2.out).mono ?_); rintro e w3 ⟨rfl, hk, AB2, cB2, hs⟩; have n1_ := Aside0.mk (HK.out.trans hk); clear HS HK hk; have HS := Aside0.mk hs; have HK := n1_; clear n1_ hs))
    go_roundg k1
    case measure => omega
    case rel => exact ⟨_, s2, AB2, cB2, by first | rfl | (simp only [i64_w]; rfl), HH, ⟨by have := HQ.out; omega⟩, HK, HS⟩
end Go.Proofs.Ytpmadffgdfholaa.B
namespace Go.Proofs.Ytpmadffgdfholaa.B
set_option linter.unusedVariables false
set_option linter.unusedSimpArgs false
open Go.RowKit Go.MapKept Go.Proofs.YtpmadffgdfholaaW.PrintWords Go.Proofs.YtpmadffgdfholaaW.PrintLast Go.Proofs.YtpmadffgdfholaaW.PrintMore
theorem erase_toList (es : Array MapEntry) (j : Nat) : (es.eraseIdxIfInBounds j).toList = es.toList.eraseIdx j := by
  unfold Array.eraseIdxIfInBounds
  split
  · simp
  · rename_i h
    rw [List.eraseIdx_of_length_le (by simpa using h)]
theorem Good.erase {es : Array MapEntry} {clock : Nat} (h : Good es clock) (j : Nat) : Good (es.eraseIdxIfInBounds j) clock := by
  have hs : (es.eraseIdxIfInBounds j).toList.Sublist es.toList := by rw [erase_toList]; exact List.eraseIdx_sublist _ _
  exact ⟨fun e he => h.keys e (hs.subset he), (hs.map _).nodup h.once, (hs.map _).nodup h.born, fun e he => h.old e (hs.subset he)⟩
section
variable {P : Program} {w : World} {m mt kt et : Nat} {g : Int → Bool}
theorem SetM.delete (h : SetM w m g) (ht : P.underlying mt = some (.map kt et)) (hk : P.underlying kt = some (.int .i64)) (i : Int) (ty : TypeId) :
    ∃ w1, (Builtin.delete_ #[mt, kt] ty #[.map (some m), .int .i64 i]).run P w = .ok (.tuple #[]) w1 ∧ SetM w1 m (fun j => !decide (j = i) && g j) ∧ w.grownBy w1 (some m) := by
  obtain ⟨es, clock, hb, hg, hv, hi⟩ := h
  rcases findNow_spec (d := .int .i64) (k := .int .i64 i) rfl es.toList 0 hg.isKey with ⟨h1, h2⟩ | ⟨j, e', h1, h2, h3⟩
  · have hs := heap_set (o' := Obj.map es clock) hb
    refine ⟨{ w with heap := w.heap.setIfInBounds m (.map es clock) }, by simp [Builtin.delete_, run_underlying ht, Result.andThen, MapKept.run_getObj_map hb, run_checkKey hk (show IsKey (.int .i64) (.int .i64 i) from rfl), run_findKey hk h1, MapKept.run_setObj_map _ hb], ⟨es, clock, hs.1, hg, hv, fun j => ?_⟩, ⟨rfl, rfl, rfl, by simp, fun k hk hne => hs.2 k (fun h => hne (by rw [h]))⟩⟩
    by_cases hji : j = i
    · subst hji
      simp only [decide_true, Bool.not_true, Bool.false_and, Bool.false_eq_true, false_iff]
      rintro ⟨e, he, hk2⟩
      exact h2 e he hk2
    · simp only [hji, decide_false, Bool.not_false, Bool.true_and]
      exact hi j
  · simp only [Nat.zero_add] at h1
    have hs := heap_set (o' := Obj.map (es.eraseIdxIfInBounds j) clock) hb
    refine ⟨{ w with heap := w.heap.setIfInBounds m (.map (es.eraseIdxIfInBounds j) clock) }, by simp [Builtin.delete_, run_underlying ht, Result.andThen, MapKept.run_getObj_map hb, run_checkKey hk (show IsKey (.int .i64) (.int .i64 i) from rfl), run_findKey hk h1, MapKept.run_setObj_map _ hb], ⟨_, clock, hs.1, hg.erase j, ?_, fun q => ?_⟩, ⟨rfl, rfl, rfl, by simp, fun k hk hne => hs.2 k (fun h => hne (by rw [h]))⟩⟩
    · intro e he
      rw [erase_toList] at he
      exact hv e ((List.eraseIdx_sublist _ _).subset he)
    · have hn := hg.once
      have hq2 : (es.toList.map (·.key))[j]? = some (.int .i64 i) := by rw [List.getElem?_map, h2]; simp [h3]
      obtain ⟨l2, e2⟩ := List.getElem?_eq_some_iff.1 hq2
      rw [erase_toList]
      by_cases hqi : q = i
      · subst hqi
        simp only [decide_true, Bool.not_true, Bool.false_and, Bool.false_eq_true, false_iff]
        rintro ⟨e, he, hk2⟩
        rw [List.mem_eraseIdx_iff_getElem?] at he
        obtain ⟨p, hp, hpe⟩ := he
        have hq1 : (es.toList.map (·.key))[p]? = some (.int .i64 q) := by rw [List.getElem?_map, hpe]; simp [hk2]
        exact hp ((List.getElem?_inj l2 hn).1 (hq2.trans hq1.symm)).symm
      · simp only [hqi, decide_false, Bool.not_false, Bool.true_and]
        rw [hi q]
        constructor
        · rintro ⟨e, he, hk2⟩
          refine ⟨e, ?_, hk2⟩
          rw [List.mem_eraseIdx_iff_getElem?]
          obtain ⟨p, hp⟩ := List.getElem?_of_mem he
          refine ⟨p, ?_, hp⟩
          rintro rfl
          rw [h2] at hp
          injection hp with hp
          rw [← hp, h3] at hk2
          injection hk2 with _ hk2
          exact hqi hk2.symm
        · rintro ⟨e, he, hk2⟩
          exact ⟨e, (List.eraseIdx_sublist _ _).subset he, hk2⟩
end
theorem delete_event {P : Program} {ops : Array Oper} {rest : List Oper} {o : Oper} {a : Act} {Q : Exit → Act → World → Prop} {w : World} {m mt kt et : Nat} {g : Int → Bool} (hM : SetM w m g) (ht : P.underlying mt = some (.map kt et)) (hk : P.underlying kt = some (.int .i64))
    (hg : o.guard = none) (mo xo : Operand) (hop : o.op = Op.call { callee := Callee.builtin Builtin.delete, args := #[mo, xo], argTypes := #[mt, kt] }) {i : Int} (hm : a.eval mo = .map (some m)) (hx : a.eval xo = .int .i64 i)
    (hK : ∀ w2, SetM w2 m (fun j => !decide (j = i) && g j) → w.grownBy w2 (some m) → wpList P ops Q rest (a.put o.dst (.tuple #[])) w2) : wpList P ops Q (o :: rest) a w := by
  refine wpList_plain hg fun K' hK' => ?_
  obtain ⟨w2, hrun, r1, r2⟩ := hM.delete ht hk i o.type
  unfold Oper.wp
  simp [execOp, hop, resolve, invoke, builtin, hm, hx, hrun, Result.andThen]
  exact hK' _ _ (hK w2 r1 r2)
end Go.Proofs.Ytpmadffgdfholaa.B
namespace Go.Proofs
open Go.Shelf Go.RowKit Go.Lib Go.Sort
def Ytpmadffgdfholaa.B.laySort_ren : Go.Shelf.Ren := ⟨fun | 5 => 75 | 8 => 77 | 7 => 82 | 19 => 91 | 20 => 92 | 10 => 94 | 11 => 95 | 12 => 96 | 13 => 97 | 14 => 98 | 15 => 99 | 16 => 100 | 17 => 101 | 18 => 102 | 30 => 108 | 31 => 104 | 32 => 105 | 33 => 109 | 34 => 110 | 35 => 93 | 40 => 112 | n => n, fun | 23 => 28 | 25 => 3 | 3 => 3 | 32 => 104 | 22 => 28 | 0 => 0 | 44 => 116 | 46 => 118 | 4 => 4 | 36 => 110 | 35 => 109 | 41 => 90 | 5 => 5 | 9 => 9 | 53 => 124 | 57 => 128 | 63 => 132 | 64 => 83 | n => n, fun | n => n⟩
theorem Ytpmadffgdfholaa.B.laySort : Go.Proofs.SlLaysM.n5 Try.prog Ytpmadffgdfholaa.B.laySort_ren where
  mixed := by kernel_rfl
  f5 := ⟨Try.f75.name, by kernel_rfl, Try.func75.trans (congrArg some (by kernel_rfl))⟩
  f7 := ⟨Try.f82.name, by kernel_rfl, Try.func82.trans (congrArg some (by kernel_rfl))⟩
  f8 := Try.func77.trans (congrArg some (by kernel_rfl))
  f10 := ⟨Try.f94.name, by kernel_rfl, Try.func94.trans (congrArg some (by kernel_rfl))⟩
  f11 := ⟨Try.f95.name, by kernel_rfl, Try.func95.trans (congrArg some (by kernel_rfl))⟩
  f12 := ⟨Try.f96.name, by kernel_rfl, Try.func96.trans (congrArg some (by kernel_rfl))⟩
  f13 := ⟨Try.f97.name, by kernel_rfl, Try.func97.trans (congrArg some (by kernel_rfl))⟩
  f14 := ⟨Try.f98.name, by kernel_rfl, Try.func98.trans (congrArg some (by kernel_rfl))⟩
  f15 := ⟨Try.f99.name, by kernel_rfl, Try.func99.trans (congrArg some (by kernel_rfl))⟩
  f16 := ⟨Try.f100.name, by kernel_rfl, Try.func100.trans (congrArg some (by kernel_rfl))⟩
  f17 := ⟨Try.f101.name, by kernel_rfl, Try.func101.trans (congrArg some (by kernel_rfl))⟩
  f18 := ⟨Try.f102.name, by kernel_rfl, Try.func102.trans (congrArg some (by kernel_rfl))⟩
  f19 := Try.func91.trans (congrArg some (by kernel_rfl))
  f20 := Try.func92.trans (congrArg some (by kernel_rfl))
  f30 := ⟨Try.f108.name, by kernel_rfl, Try.func108.trans (congrArg some (by kernel_rfl))⟩
  f31 := Try.func104.trans (congrArg some (by kernel_rfl))
  f32 := Try.func105.trans (congrArg some (by kernel_rfl))
  f33 := ⟨Try.f109.name, by kernel_rfl, Try.func109.trans (congrArg some (by kernel_rfl))⟩
  f34 := ⟨Try.f110.name, by kernel_rfl, Try.func110.trans (congrArg some (by kernel_rfl))⟩
  f35 := ⟨Try.f93.name, by kernel_rfl, Try.func93.trans (congrArg some (by kernel_rfl))⟩
  f40 := ⟨Try.f112.name, by kernel_rfl, Try.func112.trans (congrArg some (by kernel_rfl))⟩
  t0 := Try.underlying0
  a0 := Try.isAgg0
  z0 := Try.sizeOf0
  v0 := Try.zeroValue0
  t3 := Try.underlying3
  a3 := Try.isAgg3
  z3 := Try.sizeOf3
  v3 := Try.zeroValue3
  t4 := Try.underlying4
  a4 := Try.isAgg4
  z4 := Try.sizeOf4
  v4 := Try.zeroValue4
  t5 := Try.underlying5
  a5 := Try.isAgg5
  z5 := Try.sizeOf5
  v5 := Try.zeroValue5
  t9 := Try.underlying9
  a9 := Try.isAgg9
  z9 := Try.sizeOf9
  v9 := Try.zeroValue9
  t22 := Try.underlying28
  a22 := Try.isAgg28
  z22 := Try.sizeOf28
  v22 := Try.zeroValue28
  t23 := Try.underlying28
  a23 := Try.isAgg28
  z23 := Try.sizeOf28
  v23 := Try.zeroValue28
  t25 := Try.underlying3
  a25 := Try.isAgg3
  z25 := Try.sizeOf3
  v25 := Try.zeroValue3
  t32 := Try.underlying104
  a32 := Try.isAgg104
  z32 := Try.sizeOf104
  v32 := Try.zeroValue104
  t35 := Try.underlying109
  a35 := Try.isAgg109
  z35 := Try.sizeOf109
  v35 := Try.zeroValue109
  t36 := Try.underlying110
  a36 := Try.isAgg110
  z36 := Try.sizeOf110
  v36 := Try.zeroValue110
  t41 := Try.underlying90
  a41 := Try.isAgg90
  z41 := Try.sizeOf90
  v41 := Try.zeroValue90
  t44 := Try.underlying116
  a44 := Try.isAgg116
  z44 := Try.sizeOf116
  v44 := Try.zeroValue116
  t46 := Try.underlying118
  a46 := Try.isAgg118
  z46 := Try.sizeOf118
  v46 := Try.zeroValue118
  t53 := Try.underlying124
  a53 := Try.isAgg124
  z53 := Try.sizeOf124
  v53 := Try.zeroValue124
  t57 := Try.underlying128
  a57 := Try.isAgg128
  z57 := Try.sizeOf128
  v57 := Try.zeroValue128
  t63 := Try.underlying132
  a63 := Try.isAgg132
  z63 := Try.sizeOf132
  v63 := Try.zeroValue132
  t64 := Try.underlying83
  a64 := Try.isAgg83
  z64 := Try.sizeOf83
  v64 := Try.zeroValue83
def Ytpmadffgdfholaa.B.laySortF_ren : Go.Shelf.Ren := ⟨fun | 6 => 65 | 15 => 77 | 14 => 76 | 28 => 91 | 29 => 92 | 20 => 83 | 21 => 84 | 22 => 85 | 23 => 86 | 24 => 87 | 25 => 88 | 26 => 89 | 27 => 90 | 46 => 103 | 47 => 104 | 48 => 105 | 49 => 106 | 50 => 107 | 57 => 111 | n => n, fun | 22 => 27 | 24 => 28 | 25 => 95 | 3 => 3 | 39 => 104 | 0 => 0 | 53 => 116 | 55 => 118 | 4 => 4 | 46 => 110 | 45 => 109 | 50 => 90 | 5 => 5 | 9 => 9 | 66 => 124 | 70 => 128 | 76 => 132 | 77 => 83 | n => n, fun | n => n⟩
theorem Ytpmadffgdfholaa.B.laySortF : Go.Proofs.SlLaysF.n6 Try.prog Ytpmadffgdfholaa.B.laySortF_ren where
  mixed := by kernel_rfl
  f6 := ⟨Try.f65.name, by kernel_rfl, Try.func65.trans (congrArg some (by kernel_rfl))⟩
  f14 := ⟨Try.f76.name, by kernel_rfl, Try.func76.trans (congrArg some (by kernel_rfl))⟩
  f15 := Try.func77.trans (congrArg some (by kernel_rfl))
  f20 := ⟨Try.f83.name, by kernel_rfl, Try.func83.trans (congrArg some (by kernel_rfl))⟩
  f21 := ⟨Try.f84.name, by kernel_rfl, Try.func84.trans (congrArg some (by kernel_rfl))⟩
  f22 := ⟨Try.f85.name, by kernel_rfl, Try.func85.trans (congrArg some (by kernel_rfl))⟩
  f23 := ⟨Try.f86.name, by kernel_rfl, Try.func86.trans (congrArg some (by kernel_rfl))⟩
  f24 := ⟨Try.f87.name, by kernel_rfl, Try.func87.trans (congrArg some (by kernel_rfl))⟩
  f25 := ⟨Try.f88.name, by kernel_rfl, Try.func88.trans (congrArg some (by kernel_rfl))⟩
  f26 := ⟨Try.f89.name, by kernel_rfl, Try.func89.trans (congrArg some (by kernel_rfl))⟩
  f27 := ⟨Try.f90.name, by kernel_rfl, Try.func90.trans (congrArg some (by kernel_rfl))⟩
  f28 := Try.func91.trans (congrArg some (by kernel_rfl))
  f29 := Try.func92.trans (congrArg some (by kernel_rfl))
  f46 := ⟨Try.f103.name, by kernel_rfl, Try.func103.trans (congrArg some (by kernel_rfl))⟩
  f47 := Try.func104.trans (congrArg some (by kernel_rfl))
  f48 := Try.func105.trans (congrArg some (by kernel_rfl))
  f49 := ⟨Try.f106.name, by kernel_rfl, Try.func106.trans (congrArg some (by kernel_rfl))⟩
  f50 := ⟨Try.f107.name, by kernel_rfl, Try.func107.trans (congrArg some (by kernel_rfl))⟩
  f57 := ⟨Try.f111.name, by kernel_rfl, Try.func111.trans (congrArg some (by kernel_rfl))⟩
  t0 := Try.underlying0
  a0 := Try.isAgg0
  z0 := Try.sizeOf0
  v0 := Try.zeroValue0
  t3 := Try.underlying3
  a3 := Try.isAgg3
  z3 := Try.sizeOf3
  v3 := Try.zeroValue3
  t4 := Try.underlying4
  a4 := Try.isAgg4
  z4 := Try.sizeOf4
  v4 := Try.zeroValue4
  t5 := Try.underlying5
  a5 := Try.isAgg5
  z5 := Try.sizeOf5
  v5 := Try.zeroValue5
  t9 := Try.underlying9
  a9 := Try.isAgg9
  z9 := Try.sizeOf9
  v9 := Try.zeroValue9
  t22 := Try.underlying27
  a22 := Try.isAgg27
  z22 := Try.sizeOf27
  v22 := Try.zeroValue27
  a24 := Try.isAgg28
  z24 := Try.sizeOf28
  t25 := Try.underlying95
  a25 := Try.isAgg95
  z25 := Try.sizeOf95
  v25 := Try.zeroValue95
  t39 := Try.underlying104
  a39 := Try.isAgg104
  z39 := Try.sizeOf104
  v39 := Try.zeroValue104
  t45 := Try.underlying109
  a45 := Try.isAgg109
  z45 := Try.sizeOf109
  v45 := Try.zeroValue109
  t46 := Try.underlying110
  a46 := Try.isAgg110
  z46 := Try.sizeOf110
  v46 := Try.zeroValue110
  t50 := Try.underlying90
  a50 := Try.isAgg90
  z50 := Try.sizeOf90
  v50 := Try.zeroValue90
  t53 := Try.underlying116
  a53 := Try.isAgg116
  z53 := Try.sizeOf116
  v53 := Try.zeroValue116
  t55 := Try.underlying118
  a55 := Try.isAgg118
  z55 := Try.sizeOf118
  v55 := Try.zeroValue118
  t66 := Try.underlying124
  a66 := Try.isAgg124
  z66 := Try.sizeOf124
  v66 := Try.zeroValue124
  t70 := Try.underlying128
  a70 := Try.isAgg128
  z70 := Try.sizeOf128
  v70 := Try.zeroValue128
  t76 := Try.underlying132
  a76 := Try.isAgg132
  z76 := Try.sizeOf132
  v76 := Try.zeroValue132
  t77 := Try.underlying83
  a77 := Try.isAgg83
  z77 := Try.sizeOf83
  v77 := Try.zeroValue83
end Go.Proofs
namespace Go.Proofs.Ytpmadffgdfholaa.B
set_option linter.unusedVariables false
set_option linter.unusedSimpArgs false
open Go.RowKit Go.Sort Go.Proofs.YtpmadffgdfholaaW.PrintWords Go.Proofs.YtpmadffgdfholaaW.PrintLast Go.Proofs.YtpmadffgdfholaaW.PrintMore
def sortI (xs : List Int) : List Int := xs.mergeSort fun x y => decide (x ≤ y)
section
variable {α : Type} [Inhabited α]
theorem putCells_take (enc : α → Value) (d : Array α) (cur : Array Value) (h : d.size ≤ cur.size) : (putCells enc 0 d cur).toList.take d.size = d.toList.map enc := by
  apply List.ext_getElem?
  intro i
  rw [List.getElem?_take]
  by_cases hi : i < d.size
  · rw [if_pos hi]
    simp only [putCells, Array.getElem?_toList, Array.getElem?_mapIdx, List.getElem?_map]
    rw [Array.getElem?_eq_getElem (show i < cur.size by omega), Array.getElem?_eq_getElem hi]
    simp [hi]
  · rw [if_neg hi]
    symm
    simp; omega
theorem putRow_block (enc : α → Value) {w : World} {g : Nat} {e : TypeId} {cur : Array Value} (hh : w.heap[g]? = some (.cells cur e (0, 0))) (q : Nat) (d : Array α) (os : Array Obj) :
    (Go.Sort.grow (putRow enc (Go.Sort.ahead w q) g 0 d) os).heap[g]? = some (.cells (putCells enc 0 d cur) e (0, 0)) ∧ w.grownBy (Go.Sort.grow (putRow enc (Go.Sort.ahead w q) g 0 d) os) (some g) := by
  have hlt := (Array.getElem?_eq_some_iff.1 hh).1
  refine ⟨?_, ?_⟩
  · rw [heap_grow_old _ _ (by simpa [putRow, mapBlock, Go.Sort.ahead] using hlt)]
    simp [putRow, mapBlock, Go.Sort.ahead, Array.getElem?_modify, hh, onCells]
  · refine ⟨rfl, rfl, rfl, by simp [putRow, mapBlock, Go.Sort.ahead], fun k hk hne => ?_⟩
    rw [heap_grow_old _ _ (by simpa [putRow, mapBlock, Go.Sort.ahead] using hk)]
    simp only [putRow, mapBlock, Go.Sort.ahead, Array.getElem?_modify]
    rw [if_neg (fun h => hne (by rw [h]))]
theorem own_put (enc : α → Value) {w : World} {g base n cap : Nat} {e : TypeId} {inner : List Value} (h : w.ownsRow base e 1 (.slice (some ⟨g, 0, none⟩) n cap) n inner) (q : Nat) (d : Array α) (hd : d.size = n) (os : Array Obj) :
    (Go.Sort.grow (putRow enc (Go.Sort.ahead w q) g 0 d) os).ownsRow base e 1 (.slice (some ⟨g, 0, none⟩) n cap) n (d.toList.map enc) ∧ w.grownBy (Go.Sort.grow (putRow enc (Go.Sort.ahead w q) g 0 d) os) (some g) := by
  obtain ⟨h1, h2⟩ := h
  rcases h2 with ⟨h2, _⟩ | ⟨g', cap', cur, h2, hb, hh, hc, hm, hs, ht⟩
  · cases h2
  · injection h2 with h2 _ h3
    injection h2 with h2
    injection h2 with h2
    subst h2 h3
    obtain ⟨hp1, hp2⟩ := putRow_block enc hh q d os
    refine ⟨⟨by simp [hd], .inr ⟨g, cap, _, rfl, hb, hp1, hc, hm, by simp [putCells, hs], ?_⟩⟩, hp2⟩
    rw [Nat.mul_one]
    subst hd
    exact putCells_take enc d cur (by omega)
theorem own_holds (enc : α → Value) {w : World} {g base n cap : Nat} {e : TypeId} {d : Array α} (h : w.ownsRow base e 1 (.slice (some ⟨g, 0, none⟩) n cap) n (d.toList.map enc)) (hd : d.size = n) : Holds enc w g 0 d ∧ g < w.heap.size := by
  refine ⟨fun j hj => ?_, own_lt h g rfl⟩
  rw [Nat.zero_add]
  refine ⟨?_, ?_⟩
  · have hc := h.cells (g := g) rfl j (enc d[j]!) (by simp [hj])
    rwa [add_plain] at hc
  · rcases h.2 with ⟨h', _⟩ | ⟨g', cap', cur, h', _, hh, _⟩
    · cases h'
    · have : g = g' := by injection h' with h'; injection h' with h'; injection h' with h'
      subst this
      simp [World.frozen?, hh]
end
theorem reps_one {α : Type} {enc : α → Value} {xs : List α} {inner : List Value} (hr : Reps (fun (x : α) (cs : List Value) => cs = [enc x]) 1 xs inner) : inner = xs.map enc := by
  apply List.ext_getElem?
  intro i
  rw [List.getElem?_map]
  cases hx : xs[i]? with
  | none =>
    have h1 := hr.1
    rw [List.getElem?_eq_none_iff] at hx
    simp only [Option.map_none, List.getElem?_eq_none_iff]
    omega
  | some x =>
    have h2 := hr.2 i x hx
    have h3 : ((inner.drop (i * 1)).take 1)[0]? = some (enc x) := by rw [h2]; rfl
    rw [List.getElem?_take] at h3
    simpa using h3
theorem sort_calls (A : Option Addr) (c : Nat) (xs : List Int) (base : Nat) (w : World) (hR : Kd.R (Kd.int .i64) 3 w base (fun _ => True) (.slice A xs.length c) xs) (hne : xs ≠ []) (hl : xs.length < 2000000) :
    Calls Try.prog 75 #[.slice A xs.length c] w fun e w' => e = .returned (.tuple #[]) ∧ Kd.R (Kd.int .i64) 3 w' base (fun _ => True) (.slice A xs.length c) (sortI xs) ∧ w.grownBy w' (Value.slice A xs.length c).ownBlock := by
  obtain ⟨g, cap, e, hb, hg, cells, hc⟩ := Kd.R_form hR (List.length_pos_iff.2 hne)
  injection e with e _ e2
  subst e e2
  obtain ⟨h0, inner, ho, hr⟩ := hR
  have hin : inner = xs.toArray.toList.map (Value.int .i64) := by
    simpa using reps_one hr
  subst hin
  have hh := own_holds (Value.int .i64) ho (by simp)
  have h := AnyM.slices_Sort_int laySort g 0 c xs w hh.1 hh.2 (by omega)
  change Calls Try.prog 75 _ _ _ at h
  refine h.mono fun e w' hw => ?_
  obtain ⟨he, q, os, rfl⟩ := hw
  have hp := own_put (Value.int .i64) ho q (xs.mergeSort fun x y => decide (x ≤ y)).toArray (by simp) os
  refine ⟨he, ⟨h0, (sortI xs).map (Value.int .i64), ?_, Kd.reps_scalar _⟩, hp.2⟩
  have hl2 : (sortI xs).length = xs.length := List.length_mergeSort _
  rw [hl2]; exact hp.1
end Go.Proofs.Ytpmadffgdfholaa.B
