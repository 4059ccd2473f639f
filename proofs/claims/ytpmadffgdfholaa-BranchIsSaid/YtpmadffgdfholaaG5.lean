/- Texts behind the row of BranchIs, part 5: contracts of the functions it reaches, words that their walks use, and lemmas in plain Lean. -/
import Derived.Below
import Derived.Deep.Draws
import Derived.Deep.AppendLies
import Derived.Maps.AppendAt
import Derived.OwnWalk
import Derived.Laws.BytesArg
import Derived.Laws.MakeOwn
import Derived.Laws.OwnMore
import Derived.Deep.OwnRows
import Derived.Tactics
import Derived.Lib.ConvBytes
import Derived.Laws.Slices
import Derived.WalkKit
import Derived.KernelRfl
import Derived.RowKit3
import Derived.Deep.LoopGhost
import Derived.Deep.QuietTactic
import Derived.BigQuiet
import Derived.WideLaws
import Derived.Deep.DeepCutAuto
import Derived.Deep.CutBlock
import Derived.Deep.RegionHeld3
import Derived.Laws.Rows
import Derived.Lib.AppendStr
import Derived.ArgAppend
import Derived.Laws.IdiomCopy
import Derived.RowKit
import Derived.OrdersHeld
import Derived.Laws.BitsLemmas
import Derived.Test.YtpmadffgdfholaaProg
import Derived.Laws.StructEq
import Derived.MapKept
import Derived.WalkSpells
import Derived.Deep.DrawnRows
import Derived.Maps.RangeWalk
import Derived.Laws.EntriesVeiled
import Derived.Deep.Slices
import Derived.Deep.Fields
import Derived.ChangeSame
import Derived.ChangeSlices
import Derived.Test.YtpmadffgdfholaaG1
import Derived.Test.YtpmadffgdfholaaG2
import Derived.Test.YtpmadffgdfholaaG3
import Derived.Test.YtpmadffgdfholaaG4
namespace Go.Proofs.Ytpmadffgdfholaa.B
open Go.RowKit Go.Proofs.YtpmadffgdfholaaW.PrintWords Go.Proofs.YtpmadffgdfholaaW.PrintLast Go.Proofs.YtpmadffgdfholaaW.PrintMore
attribute [local go_sem] max2_int min2_int max_two min_two max_three min_three max_four min_four   -- for this text's walks alone
set_option linter.unusedVariables false
set_option linter.unusedSimpArgs false
def branch_town_alone_1.f (a0 : Int) (l1_0 : List Int) (a2_0 : (Int → Option Bool)) : Option (Bool) := if 0 ≤ a0 then (if a0 < (l1_0.length : Int) then (if (rd l1_0 a0) = 0 then ((a2_0 a0).bind fun t104 => (some (!t104))) else (some false)) else (none)) else (none)
set_option maxHeartbeats 8000000 in
set_option maxRecDepth 100000 in
theorem branch_town_alone_1.calls (a0 : Int) (g1 : Nat) (A1_0 : Option Addr) (c1_0 : Nat) (l1_0 : List Int) (g2 : Nat) (vf2_0 : Value) (a2_0 : (Int → Option Bool)) (r : Bool) (w : World) (hP1 : w.heap[g1]? = some (.cells #[.slice A1_0 l1_0.length c1_0] 28 (0, 0))) (hr1_0 : Kd.C (Kd.int .i64) w A1_0 l1_0.length l1_0) (hc1_0 : l1_0.length ≤ c1_0) (hP2 : w.heap[g2]? = some (.cells #[vf2_0] 75 (0, 0))) (hF2_0 : IsFn Try.prog w vf2_0 a2_0) (h : branch_town_alone_1.f a0 l1_0 a2_0 = some r) :
    Calls Try.prog 79 #[.int .i64 a0, .pointer (some ⟨g1, 0, none⟩), .pointer (some ⟨g2, 0, none⟩)] w fun e w' => e = .returned (.bool r) ∧ Below w.heap.size w w' := by
  have HP1 := Aside0.mk hP1
  clear hP1
  have HR1_0 := Aside0.mk hr1_0
  have HC1_0 := Aside0.mk hc1_0
  clear hr1_0 hc1_0
  have HP2 := Aside0.mk hP2
  clear hP2
  have HF2_0 := Aside0.mk hF2_0
  clear hF2_0
  have HB := Aside0.mk (Below.refl w.heap.size w)
  have H : (if 0 ≤ a0 then (if a0 < (l1_0.length : Int) then (if (rd l1_0 a0) = 0 then ((a2_0 a0).bind fun t104 => (some (!t104))) else (some false)) else (none)) else (none)) = some r := h
  clear h
  by_cases c4 : 0 ≤ a0
  · rw [if_pos c4] at H
    have c4b0 : decide (0 ≤ a0) = true := decide_eq_true c4
    clear c4
    by_cases c5 : a0 < (l1_0.length : Int)
    · rw [if_pos c5] at H
      have c5b0 : decide (a0 < (l1_0.length : Int)) = true := decide_eq_true c5
      clear c5
      by_cases c6 : (rd l1_0 a0) = 0
      · rw [if_pos c6] at H
        have c6b0 : ((rd l1_0 a0) == 0) = true := beq_iff_eq.mpr c6
        have c6b1 : ((rd l1_0 a0) != 0) = false := bne_eq_false_iff_eq.mpr c6
        clear c6
        replace H := Option.bind_eq_some_iff.mp H
        obtain ⟨t104, A70, H⟩ := H
        replace H : (some (!t104)) = some r := H
        have A7 := Aside0.mk A70
        clear A70
        obtain rfl := Option.some.inj H
        have hx101_0 := blk_cell HP1.out 0
        replace hx101_0 := hx101_0.trans rfl
        have p102 : 0 ≤ (a0 : Int) := of_decide_eq_true (by first | (with_reducible assumption) | assumption)
        have q102 : a0 < (l1_0.length : Int) := of_decide_eq_true (by first | (with_reducible assumption) | assumption)
        obtain ⟨ad102, e102, hx102_0⟩ := Kd.at_int HR1_0.out a0 p102 q102
        cases e102
        replace p102 := eq_true p102
        replace q102 := eq_true q102
        have hx103_0 := blk_cell HP2.out 0
        replace hx103_0 := hx103_0.trans rfl
        go_enter Try.func79, Try.ntmps79
        go_wp2_with (first | ((with_reducible refine gate_dst (N := 13) rfl ?_); (try (refine gate_guard (by rfl) ?_; dsimp only)); refine goesF_ (some 13) rfl rfl HF2_0.out rfl rfl (i := a0) rfl ?sideB A7.out ?_; (case sideB => exact by repeat (first | (with_reducible first | exact HB.out | apply below_alloc | apply pw_below_drewN | apply below_drew1) | exact HB.out)); intro w8 hb; have n0_ := Aside0.mk (below_step (by repeat (first | (with_reducible first | exact HB.out | apply below_alloc | apply pw_below_drewN | apply below_drew1) | exact HB.out)) hb); clear HB; have HB := n0_; clear n0_; (try clear hb); (try clear hb2); (try clear hk); (try clear hi)))
        go_ret
        exact ⟨by first | rfl | (simp [errW_none, errW_some] <;> rfl) | (simp [*, errW_none, errW_some] <;> rfl), by repeat (first | (with_reducible first | exact HB.out | apply below_alloc | apply pw_below_drewN | apply below_drew1) | exact HB.out)⟩
      · rw [if_neg c6] at H
        have c6b0 : ((rd l1_0 a0) == 0) = false := beq_eq_false_iff_ne.mpr c6
        have c6b1 : ((rd l1_0 a0) != 0) = true := bne_iff_ne.mpr c6
        obtain rfl := Option.some.inj H
        have hx101_0 := blk_cell HP1.out 0
        replace hx101_0 := hx101_0.trans rfl
        have p102 : 0 ≤ (a0 : Int) := of_decide_eq_true (by first | (with_reducible assumption) | assumption)
        have q102 : a0 < (l1_0.length : Int) := of_decide_eq_true (by first | (with_reducible assumption) | assumption)
        obtain ⟨ad102, e102, hx102_0⟩ := Kd.at_int HR1_0.out a0 p102 q102
        cases e102
        replace p102 := eq_true p102
        replace q102 := eq_true q102
        go_enter Try.func79, Try.ntmps79
        go_wp2
        go_ret
        exact ⟨by first | rfl | (simp [errW_none, errW_some] <;> rfl) | (simp [*, errW_none, errW_some] <;> rfl), by repeat (first | (with_reducible first | exact HB.out | apply below_alloc | apply pw_below_drewN | apply below_drew1) | exact HB.out)⟩
    · rw [if_neg c5] at H
      exact absurd H (by simp)
  · rw [if_neg c4] at H
    exact absurd H (by simp)
mutual
def branch_town_alone_2.l0 : Nat → Int → Int → Int → Int → List (S30) → (Int → Option Bool) → Option (Int)
  | 0, _, _, _, _, _, _ => none
  | k + 1, x5, x13, x14, x2000, x2001, x3000 => if x14 < x13 then (branch_town_alone_2.l1 k x5 x13 x14 x2001 (x2001.length : Int) 0 x2000 x2001 x3000) else (some x5)
def branch_town_alone_2.l1 : Nat → Int → Int → Int → List (S30) → Int → Int → Int → List (S30) → (Int → Option Bool) → Option (Int)
  | 0, _, _, _, _, _, _, _, _, _ => none
  | k + 1, x5, x13, x14, x19, x20, x21, x2000, x2001, x3000 => if x21 < x20 then (if 0 ≤ x21 then (if x21 < (x19.length : Int) then ((x3000 x21).bind fun t112 => (if t112 = true then (if 0 ≤ ((rd_T30 x19 x21).f0) then (if (Go.bits .and .i64 (shr .i64 x5 ((rd_T30 x19 x21).f0)) 1) = 1 then (if 0 ≤ ((rd_T30 x19 x21).f1) then (branch_town_alone_2.l1 k (Go.bits .or .i64 x5 (shl .i64 1 ((rd_T30 x19 x21).f1))) x13 x14 x19 x20 (wrap64 (x21 + 1)) x2000 x2001 x3000) else (none)) else (branch_town_alone_2.l1 k x5 x13 x14 x19 x20 (wrap64 (x21 + 1)) x2000 x2001 x3000)) else (none)) else (branch_town_alone_2.l1 k x5 x13 x14 x19 x20 (wrap64 (x21 + 1)) x2000 x2001 x3000))) else (none)) else (none)) else (branch_town_alone_2.l0 k x5 x13 (wrap64 (x14 + 1)) x2000 x2001 x3000)
end
def branch_town_alone_2.f (k : Nat) (a0 : Int) (a1_0 : Int) (l1_1 : List (S30)) (a2_0 : (Int → Option Bool)) : Option (Int) := if 0 ≤ a0 then (branch_town_alone_2.l0 k (shl .i64 1 a0) a1_0 0 a1_0 l1_1 a2_0) else (none)
theorem branch_town_alone_2.mono_l : ∀ k, (∀ y0 y1 y2 y3 y4 y5, LeO (branch_town_alone_2.l0 k y0 y1 y2 y3 y4 y5) (branch_town_alone_2.l0 (k + 1) y0 y1 y2 y3 y4 y5)) ∧ (∀ y0 y1 y2 y3 y4 y5 y6 y7 y8, LeO (branch_town_alone_2.l1 k y0 y1 y2 y3 y4 y5 y6 y7 y8) (branch_town_alone_2.l1 (k + 1) y0 y1 y2 y3 y4 y5 y6 y7 y8))
  | 0 => ⟨fun _ _ _ _ _ _ r h => by simp [branch_town_alone_2.l0] at h, fun _ _ _ _ _ _ _ _ _ r h => by simp [branch_town_alone_2.l1] at h⟩
  | k + 1 => by
    obtain ⟨ih0, ih1⟩ := branch_town_alone_2.mono_l k
    refine ⟨?_, ?_⟩
    · intro y0 y1 y2 y3 y4 y5
      unfold branch_town_alone_2.l0
      repeat' first
      | (with_reducible exact ih0 _ _ _ _ _ _)
      | (with_reducible exact ih1 _ _ _ _ _ _ _ _ _)
      | (with_reducible exact LeO.refl _)
      | (with_reducible exact LeO.none _)
      | (with_reducible refine LeO.ite ?_ ?_)
      | (with_reducible refine LeO.bind ?_ (fun _ => ?_))
      | exact ih0 _ _ _ _ _ _
      | exact ih1 _ _ _ _ _ _ _ _ _
      | exact LeO.none _
      | refine LeO.ite ?_ ?_
      | refine LeO.bind ?_ (fun _ => ?_)
    · intro y0 y1 y2 y3 y4 y5 y6 y7 y8
      unfold branch_town_alone_2.l1
      repeat' first
      | (with_reducible exact ih0 _ _ _ _ _ _)
      | (with_reducible exact ih1 _ _ _ _ _ _ _ _ _)
      | (with_reducible exact LeO.refl _)
      | (with_reducible exact LeO.none _)
      | (with_reducible refine LeO.ite ?_ ?_)
      | (with_reducible refine LeO.bind ?_ (fun _ => ?_))
      | exact ih0 _ _ _ _ _ _
      | exact ih1 _ _ _ _ _ _ _ _ _
      | exact LeO.none _
      | refine LeO.ite ?_ ?_
      | refine LeO.bind ?_ (fun _ => ?_)
theorem branch_town_alone_2.mono : ∀ a0 a1 a2 a3 k, LeO (branch_town_alone_2.f k a0 a1 a2 a3) (branch_town_alone_2.f (k + 1) a0 a1 a2 a3) := by
  intro a0 a1 a2 a3 k
  obtain ⟨ih0, ih1⟩ := branch_town_alone_2.mono_l k
  unfold branch_town_alone_2.f
  repeat' first
      | (with_reducible exact ih0 _ _ _ _ _ _)
      | (with_reducible exact ih1 _ _ _ _ _ _ _ _ _)
      | (with_reducible exact LeO.refl _)
      | (with_reducible exact LeO.none _)
      | (with_reducible refine LeO.ite ?_ ?_)
      | (with_reducible refine LeO.bind ?_ (fun _ => ?_))
      | exact ih0 _ _ _ _ _ _
      | exact ih1 _ _ _ _ _ _ _ _ _
      | exact LeO.none _
      | refine LeO.ite ?_ ?_
      | refine LeO.bind ?_ (fun _ => ?_)
set_option maxHeartbeats 8000000 in
set_option maxRecDepth 100000 in
theorem branch_town_alone_2.calls (k : Nat) (a0 : Int) (g1 : Nat) (gg1 : Nat) (a1_0 : Int) (A1_1 : Option Addr) (c1_1 : Nat) (l1_1 : List (S30)) (a1_2 : Option Nat) (g2 : Nat) (vf2_0 : Value) (a2_0 : (Int → Option Bool)) (r : Int) (w : World) (hP1 : w.heap[g1]? = some (.cells #[.pointer (some ⟨gg1, 0, none⟩)] 65 (0, 0))) (hQ1 : w.heap[gg1]? = some (.cells #[.int .i64 a1_0, .slice A1_1 l1_1.length c1_1, .map a1_2] 70 (0, 0))) (hr1_1 : Kd.C k30 w A1_1 l1_1.length l1_1) (hc1_1 : l1_1.length ≤ c1_1) (hP2 : w.heap[g2]? = some (.cells #[vf2_0] 75 (0, 0))) (hF2_0 : IsFn Try.prog w vf2_0 a2_0) (h : branch_town_alone_2.f k a0 a1_0 l1_1 a2_0 = some r) :
    Calls Try.prog 80 #[.int .i64 a0, .pointer (some ⟨g1, 0, none⟩), .pointer (some ⟨g2, 0, none⟩)] w fun e w' => e = .returned (.int .i64 r) ∧ Below w.heap.size w w' := by
  have hu65 := Try.underlying65
  have hu30 := Try.underlying30
  have HP1 := Aside0.mk hP1
  clear hP1
  have HQ1 := Aside0.mk hQ1
  clear hQ1
  have HR1_1 := Aside0.mk hr1_1
  have HC1_1 := Aside0.mk hc1_1
  clear hr1_1 hc1_1
  have HP2 := Aside0.mk hP2
  clear hP2
  have HF2_0 := Aside0.mk hF2_0
  clear hF2_0
  have HB := Aside0.mk (Below.refl w.heap.size w)
  have H : (if 0 ≤ a0 then (branch_town_alone_2.l0 k (shl .i64 1 a0) a1_0 0 a1_0 l1_1 a2_0) else (none)) = some r := h
  clear h
  by_cases c4 : 0 ≤ a0
  · rw [if_pos c4] at H
    have c4b0 := eq_true c4
    have c4b1 : decide (0 ≤ a0) = true := decide_eq_true c4
    clear c4
    obtain ⟨ji5, hji5⟩ : ∃ j_ : Int, (shl .i64 1 a0) = j_ := ⟨_, rfl⟩
    replace H : (branch_town_alone_2.l0 k ji5 a1_0 0 a1_0 l1_1 a2_0) = some r := by first | (rw [hji5] at H; exact H) | (simp only [hji5] at H ⊢; exact H)
    have hji5_ : (IntKind.i64.wrap (1 * 2 ^ min a0.toNat 64)) = ji5 := hji5
    have hji5z : a0 ≤ 64 → (IntKind.i64.wrap (1 * 2 ^ a0.toNat)) = ji5 := shl_small hji5
    have hji5u : (IntKind.i64.wrap (2 ^ min a0.toNat 64)) = ji5 := by have h_ := hji5_; rw [Int.one_mul] at h_; exact h_
    have hji5v : a0 ≤ 64 → (IntKind.i64.wrap (2 ^ a0.toNat)) = ji5 := fun hle_ => by have h_ := hji5z hle_; rw [Int.one_mul] at h_; exact h_
    have hji5y : (wrap64 (1 * 2 ^ min a0.toNat 64)) = ji5 := (i64_w _).symm.trans hji5_
    have hji5x : a0 ≤ 64 → (wrap64 (1 * 2 ^ a0.toNat)) = ji5 := fun h_ => (i64_w _).symm.trans (hji5z h_)
    have H' := Aside0.mk H
    clear H
    have hx105_0 := blk_cell HP1.out 0
    replace hx105_0 := hx105_0.trans rfl
    have hx106_0 := blk_cell HQ1.out 0
    replace hx106_0 := hx106_0.trans rfl
    have hx106_1 := blk_cell HQ1.out 1
    replace hx106_1 := hx106_1.trans rfl
    have hx106_2 := blk_cell HQ1.out 2
    replace hx106_2 := hx106_2.trans rfl
    go_enter Try.func80, Try.ntmps80
    go_wp2
    go_loopg [5, 14] k (fun kq v5 v14 w' => ∃ (x5_1 : Int) (x14_1 : Int), v5 = .int .i64 x5_1 ∧ v14 = .int .i64 x14_1 ∧ Aside0 (branch_town_alone_2.l0 kq x5_1 a1_0 x14_1 a1_0 l1_1 a2_0 = some r) ∧ Aside0 (kq ≤ k) ∧ Aside0 (Below w.heap.size w w'))
    case atStart => exact ⟨(ji5), (0), (by first | rfl | (simp; done) | (simp only [← hji5] <;> (first | rfl | simp)) | (simp [*]; done)), (by first | rfl | (simp; done) | (simp [*]; done)), H', ⟨Nat.le_refl _⟩, ⟨by repeat (first | (with_reducible first | exact HB.out | apply below_alloc | apply pw_below_drewN | apply below_drew1) | exact HB.out)⟩⟩
    case round =>
      clear H'
      try clear c1
      try clear hx1
      try clear p2
      try clear c4
      try clear c4b0
      try clear c4b1
      try clear hx105_0
      try clear hx106_0
      try clear hx106_1
      try clear hx106_2
      obtain ⟨x5_1, x14_1, rfl, rfl, HA, HK1, HB⟩ := hrel
      cases gk with
      | zero => exact absurd HA.out (by simp [branch_town_alone_2.l0])
      | succ k1 =>
        have H := HA.out
        clear HA
        simp only [branch_town_alone_2.l0] at H
        by_cases c6 : x14_1 < a1_0
        · rw [if_pos c6] at H
          have c6b0 : decide (x14_1 < a1_0) = true := decide_eq_true c6
          clear c6
          have H' := Aside0.mk H
          clear H
          have hx107_0 := blk_cell HP1.out 0
          replace hx107_0 := hx107_0.trans rfl
          replace hx107_0 := (HB.out.cell (World.block_lt_of_cell? w _ hx107_0)).trans hx107_0
          have hx108_0 := blk_cell HQ1.out 0
          replace hx108_0 := hx108_0.trans rfl
          replace hx108_0 := (HB.out.cell (World.block_lt_of_cell? w _ hx108_0)).trans hx108_0
          have hx108_1 := blk_cell HQ1.out 1
          replace hx108_1 := hx108_1.trans rfl
          replace hx108_1 := (HB.out.cell (World.block_lt_of_cell? w _ hx108_1)).trans hx108_1
          have hx108_2 := blk_cell HQ1.out 2
          replace hx108_2 := hx108_2.trans rfl
          replace hx108_2 := (HB.out.cell (World.block_lt_of_cell? w _ hx108_2)).trans hx108_2
          go_wp2
          go_loopg [5, 21] k1 (fun kq v5 v21 w' => ∃ (x5_2 : Int) (x21_2 : Int), v5 = .int .i64 x5_2 ∧ v21 = .int .i64 x21_2 ∧ Aside0 (branch_town_alone_2.l1 kq x5_2 a1_0 x14_1 l1_1 (l1_1.length : Int) x21_2 a1_0 l1_1 a2_0 = some r) ∧ Aside0 (kq ≤ k1) ∧ Aside0 (Below w.heap.size w w'))
          case atStart => exact ⟨(x5_1), (0), (by first | rfl | (simp; done) | (simp [*]; done)), (by first | rfl | (simp; done) | (simp [*]; done)), H', ⟨Nat.le_refl _⟩, ⟨by repeat (first | (with_reducible first | exact HB.out | apply below_alloc | apply pw_below_drewN | apply below_drew1) | exact HB.out)⟩⟩
          case round =>
            clear H'
            try clear c1
            try clear hx1
            try clear p2
            try clear c4
            try clear c4b0
            try clear c4b1
            try clear c6
            try clear c6b0
            try clear p6
            try clear hx105_0
            try clear hx106_0
            try clear hx106_1
            try clear hx106_2
            try clear hx107_0
            try clear hx108_0
            try clear hx108_1
            try clear hx108_2
            try clear p2
            obtain ⟨x5_2, x21_2, rfl, rfl, HA, HK2, HB⟩ := hrel
            cases gk with
            | zero => exact absurd HA.out (by simp [branch_town_alone_2.l1])
            | succ k2 =>
              have H := HA.out
              clear HA
              simp only [branch_town_alone_2.l1] at H
              by_cases c7 : x21_2 < (l1_1.length : Int)
              · rw [if_pos c7] at H
                have c7b0 : decide (x21_2 < (l1_1.length : Int)) = true := decide_eq_true c7
                clear c7
                by_cases c8 : 0 ≤ x21_2
                · rw [if_pos c8] at H
                  have c8b0 : decide (0 ≤ x21_2) = true := decide_eq_true c8
                  clear c8
                  by_cases c9 : x21_2 < (l1_1.length : Int)
                  · rw [if_pos c9] at H
                    have c9b0 : decide (x21_2 < (l1_1.length : Int)) = true := decide_eq_true c9
                    clear c9
                    replace H := Option.bind_eq_some_iff.mp H
                    obtain ⟨t112, A100, H⟩ := H
                    replace H : (if t112 = true then (if 0 ≤ ((rd_T30 l1_1 x21_2).f0) then (if (Go.bits .and .i64 (shr .i64 x5_2 ((rd_T30 l1_1 x21_2).f0)) 1) = 1 then (if 0 ≤ ((rd_T30 l1_1 x21_2).f1) then (branch_town_alone_2.l1 k2 (Go.bits .or .i64 x5_2 (shl .i64 1 ((rd_T30 l1_1 x21_2).f1))) a1_0 x14_1 l1_1 (l1_1.length : Int) (wrap64 (x21_2 + 1)) a1_0 l1_1 a2_0) else (none)) else (branch_town_alone_2.l1 k2 x5_2 a1_0 x14_1 l1_1 (l1_1.length : Int) (wrap64 (x21_2 + 1)) a1_0 l1_1 a2_0)) else (none)) else (branch_town_alone_2.l1 k2 x5_2 a1_0 x14_1 l1_1 (l1_1.length : Int) (wrap64 (x21_2 + 1)) a1_0 l1_1 a2_0)) = some r := H
                    have A10 := Aside0.mk A100
                    clear A100
                    by_cases c11 : t112 = true
                    · subst c11
                      have H1 : (if 0 ≤ ((rd_T30 l1_1 x21_2).f0) then (if (Go.bits .and .i64 (shr .i64 x5_2 ((rd_T30 l1_1 x21_2).f0)) 1) = 1 then (if 0 ≤ ((rd_T30 l1_1 x21_2).f1) then (branch_town_alone_2.l1 k2 (Go.bits .or .i64 x5_2 (shl .i64 1 ((rd_T30 l1_1 x21_2).f1))) a1_0 x14_1 l1_1 (l1_1.length : Int) (wrap64 (x21_2 + 1)) a1_0 l1_1 a2_0) else (none)) else (branch_town_alone_2.l1 k2 x5_2 a1_0 x14_1 l1_1 (l1_1.length : Int) (wrap64 (x21_2 + 1)) a1_0 l1_1 a2_0)) else (none)) = some r := by rw [if_pos rfl] at H; exact H
                      clear H
                      have H := H1
                      clear H1
                      by_cases c12 : 0 ≤ ((rd_T30 l1_1 x21_2).f0)
                      · rw [if_pos c12] at H
                        have c12b0 := eq_true c12
                        have c12b1 : decide (0 ≤ ((rd_T30 l1_1 x21_2).f0)) = true := decide_eq_true c12
                        clear c12
                        obtain ⟨ji13, hji13⟩ : ∃ j_ : Int, (shr .i64 x5_2 ((rd_T30 l1_1 x21_2).f0)) = j_ := ⟨_, rfl⟩
                        replace H : (if (Go.bits .and .i64 (ji13) 1) = 1 then (if 0 ≤ ((rd_T30 l1_1 x21_2).f1) then (branch_town_alone_2.l1 k2 (Go.bits .or .i64 x5_2 (shl .i64 1 ((rd_T30 l1_1 x21_2).f1))) a1_0 x14_1 l1_1 (l1_1.length : Int) (wrap64 (x21_2 + 1)) a1_0 l1_1 a2_0) else (none)) else (branch_town_alone_2.l1 k2 x5_2 a1_0 x14_1 l1_1 (l1_1.length : Int) (wrap64 (x21_2 + 1)) a1_0 l1_1 a2_0)) = some r := by first | (rw [hji13] at H; exact H) | (simp only [hji13] at H ⊢; exact H)
                        (try rw [hji13] at A10)
                        have hji13_ : (x5_2 / 2 ^ min ((rd_T30 l1_1 x21_2).f0).toNat 64) = ji13 := hji13
                        have hji13z : ((rd_T30 l1_1 x21_2).f0) ≤ 64 → (x5_2 / 2 ^ ((rd_T30 l1_1 x21_2).f0).toNat) = ji13 := shr_small hji13
                        by_cases c14 : (Go.bits .and .i64 (ji13) 1) = 1
                        · rw [if_pos c14] at H
                          have c14b0 : ((Go.bits .and .i64 (ji13) 1) == 1) = true := beq_iff_eq.mpr c14
                          have c14b1 : ((Go.bits .and .i64 (ji13) 1) != 1) = false := bne_eq_false_iff_eq.mpr c14
                          clear c14
                          by_cases c15 : 0 ≤ ((rd_T30 l1_1 x21_2).f1)
                          · rw [if_pos c15] at H
                            have c15b0 := eq_true c15
                            have c15b1 : decide (0 ≤ ((rd_T30 l1_1 x21_2).f1)) = true := decide_eq_true c15
                            clear c15
                            obtain ⟨ji16, hji16⟩ : ∃ j_ : Int, (shl .i64 1 ((rd_T30 l1_1 x21_2).f1)) = j_ := ⟨_, rfl⟩
                            replace H : (branch_town_alone_2.l1 k2 (Go.bits .or .i64 x5_2 (ji16)) a1_0 x14_1 l1_1 (l1_1.length : Int) (wrap64 (x21_2 + 1)) a1_0 l1_1 a2_0) = some r := by first | (rw [hji16] at H; exact H) | (simp only [hji16] at H ⊢; exact H)
                            (try rw [hji16] at A10)
                            have hji16_ : (IntKind.i64.wrap (1 * 2 ^ min ((rd_T30 l1_1 x21_2).f1).toNat 64)) = ji16 := hji16
                            have hji16z : ((rd_T30 l1_1 x21_2).f1) ≤ 64 → (IntKind.i64.wrap (1 * 2 ^ ((rd_T30 l1_1 x21_2).f1).toNat)) = ji16 := shl_small hji16
                            have hji16u : (IntKind.i64.wrap (2 ^ min ((rd_T30 l1_1 x21_2).f1).toNat 64)) = ji16 := by have h_ := hji16_; rw [Int.one_mul] at h_; exact h_
                            have hji16v : ((rd_T30 l1_1 x21_2).f1) ≤ 64 → (IntKind.i64.wrap (2 ^ ((rd_T30 l1_1 x21_2).f1).toNat)) = ji16 := fun hle_ => by have h_ := hji16z hle_; rw [Int.one_mul] at h_; exact h_
                            have hji16y : (wrap64 (1 * 2 ^ min ((rd_T30 l1_1 x21_2).f1).toNat 64)) = ji16 := (i64_w _).symm.trans hji16_
                            have hji16x : ((rd_T30 l1_1 x21_2).f1) ≤ 64 → (wrap64 (1 * 2 ^ ((rd_T30 l1_1 x21_2).f1).toNat)) = ji16 := fun h_ => (i64_w _).symm.trans (hji16z h_)
                            have H' := Aside0.mk H
                            clear H
                            have p109 : 0 ≤ (x21_2 : Int) := of_decide_eq_true (by first | (with_reducible assumption) | assumption)
                            have q109 : x21_2 < (l1_1.length : Int) := of_decide_eq_true (by first | (with_reducible assumption) | assumption)
                            obtain ⟨ad109, e109, hx109_0, hx109_1, hx109_2⟩ := at_T30 HR1_1.out x21_2 p109 q109
                            cases e109
                            replace hx109_0 := (HB.out.cell (World.block_lt_of_cell? w _ hx109_0)).trans hx109_0
                            replace hx109_1 := (HB.out.cell (World.block_lt_of_cell? w _ hx109_1)).trans hx109_1
                            replace hx109_2 := (HB.out.cell (World.block_lt_of_cell? w _ hx109_2)).trans hx109_2
                            replace p109 := eq_true p109
                            replace q109 := eq_true q109
                            go_wp2_with (first | ((with_reducible refine gate_dst (N := 7) rfl ?_); refine box_event ?hg (N := 7) ?hd (cs := #[.int .i64 0, .int .i64 0, .int .i64 0]) (t := 30) ?hr ?_; (case hd => rfl); (case hg => rfl); (case hr => first | (go_simp; done) | (go_simp; rfl)); intro gb110 hg w17 hbox hb; have n0_ := Aside0.mk (below_step (by repeat (first | (with_reducible first | exact HB.out | apply below_alloc | apply pw_below_drewN | apply below_drew1) | exact HB.out)) hb); have n1_ := Aside0.mk (hbox); have n2_ := Aside0.mk ((by rw [hg]; exact (below_size (by repeat (first | (with_reducible first | exact HB.out | apply below_alloc | apply pw_below_drewN | apply below_drew1) | exact HB.out))) : w.heap.size ≤ gb110)); have n3_ := Aside0.mk ((by rw [hg]; exact (below_size (by repeat (first | (with_reducible first | exact HB.out | apply below_alloc | apply pw_below_drewN | apply below_drew1) | exact HB.out))) : w.heap.size ≤ gb110)); clear HB; have HB := n0_; have BK110 := n1_; have GW110 := n2_; have GE110 := n3_; clear n0_ n1_ n2_ n3_; clear hb hbox hg; have hcz18_0 : w17.cell? ⟨gb110, 0, none⟩ = some (.int .i64 0) := (blk_cell BK110.out 0).trans rfl; have hcz18_1 : w17.cell? ⟨gb110, 1, none⟩ = some (.int .i64 0) := (blk_cell BK110.out 1).trans rfl; have hcz18_2 : w17.cell? ⟨gb110, 2, none⟩ = some (.int .i64 0) := (blk_cell BK110.out 2).trans rfl; have hfz18_0 := blk_frozen BK110.out 0; have hfz18_1 := blk_frozen BK110.out 1; have hfz18_2 := blk_frozen BK110.out 2; have hx111_0 := blk_cell HP2.out 0; replace hx111_0 := hx111_0.trans rfl; replace hx111_0 := (HB.out.cell (World.block_lt_of_cell? w _ hx111_0)).trans hx111_0; replace hx111_0 := (cell_far (a := ⟨g2, 0, none⟩) (p := ⟨gb110, 0, none⟩) (Nat.ne_of_lt (Nat.lt_of_lt_of_le (blk_lt HP2.out) GW110.out)) (.int .i64 ((rd_T30 l1_1 x21_2).f0))).trans hx111_0; replace hx111_0 := (cell_far (a := ⟨g2, 0, none⟩) (p := ⟨gb110, 1, none⟩) (Nat.ne_of_lt (Nat.lt_of_lt_of_le (blk_lt HP2.out) GW110.out)) (.int .i64 ((rd_T30 l1_1 x21_2).f1))).trans hx111_0; replace hx111_0 := (cell_far (a := ⟨g2, 0, none⟩) (p := ⟨gb110, 2, none⟩) (Nat.ne_of_lt (Nat.lt_of_lt_of_le (blk_lt HP2.out) GW110.out)) (.int .i64 ((rd_T30 l1_1 x21_2).f2))).trans hx111_0) | ((with_reducible refine gate_dst (N := 28) rfl ?_); refine goesF_ (some 28) rfl rfl HF2_0.out rfl rfl (i := x21_2) rfl ?sideB A10.out ?_; (case sideB => exact by repeat (first | (with_reducible first | exact HB.out | apply below_alloc | apply pw_below_drewN | apply below_drew1 | refine below_set ?_ GE110.out) | exact HB.out)); intro w19 hb; have n0_ := Aside0.mk (blk_below (g := gb110) (o := .cells #[.int .i64 ((rd_T30 l1_1 x21_2).f0), .int .i64 ((rd_T30 l1_1 x21_2).f1), .int .i64 ((rd_T30 l1_1 x21_2).f2)] 30 (0, 0)) (by (with_reducible repeat (first | refine blk_drewN ?_ _ | refine blk_drew ?_ | refine blk_alloc ?_ _)); refine blk_put (cs := #[.int .i64 ((rd_T30 l1_1 x21_2).f0), .int .i64 ((rd_T30 l1_1 x21_2).f1), .int .i64 0]) ?_ 2 _ rfl; (with_reducible repeat (first | refine blk_drewN ?_ _ | refine blk_drew ?_ | refine blk_alloc ?_ _)); refine blk_put (cs := #[.int .i64 ((rd_T30 l1_1 x21_2).f0), .int .i64 0, .int .i64 0]) ?_ 1 _ rfl; (with_reducible repeat (first | refine blk_drewN ?_ _ | refine blk_drew ?_ | refine blk_alloc ?_ _)); refine blk_put (cs := #[.int .i64 0, .int .i64 0, .int .i64 0]) ?_ 0 _ rfl; (with_reducible repeat (first | refine blk_drewN ?_ _ | refine blk_drew ?_ | refine blk_alloc ?_ _)); exact BK110.out) hb); have n1_ := Aside0.mk (below_step (by repeat (first | (with_reducible first | exact HB.out | apply below_alloc | apply pw_below_drewN | apply below_drew1 | refine below_set ?_ GE110.out) | exact HB.out)) hb); clear BK110; clear HB; have BK110 := n0_; have HB := n1_; clear n0_ n1_; (try clear hb); (try clear hb2); (try clear hk); (try clear hi); have hcz20_0 : w19.cell? ⟨gb110, 0, none⟩ = some (.int .i64 ((rd_T30 l1_1 x21_2).f0)) := (blk_cell BK110.out 0).trans rfl; have hcz20_1 : w19.cell? ⟨gb110, 1, none⟩ = some (.int .i64 ((rd_T30 l1_1 x21_2).f1)) := (blk_cell BK110.out 1).trans rfl; have hcz20_2 : w19.cell? ⟨gb110, 2, none⟩ = some (.int .i64 ((rd_T30 l1_1 x21_2).f2)) := (blk_cell BK110.out 2).trans rfl; have hfz20_0 := blk_frozen BK110.out 0; have hfz20_1 := blk_frozen BK110.out 1; have hfz20_2 := blk_frozen BK110.out 2))
                            go_roundg k2
                            case measure => have := HK1.out; have := HK2.out; omega
                            case rel => exact ⟨(Go.bits .or .i64 x5_2 (ji16)), (wrap64 (x21_2 + 1)), (by first | rfl | (simp; done) | (simp only [← hji16] <;> (first | rfl | simp)) | (simp [*]; done)), (by first | rfl | (simp; done) | (simp [*]; done)), H', ⟨by have := HK1.out; have := HK2.out; omega⟩, ⟨by repeat (first | (with_reducible first | exact HB.out | apply below_alloc | apply pw_below_drewN | apply below_drew1 | refine below_set ?_ GE110.out) | exact HB.out)⟩⟩
                          · rw [if_neg c15] at H
                            exact absurd H (by simp)
                        · rw [if_neg c14] at H
                          have c14b0 : ((Go.bits .and .i64 (ji13) 1) == 1) = false := beq_eq_false_iff_ne.mpr c14
                          have c14b1 : ((Go.bits .and .i64 (ji13) 1) != 1) = true := bne_iff_ne.mpr c14
                          have H' := Aside0.mk H
                          clear H
                          have p109 : 0 ≤ (x21_2 : Int) := of_decide_eq_true (by first | (with_reducible assumption) | assumption)
                          have q109 : x21_2 < (l1_1.length : Int) := of_decide_eq_true (by first | (with_reducible assumption) | assumption)
                          obtain ⟨ad109, e109, hx109_0, hx109_1, hx109_2⟩ := at_T30 HR1_1.out x21_2 p109 q109
                          cases e109
                          replace hx109_0 := (HB.out.cell (World.block_lt_of_cell? w _ hx109_0)).trans hx109_0
                          replace hx109_1 := (HB.out.cell (World.block_lt_of_cell? w _ hx109_1)).trans hx109_1
                          replace hx109_2 := (HB.out.cell (World.block_lt_of_cell? w _ hx109_2)).trans hx109_2
                          replace p109 := eq_true p109
                          replace q109 := eq_true q109
                          go_wp2_with (first | ((with_reducible refine gate_dst (N := 7) rfl ?_); refine box_event ?hg (N := 7) ?hd (cs := #[.int .i64 0, .int .i64 0, .int .i64 0]) (t := 30) ?hr ?_; (case hd => rfl); (case hg => rfl); (case hr => first | (go_simp; done) | (go_simp; rfl)); intro gb110 hg w21 hbox hb; have n0_ := Aside0.mk (below_step (by repeat (first | (with_reducible first | exact HB.out | apply below_alloc | apply pw_below_drewN | apply below_drew1) | exact HB.out)) hb); have n1_ := Aside0.mk (hbox); have n2_ := Aside0.mk ((by rw [hg]; exact (below_size (by repeat (first | (with_reducible first | exact HB.out | apply below_alloc | apply pw_below_drewN | apply below_drew1) | exact HB.out))) : w.heap.size ≤ gb110)); have n3_ := Aside0.mk ((by rw [hg]; exact (below_size (by repeat (first | (with_reducible first | exact HB.out | apply below_alloc | apply pw_below_drewN | apply below_drew1) | exact HB.out))) : w.heap.size ≤ gb110)); clear HB; have HB := n0_; have BK110 := n1_; have GW110 := n2_; have GE110 := n3_; clear n0_ n1_ n2_ n3_; clear hb hbox hg; have hcz22_0 : w21.cell? ⟨gb110, 0, none⟩ = some (.int .i64 0) := (blk_cell BK110.out 0).trans rfl; have hcz22_1 : w21.cell? ⟨gb110, 1, none⟩ = some (.int .i64 0) := (blk_cell BK110.out 1).trans rfl; have hcz22_2 : w21.cell? ⟨gb110, 2, none⟩ = some (.int .i64 0) := (blk_cell BK110.out 2).trans rfl; have hfz22_0 := blk_frozen BK110.out 0; have hfz22_1 := blk_frozen BK110.out 1; have hfz22_2 := blk_frozen BK110.out 2; have hx111_0 := blk_cell HP2.out 0; replace hx111_0 := hx111_0.trans rfl; replace hx111_0 := (HB.out.cell (World.block_lt_of_cell? w _ hx111_0)).trans hx111_0; replace hx111_0 := (cell_far (a := ⟨g2, 0, none⟩) (p := ⟨gb110, 0, none⟩) (Nat.ne_of_lt (Nat.lt_of_lt_of_le (blk_lt HP2.out) GW110.out)) (.int .i64 ((rd_T30 l1_1 x21_2).f0))).trans hx111_0; replace hx111_0 := (cell_far (a := ⟨g2, 0, none⟩) (p := ⟨gb110, 1, none⟩) (Nat.ne_of_lt (Nat.lt_of_lt_of_le (blk_lt HP2.out) GW110.out)) (.int .i64 ((rd_T30 l1_1 x21_2).f1))).trans hx111_0; replace hx111_0 := (cell_far (a := ⟨g2, 0, none⟩) (p := ⟨gb110, 2, none⟩) (Nat.ne_of_lt (Nat.lt_of_lt_of_le (blk_lt HP2.out) GW110.out)) (.int .i64 ((rd_T30 l1_1 x21_2).f2))).trans hx111_0) | ((with_reducible refine gate_dst (N := 28) rfl ?_); refine goesF_ (some 28) rfl rfl HF2_0.out rfl rfl (i := x21_2) rfl ?sideB A10.out ?_; (case sideB => exact by repeat (first | (with_reducible first | exact HB.out | apply below_alloc | apply pw_below_drewN | apply below_drew1 | refine below_set ?_ GE110.out) | exact HB.out)); intro w23 hb; have n0_ := Aside0.mk (blk_below (g := gb110) (o := .cells #[.int .i64 ((rd_T30 l1_1 x21_2).f0), .int .i64 ((rd_T30 l1_1 x21_2).f1), .int .i64 ((rd_T30 l1_1 x21_2).f2)] 30 (0, 0)) (by (with_reducible repeat (first | refine blk_drewN ?_ _ | refine blk_drew ?_ | refine blk_alloc ?_ _)); refine blk_put (cs := #[.int .i64 ((rd_T30 l1_1 x21_2).f0), .int .i64 ((rd_T30 l1_1 x21_2).f1), .int .i64 0]) ?_ 2 _ rfl; (with_reducible repeat (first | refine blk_drewN ?_ _ | refine blk_drew ?_ | refine blk_alloc ?_ _)); refine blk_put (cs := #[.int .i64 ((rd_T30 l1_1 x21_2).f0), .int .i64 0, .int .i64 0]) ?_ 1 _ rfl; (with_reducible repeat (first | refine blk_drewN ?_ _ | refine blk_drew ?_ | refine blk_alloc ?_ _)); refine blk_put (cs := #[.int .i64 0, .int .i64 0, .int .i64 0]) ?_ 0 _ rfl; (with_reducible repeat (first | refine blk_drewN ?_ _ | refine blk_drew ?_ | refine blk_alloc ?_ _)); exact BK110.out) hb); have n1_ := Aside0.mk (below_step (by repeat (first | (with_reducible first | exact HB.out | apply below_alloc | apply pw_below_drewN | apply below_drew1 | refine below_set ?_ GE110.out) | exact HB.out)) hb); clear BK110; clear HB; have BK110 := n0_; have HB := n1_; clear n0_ n1_; (try clear hb); (try clear hb2); (try clear hk); (try clear hi); have hcz24_0 : w23.cell? ⟨gb110, 0, none⟩ = some (.int .i64 ((rd_T30 l1_1 x21_2).f0)) := (blk_cell BK110.out 0).trans rfl; have hcz24_1 : w23.cell? ⟨gb110, 1, none⟩ = some (.int .i64 ((rd_T30 l1_1 x21_2).f1)) := (blk_cell BK110.out 1).trans rfl; have hcz24_2 : w23.cell? ⟨gb110, 2, none⟩ = some (.int .i64 ((rd_T30 l1_1 x21_2).f2)) := (blk_cell BK110.out 2).trans rfl; have hfz24_0 := blk_frozen BK110.out 0; have hfz24_1 := blk_frozen BK110.out 1; have hfz24_2 := blk_frozen BK110.out 2))
                          go_roundg k2
                          case measure => have := HK1.out; have := HK2.out; omega
                          case rel => exact ⟨(x5_2), (wrap64 (x21_2 + 1)), (by first | rfl | (simp; done) | (simp [*]; done)), (by first | rfl | (simp; done) | (simp [*]; done)), H', ⟨by have := HK1.out; have := HK2.out; omega⟩, ⟨by repeat (first | (with_reducible first | exact HB.out | apply below_alloc | apply pw_below_drewN | apply below_drew1 | refine below_set ?_ GE110.out) | exact HB.out)⟩⟩
                      · rw [if_neg c12] at H
                        exact absurd H (by simp)
                    · replace c11 := Bool.eq_false_iff.mpr c11
                      subst c11
                      have H1 : (branch_town_alone_2.l1 k2 x5_2 a1_0 x14_1 l1_1 (l1_1.length : Int) (wrap64 (x21_2 + 1)) a1_0 l1_1 a2_0) = some r := by rw [if_neg (show ¬ (false = true) by decide)] at H; exact H
                      clear H
                      have H := H1
                      clear H1
                      have H' := Aside0.mk H
                      clear H
                      have p109 : 0 ≤ (x21_2 : Int) := of_decide_eq_true (by first | (with_reducible assumption) | assumption)
                      have q109 : x21_2 < (l1_1.length : Int) := of_decide_eq_true (by first | (with_reducible assumption) | assumption)
                      obtain ⟨ad109, e109, hx109_0, hx109_1, hx109_2⟩ := at_T30 HR1_1.out x21_2 p109 q109
                      cases e109
                      replace hx109_0 := (HB.out.cell (World.block_lt_of_cell? w _ hx109_0)).trans hx109_0
                      replace hx109_1 := (HB.out.cell (World.block_lt_of_cell? w _ hx109_1)).trans hx109_1
                      replace hx109_2 := (HB.out.cell (World.block_lt_of_cell? w _ hx109_2)).trans hx109_2
                      replace p109 := eq_true p109
                      replace q109 := eq_true q109
                      go_wp2_with (first | ((with_reducible refine gate_dst (N := 7) rfl ?_); refine box_event ?hg (N := 7) ?hd (cs := #[.int .i64 0, .int .i64 0, .int .i64 0]) (t := 30) ?hr ?_; (case hd => rfl); (case hg => rfl); (case hr => first | (go_simp; done) | (go_simp; rfl)); intro gb110 hg w25 hbox hb; have n0_ := Aside0.mk (below_step (by repeat (first | (with_reducible first | exact HB.out | apply below_alloc | apply pw_below_drewN | apply below_drew1) | exact HB.out)) hb); have n1_ := Aside0.mk (hbox); have n2_ := Aside0.mk ((by rw [hg]; exact (below_size (by repeat (first | (with_reducible first | exact HB.out | apply below_alloc | apply pw_below_drewN | apply below_drew1) | exact HB.out))) : w.heap.size ≤ gb110)); have n3_ := Aside0.mk ((by rw [hg]; exact (below_size (by repeat (first | (with_reducible first | exact HB.out | apply below_alloc | apply pw_below_drewN | apply below_drew1) | exact HB.out))) : w.heap.size ≤ gb110)); clear HB; have HB := n0_; have BK110 := n1_; have GW110 := n2_; have GE110 := n3_; clear n0_ n1_ n2_ n3_; clear hb hbox hg; have hcz26_0 : w25.cell? ⟨gb110, 0, none⟩ = some (.int .i64 0) := (blk_cell BK110.out 0).trans rfl; have hcz26_1 : w25.cell? ⟨gb110, 1, none⟩ = some (.int .i64 0) := (blk_cell BK110.out 1).trans rfl; have hcz26_2 : w25.cell? ⟨gb110, 2, none⟩ = some (.int .i64 0) := (blk_cell BK110.out 2).trans rfl; have hfz26_0 := blk_frozen BK110.out 0; have hfz26_1 := blk_frozen BK110.out 1; have hfz26_2 := blk_frozen BK110.out 2; have hx111_0 := blk_cell HP2.out 0; replace hx111_0 := hx111_0.trans rfl; replace hx111_0 := (HB.out.cell (World.block_lt_of_cell? w _ hx111_0)).trans hx111_0; replace hx111_0 := (cell_far (a := ⟨g2, 0, none⟩) (p := ⟨gb110, 0, none⟩) (Nat.ne_of_lt (Nat.lt_of_lt_of_le (blk_lt HP2.out) GW110.out)) (.int .i64 ((rd_T30 l1_1 x21_2).f0))).trans hx111_0; replace hx111_0 := (cell_far (a := ⟨g2, 0, none⟩) (p := ⟨gb110, 1, none⟩) (Nat.ne_of_lt (Nat.lt_of_lt_of_le (blk_lt HP2.out) GW110.out)) (.int .i64 ((rd_T30 l1_1 x21_2).f1))).trans hx111_0; replace hx111_0 := (cell_far (a := ⟨g2, 0, none⟩) (p := ⟨gb110, 2, none⟩) (Nat.ne_of_lt (Nat.lt_of_lt_of_le (blk_lt HP2.out) GW110.out)) (.int .i64 ((rd_T30 l1_1 x21_2).f2))).trans hx111_0) | ((with_reducible refine gate_dst (N := 28) rfl ?_); refine goesF_ (some 28) rfl rfl HF2_0.out rfl rfl (i := x21_2) rfl ?sideB A10.out ?_; (case sideB => exact by repeat (first | (with_reducible first | exact HB.out | apply below_alloc | apply pw_below_drewN | apply below_drew1 | refine below_set ?_ GE110.out) | exact HB.out)); intro w27 hb; have n0_ := Aside0.mk (blk_below (g := gb110) (o := .cells #[.int .i64 ((rd_T30 l1_1 x21_2).f0), .int .i64 ((rd_T30 l1_1 x21_2).f1), .int .i64 ((rd_T30 l1_1 x21_2).f2)] 30 (0, 0)) (by (with_reducible repeat (first | refine blk_drewN ?_ _ | refine blk_drew ?_ | refine blk_alloc ?_ _)); refine blk_put (cs := #[.int .i64 ((rd_T30 l1_1 x21_2).f0), .int .i64 ((rd_T30 l1_1 x21_2).f1), .int .i64 0]) ?_ 2 _ rfl; (with_reducible repeat (first | refine blk_drewN ?_ _ | refine blk_drew ?_ | refine blk_alloc ?_ _)); refine blk_put (cs := #[.int .i64 ((rd_T30 l1_1 x21_2).f0), .int .i64 0, .int .i64 0]) ?_ 1 _ rfl; (with_reducible repeat (first | refine blk_drewN ?_ _ | refine blk_drew ?_ | refine blk_alloc ?_ _)); refine blk_put (cs := #[.int .i64 0, .int .i64 0, .int .i64 0]) ?_ 0 _ rfl; (with_reducible repeat (first | refine blk_drewN ?_ _ | refine blk_drew ?_ | refine blk_alloc ?_ _)); exact BK110.out) hb); have n1_ := Aside0.mk (below_step (by repeat (first | (with_reducible first | exact HB.out | apply below_alloc | apply pw_below_drewN | apply below_drew1 | refine below_set ?_ GE110.out) | exact HB.out)) hb); clear BK110; clear HB; have BK110 := n0_; have HB := n1_; clear n0_ n1_; (try clear hb); (try clear hb2); (try clear hk); (try clear hi)))
                      go_roundg k2
                      case measure => have := HK1.out; have := HK2.out; omega
                      case rel => exact ⟨(x5_2), (wrap64 (x21_2 + 1)), (by first | rfl | (simp; done) | (simp [*]; done)), (by first | rfl | (simp; done) | (simp [*]; done)), H', ⟨by have := HK1.out; have := HK2.out; omega⟩, ⟨by repeat (first | (with_reducible first | exact HB.out | apply below_alloc | apply pw_below_drewN | apply below_drew1 | refine below_set ?_ GE110.out) | exact HB.out)⟩⟩
                  · rw [if_neg c9] at H
                    exact absurd H (by simp)
                · rw [if_neg c8] at H
                  exact absurd H (by simp)
              · rw [if_neg c7] at H
                have c7b0 : decide (x21_2 < (l1_1.length : Int)) = false := decide_eq_false c7
                clear c7
                have H' := Aside0.mk H
                clear H
                go_wp2
                go_roundg k2
                case measure => have := HK1.out; have := HK2.out; omega
                case rel => exact ⟨(x5_2), (wrap64 (x14_1 + 1)), (by first | rfl | (simp; done) | (simp [*]; done)), (by first | rfl | (simp; done) | (simp [*]; done)), H', ⟨by have := HK1.out; have := HK2.out; omega⟩, ⟨by repeat (first | (with_reducible first | exact HB.out | apply below_alloc | apply pw_below_drewN | apply below_drew1) | exact HB.out)⟩⟩
        · rw [if_neg c6] at H
          have c6b0 : decide (x14_1 < a1_0) = false := decide_eq_false c6
          clear c6
          obtain rfl := Option.some.inj H
          go_wp2
          go_ret
          exact ⟨by first | rfl | (simp [errW_none, errW_some] <;> rfl) | (simp only [← hji5]; first | rfl | (simp [errW_none, errW_some] <;> rfl)) | (simp [*, errW_none, errW_some] <;> rfl), by repeat (first | (with_reducible first | exact HB.out | apply below_alloc | apply pw_below_drewN | apply below_drew1) | exact HB.out)⟩
  · rw [if_neg c4] at H
    exact absurd H (by simp)
def branch_town_first_2.f (a0 : Int) (a1_0 : Int) (l1_1 : List (S30)) (a2_0 : Int) : Option (Bool) := if 0 ≤ a0 then (if a0 < (l1_1.length : Int) then (some (((rd_T30 l1_1 a0).f1) == a2_0)) else (none)) else (none)
set_option maxHeartbeats 8000000 in
set_option maxRecDepth 100000 in
theorem branch_town_first_2.calls (a0 : Int) (g1 : Nat) (gg1 : Nat) (a1_0 : Int) (A1_1 : Option Addr) (c1_1 : Nat) (l1_1 : List (S30)) (a1_2 : Option Nat) (g2 : Nat) (a2_0 : Int) (r : Bool) (w : World) (hP1 : w.heap[g1]? = some (.cells #[.pointer (some ⟨gg1, 0, none⟩)] 65 (0, 0))) (hQ1 : w.heap[gg1]? = some (.cells #[.int .i64 a1_0, .slice A1_1 l1_1.length c1_1, .map a1_2] 70 (0, 0))) (hr1_1 : Kd.C k30 w A1_1 l1_1.length l1_1) (hc1_1 : l1_1.length ≤ c1_1) (hP2 : w.heap[g2]? = some (.cells #[.int .i64 a2_0] 3 (0, 0))) (h : branch_town_first_2.f a0 a1_0 l1_1 a2_0 = some r) :
    Calls Try.prog 71 #[.int .i64 a0, .pointer (some ⟨g1, 0, none⟩), .pointer (some ⟨g2, 0, none⟩)] w fun e w' => e = .returned (.bool r) ∧ Drawn0 w w' := by
  have hu65 := Try.underlying65
  have HP1 := Aside0.mk hP1
  clear hP1
  have HQ1 := Aside0.mk hQ1
  clear hQ1
  have HR1_1 := Aside0.mk hr1_1
  have HC1_1 := Aside0.mk hc1_1
  clear hr1_1 hc1_1
  have HP2 := Aside0.mk hP2
  clear hP2
  have H : (if 0 ≤ a0 then (if a0 < (l1_1.length : Int) then (some (((rd_T30 l1_1 a0).f1) == a2_0)) else (none)) else (none)) = some r := h
  clear h
  by_cases c4 : 0 ≤ a0
  · rw [if_pos c4] at H
    have c4b0 : decide (0 ≤ a0) = true := decide_eq_true c4
    clear c4
    by_cases c5 : a0 < (l1_1.length : Int)
    · rw [if_pos c5] at H
      have c5b0 : decide (a0 < (l1_1.length : Int)) = true := decide_eq_true c5
      clear c5
      obtain rfl := Option.some.inj H
      have hx113_0 := blk_cell HP1.out 0
      replace hx113_0 := hx113_0.trans rfl
      have hx114_0 := blk_cell HQ1.out 0
      replace hx114_0 := hx114_0.trans rfl
      have hx114_1 := blk_cell HQ1.out 1
      replace hx114_1 := hx114_1.trans rfl
      have hx114_2 := blk_cell HQ1.out 2
      replace hx114_2 := hx114_2.trans rfl
      have p115 : 0 ≤ (a0 : Int) := of_decide_eq_true (by first | (with_reducible assumption) | assumption)
      have q115 : a0 < (l1_1.length : Int) := of_decide_eq_true (by first | (with_reducible assumption) | assumption)
      obtain ⟨ad115, e115, hx115_0, hx115_1, hx115_2⟩ := at_T30 HR1_1.out a0 p115 q115
      cases e115
      replace p115 := eq_true p115
      replace q115 := eq_true q115
      have hx116_0 := blk_cell HP2.out 0
      replace hx116_0 := hx116_0.trans rfl
      go_enter Try.func71, Try.ntmps71
      go_wp2
      repeat (go_quiet (fail); try go_wp2)
      go_ret
      exact ⟨by first | rfl | (simp; done) | (simp [*]; done), by repeat (first | exact Drawn0.refl _ | apply Drawn0.step)⟩
    · rw [if_neg c5] at H
      exact absurd H (by simp)
  · rw [if_neg c4] at H
    exact absurd H (by simp)
def branch_town_first_1.f (a0 : Int) : Option (Bool) := some false
set_option maxHeartbeats 8000000 in
set_option maxRecDepth 100000 in
theorem branch_town_first_1.calls (a0 : Int) (r : Bool) (w : World) (h : branch_town_first_1.f a0 = some r) :
    Calls Try.prog 69 #[.int .i64 a0] w fun e w' => e = .returned (.bool r) ∧ Drawn0 w w' := by
  have H : (some false) = some r := h
  clear h
  obtain rfl := Option.some.inj H
  go_enter Try.func69, Try.ntmps69
  go_wp2
  go_ret
  exact ⟨by first | rfl | (simp; done) | (simp [*]; done), by repeat (first | exact Drawn0.refl _ | apply Drawn0.step)⟩
def branch_Proof_1.f (a0 : Int) : Option (Bool) := some false
end Go.Proofs.Ytpmadffgdfholaa.B
namespace Go.Proofs.Ytpmadffgdfholaa.B
open Go.RowKit Go.Proofs.YtpmadffgdfholaaW.PrintWords Go.Proofs.YtpmadffgdfholaaW.PrintLast Go.Proofs.YtpmadffgdfholaaW.PrintMore
set_option linter.unusedVariables false
set_option linter.unusedSimpArgs false
/-- What stands while alone runs. -/
structure AlEnv (w W : World) (g0 g3 g7 : Nat) (n : Int) (A : Option Addr) (c : Nat) (l : List S30) (m : Option Nat) (vf : Value) (o : Int → Option Bool) : Prop where
  hb : Below w.heap.size w W
  hP : W.heap[g3]? = some (.cells #[.pointer (some ⟨g0, 0, none⟩)] 65 (0, 0))
  hQ : W.heap[g0]? = some (.cells #[.int .i64 n, .slice A l.length c, .map m] 70 (0, 0))
  hr : Kd.C k30 W A l.length l
  hc : l.length ≤ c
  h7 : W.heap[g7]? = some (.cells #[vf] 75 (0, 0))
  hF : IsFn Try.prog W vf o
theorem AlEnv.below {w W W2 : World} {g0 g3 g7 : Nat} {n : Int} {A : Option Addr} {c : Nat} {l : List S30} {m : Option Nat} {vf : Value} {o : Int → Option Bool} (h : AlEnv w W g0 g3 g7 n A c l m vf o) (hb : Below W.heap.size W W2) : AlEnv w W2 g0 g3 g7 n A c l m vf o :=
  ⟨below_step h.hb hb, (hb.block _ (blk_lt h.hP)).trans h.hP, (hb.block _ (blk_lt h.hQ)).trans h.hQ, Kd.C_below h.hr hb, h.hc, (hb.block _ (blk_lt h.h7)).trans h.h7, h.hF.below hb⟩
theorem AlEnv.call {w W : World} {g0 g3 g7 : Nat} {n : Int} {A : Option Addr} {c : Nat} {l : List S30} {m : Option Nat} {vf : Value} {o : Int → Option Bool} (h : AlEnv w W g0 g3 g7 n A c l m vf o) (k : Nat) (d r : Int) (hf : branch_town_alone_2.f k d n l o = some r) :
    Calls Try.prog 80 #[.int .i64 d, .pointer (some ⟨g3, 0, none⟩), .pointer (some ⟨g7, 0, none⟩)] W fun e W' => e = .returned (.int .i64 r) ∧ AlEnv w W' g0 g3 g7 n A c l m vf o :=
  (branch_town_alone_2.calls k d g3 g0 n A c l m g7 vf o r W h.hP h.hQ h.hr h.hc h.h7 h.hF hf).mono fun e W' ⟨he, hb⟩ => ⟨he, h.below hb⟩
theorem IsFn_alone1 {W : World} {g4 g5 : Nat} {A : Option Addr} {c : Nat} {l : List Int} {vo : Value} {o : Int → Option Bool} (h4 : W.heap[g4]? = some (.cells #[.slice A l.length c] 28 (0, 0))) (hr : Kd.C (Kd.int .i64) W A l.length l) (hc : l.length ≤ c) (h5 : W.heap[g5]? = some (.cells #[vo] 75 (0, 0))) (hF : IsFn Try.prog W vo o) :
    IsFn Try.prog W (.func (.func 79) #[] #[.pointer (some ⟨g4, 0, none⟩), .pointer (some ⟨g5, 0, none⟩)]) (fun i => branch_town_alone_1.f i l o) := by
  refine ⟨79, _, Try.f79, rfl, Try.func79, by kernel_rfl, rfl, fun W2 hW i r hf => ?_⟩
  exact (branch_town_alone_1.calls i g4 A c l g5 vo o r W2 ((hW.block _ (blk_lt h4)).trans h4) (Kd.C_below hr hW) hc ((hW.block _ (blk_lt h5)).trans h5) (hF.below hW) hf).mono fun e W' ⟨he, hb⟩ => ⟨he, by first | exact hb | exact hb.below⟩
def hasB (s c : Int) : Bool := Go.bits .and .i64 (shr .i64 s c) 1 == 1
/-- The corners from which c is reached. -/
def gatherB (R : Int → Int) (c : Int) : Nat → Int
  | 0 => 0
  | j + 1 => if hasB (R j) c then Go.bits .or .i64 (gatherB R c j) (shl .i64 1 j) else gatherB R c j
/-- Is each of the set's corners below j reached from c? -/
def closedB (R : Int → Int) (c s : Int) : Nat → Bool
  | 0 => true
  | j + 1 => closedB R c s j && !(hasB s j && (Go.bits .and .i64 (shr .i64 (R c) j) 1 == 0))
def isAloneB (R : Int → Int) (n : Nat) (c : Int) : Bool := !(hasB (R 0) c) && closedB R c (gatherB R c n) n
/-- From corner c on, j corners being left. -/
def aloneB (R : Int → Int) (n : Nat) : Nat → Int
  | 0 => 0
  | j + 1 => if isAloneB R n ((n - (j + 1) : Nat) : Int) then gatherB R ((n - (j + 1) : Nat) : Int) n else aloneB R n j
theorem gatherB_succ (R : Int → Int) (c y : Int) (h : 0 ≤ y) : gatherB R c (y + 1).toNat = if hasB (R y) c then Go.bits .or .i64 (gatherB R c y.toNat) (shl .i64 1 y) else gatherB R c y.toNat := by
  obtain ⟨j, rfl⟩ := Int.eq_ofNat_of_zero_le h
  rfl
theorem closedB_succ (R : Int → Int) (c s z : Int) (h : 0 ≤ z) : closedB R c s (z + 1).toNat = (closedB R c s z.toNat && !(hasB s z && (Go.bits .and .i64 (shr .i64 (R c) z) 1 == 0))) := by
  obtain ⟨j, rfl⟩ := Int.eq_ofNat_of_zero_le h
  rfl
theorem closedB_false (R : Int → Int) (c s : Int) (n : Nat) (z : Int) (h0 : 0 ≤ z) (h1 : z < n) (hs : hasB s z = true) (hr : (Go.bits .and .i64 (shr .i64 (R c) z) 1 == 0) = true) : closedB R c s n = false := by
  obtain ⟨j, rfl⟩ := Int.eq_ofNat_of_zero_le h0
  have hj : j < n := by omega
  clear h0 h1
  induction n with
  | zero => omega
  | succ n ih =>
    rcases Nat.lt_or_ge j n with h | h
    · simp [closedB, ih h]
    · obtain rfl : j = n := by omega
      simp [closedB, hs, hr]
theorem aloneB_skip (R : Int → Int) (n k : Nat) (x : Int) (hx : 0 ≤ x ∧ x + ((k + 1 : Nat) : Int) = (n : Int)) (h : isAloneB R n x = false) : aloneB R n (k + 1) = aloneB R n k := by
  have e : ((n - (k + 1) : Nat) : Int) = x := by omega
  simp only [aloneB, e, h]; simp
theorem aloneB_hit (R : Int → Int) (n k : Nat) (x : Int) (hx : 0 ≤ x ∧ x + ((k + 1 : Nat) : Int) = (n : Int)) (h : isAloneB R n x = true) : aloneB R n (k + 1) = gatherB R x n := by
  have e : ((n - (k + 1) : Nat) : Int) = x := by omega
  simp only [aloneB, e, h]; simp
set_option maxHeartbeats 4000000 in
set_option maxRecDepth 100000 in
theorem alone_calls (k : Nat) (g0 : Nat) (n : Nat) (A0 : Option Addr) (c0 : Nat) (l : List S30) (m : Option Nat) (A1 : Option Addr) (c1 : Nat) (l1 : List Int) (vo : Value) (o : Int → Option Bool) (R : Int → Int) (w : World) (N : Int) (hN : N = n) (hn : n ≤ 7) (hn1 : 1 ≤ n)
    (hP0 : w.heap[g0]? = some (.cells #[.int .i64 N, .slice A0 l.length c0, .map m] 70 (0, 0))) (hr0 : Kd.C k30 w A0 l.length l) (hc0 : l.length ≤ c0) (hr1 : Kd.C (Kd.int .i64) w A1 l1.length l1) (hc1 : l1.length ≤ c1) (hF : IsFn Try.prog w vo o)
    (hR : ∀ d : Int, 0 ≤ d → d < n → branch_town_alone_2.f k d N l (fun i => branch_town_alone_1.f i l1 o) = some (R d)) :
    Calls Try.prog 68 #[.pointer (some ⟨g0, 0, none⟩), .slice A1 l1.length c1, vo] w fun e w' => e = .returned (.int .i64 (aloneB R n n)) ∧ Below w.heap.size w w' := by
  have HN := Aside0.mk hN
  clear hN
  have HR := Aside0.mk hR
  have HP0 := Aside0.mk hP0
  have HR0 := Aside0.mk hr0
  have HR1 := Aside0.mk hr1
  have HF := Aside0.mk hF
  clear hR hP0 hr0 hr1 hF
  obtain ⟨fo, caps, hvo⟩ : ∃ fo caps, vo = .func (.func fo) #[] caps := by obtain ⟨fo, caps, _, e, _⟩ := HF.out; exact ⟨fo, caps, e⟩
  subst hvo
  have hmf : ∀ (fn : Fn) (first cap : Array Value) (w : World), (Instr.makeFunc fn first cap).run Try.prog w = .ok (.func fn first cap) w := fun _ _ _ _ => rfl
  go_enter Try.func68, Try.ntmps68
  go_wp2_with (first
    | ((with_reducible refine gate_dst (N := 3) rfl ?_); refine box_event ?hg (N := 3) ?hd (cs := #[.pointer (some ⟨g0, 0, none⟩)]) (t := 65) ?hr ?_; (case hd => rfl); (case hg => rfl); (case hr => first | (go_simp; done) | (go_simp; rfl)); intro g3 hg3 w3 hbox3 hb3; have H3 := Aside0.mk hbox3; have B3 := Aside0.mk hb3; clear hg3 hbox3 hb3)
    | ((with_reducible refine gate_dst (N := 4) rfl ?_); refine box_event ?hg (N := 4) ?hd (cs := #[.slice A1 l1.length c1]) (t := 28) ?hr ?_; (case hd => rfl); (case hg => rfl); (case hr => first | (go_simp; done) | (go_simp; rfl)); intro g4 hg4 w4 hbox4 hb4; have H4 := Aside0.mk hbox4; have B4 := Aside0.mk hb4; clear hg4 hbox4 hb4)
    | ((with_reducible refine gate_dst (N := 5) rfl ?_); refine box_event ?hg (N := 5) ?hd (cs := #[.func (.func fo) #[] caps]) (t := 75) ?hr ?_; (case hd => rfl); (case hg => rfl); (case hr => first | (go_simp; done) | (go_simp; rfl)); intro g5 hg5 w5 hbox5 hb5; have H5 := Aside0.mk hbox5; have B5 := Aside0.mk hb5; clear hg5 hbox5 hb5))
  go_step3
  go_wp2_with (first | ((with_reducible refine gate_dst (N := 7) rfl ?_); refine box_event ?hg (N := 7) ?hd (cs := #[.nilFunc]) (t := 75) ?hr ?_; (case hd => rfl); (case hg => rfl); (case hr => first | (go_simp; done) | (go_simp; rfl)); intro g7 hg7 w7 hbox7 hb7; have H7 := Aside0.mk hbox7; have B7 := Aside0.mk hb7; have G7 := Aside0.mk (Nat.le_of_eq hg7.symm); clear hg7 hbox7 hb7; have hcz7 : w7.cell? ⟨g7, 0, none⟩ = some .nilFunc := (blk_cell H7.out 0).trans rfl; have hfz7 := blk_frozen H7.out 0))
  have e5 : Below w.heap.size w w5 := below_step (below_step (below_step (Below.refl _ _) B3.out) B4.out) B5.out
  have e7 : Below w.heap.size w w7 := below_step e5 B7.out
  have G0 : w.heap.size ≤ g7 := Nat.le_trans e5.size G7.out
  have ENV : Aside0 (AlEnv w (w7.setCell ⟨g7, 0, none⟩ (.func (.func 79) #[] #[.pointer (some ⟨g4, 0, none⟩), .pointer (some ⟨g5, 0, none⟩)])) g0 g3 g7 N A0 c0 l m (.func (.func 79) #[] #[.pointer (some ⟨g4, 0, none⟩), .pointer (some ⟨g5, 0, none⟩)]) (fun i => branch_town_alone_1.f i l1 o)) := by
    have s45 : w4.heap.size ≤ w5.heap.size := B5.out.size
    have s35 : w3.heap.size ≤ w5.heap.size := Nat.le_trans B4.out.size s45
    have n3 : g3 ≠ g7 := Nat.ne_of_lt (Nat.lt_of_lt_of_le (blk_lt H3.out) (Nat.le_trans s35 G7.out))
    have n4 : g4 ≠ g7 := Nat.ne_of_lt (Nat.lt_of_lt_of_le (blk_lt H4.out) (Nat.le_trans s45 G7.out))
    have n5 : g5 ≠ g7 := Nat.ne_of_lt (Nat.lt_of_lt_of_le (blk_lt H5.out) G7.out)
    have n0 : g0 ≠ g7 := Nat.ne_of_lt (Nat.lt_of_lt_of_le (blk_lt HP0.out) G0)
    refine ⟨⟨below_set e7 G0, blk_far (blk_below (blk_below (blk_below H3.out B4.out) B5.out) B7.out) n3 _, blk_far (blk_below HP0.out e7) n0 _, Kd.C_below HR0.out (below_set e7 G0), hc0, blk_put H7.out 0 _ rfl, ?_⟩⟩
    exact IsFn_alone1 (blk_far (blk_below (blk_below H4.out B5.out) B7.out) n4 _) (Kd.C_below HR1.out (below_set e7 G0)) hc1 (blk_far (blk_below H5.out B7.out) n5 _) (HF.out.below (below_set e7 G0))
  clear e5 G0 G7
  clear e7 hcz7 hfz7
  refine (ENV.out.call k 0 (R 0) (HR.out 0 (by omega) (by omega))).mono ?_
  rintro e w8 ⟨rfl, henv⟩
  clear ENV B3 B4 B5 B7 H3 H4 H5 H7
  have HE := Aside0.mk henv
  clear henv
  have hx3 := blk_cell HE.out.hP 0
  replace hx3 := hx3.trans rfl
  have hx0 := blk_cell HE.out.hQ 0
  replace hx0 := hx0.trans rfl
  go_wp2
  go_step3
  go_wp2
  clear hx3 hx0
  go_loopg [22] n (fun kq v22 w' => ∃ (x : Int), v22 = .int .i64 x ∧ Aside0 (0 ≤ x ∧ x + kq = n) ∧ Aside0 (aloneB R n kq = aloneB R n n) ∧ Aside0 (AlEnv w w' g0 g3 g7 N A0 c0 l m (.func (.func 79) #[] #[.pointer (some ⟨g4, 0, none⟩), .pointer (some ⟨g5, 0, none⟩)]) (fun i => branch_town_alone_1.f i l1 o)))
  case atStart => exact ⟨0, rfl, ⟨by simp⟩, ⟨rfl⟩, HE⟩
  case round =>
    clear HE
    obtain ⟨x, rfl, HX, HA, HE⟩ := hrel
    cases gk with
    | zero =>
      have b0 : decide (x < N) = false := decide_eq_false (by have := HX.out; have := HN.out; omega)
      go_wp2
      rw [Exit.noGoto_ret]
      go_ret
      exact ⟨by rw [← HA.out]; rfl, HE.out.hb⟩
    | succ k1 =>
      have b0 : decide (x < N) = true := decide_eq_true (by have := HX.out; have := HN.out; omega)
      have p0 : 0 ≤ x := by have := HX.out; omega
      have p0b : decide (0 ≤ x) = true := decide_eq_true p0
      have p1 : x ≤ 6 := by have := HX.out; omega
      obtain ⟨jA, hjA⟩ : ∃ j_ : Int, (shr .i64 (R 0) x) = j_ := ⟨_, rfl⟩
      have hjA_ : ((R 0) / 2 ^ min (x).toNat 64) = jA := hjA
      have hjAz : x ≤ 64 → ((R 0) / 2 ^ (x).toNat) = jA := shr_small hjA
      have hjAw : ((R 0) / 2 ^ (x).toNat) = jA := hjAz (by omega)
      by_cases tA : Go.bits .and .i64 jA 1 = 1
      · have tA0 : ((Go.bits .and .i64 jA 1) == 1) = true := beq_iff_eq.mpr tA
        have tA1 : ((Go.bits .and .i64 jA 1) != 1) = false := bne_eq_false_iff_eq.mpr tA
        have HT := Aside0.mk tA
        clear tA
        go_wp2
        go_roundg k1
        case measure => omega
        case rel => exact ⟨x + 1, by first | rfl | (simp; done) | go_num, ⟨by have := HX.out; omega⟩, ⟨by rw [← HA.out]; exact (aloneB_skip R n k1 x (by have := HX.out; omega) (by unfold isAloneB hasB; rw [hjA, HT.out]; rfl)).symm⟩, HE⟩
      · have tA0 : ((Go.bits .and .i64 jA 1) == 1) = false := beq_eq_false_iff_ne.mpr tA
        have tA1 : ((Go.bits .and .i64 jA 1) != 1) = true := bne_iff_ne.mpr tA
        have HT := Aside0.mk tA
        clear tA
        have hx3 : _ = some (Value.pointer (some ⟨g0, 0, none⟩)) := blk_cell HE.out.hP 0
        have hx0 : _ = some (Value.int .i64 N) := blk_cell HE.out.hQ 0
        go_wp2
        clear hx3 hx0
        go_loopg [11, 34] n (fun kq v11 v34 w' => ∃ (y s : Int), v34 = .int .i64 y ∧ v11 = .int .i64 s ∧ Aside0 (0 ≤ y ∧ y + kq = n) ∧ Aside0 (s = gatherB R x y.toNat) ∧ Aside0 (AlEnv w w' g0 g3 g7 N A0 c0 l m (.func (.func 79) #[] #[.pointer (some ⟨g4, 0, none⟩), .pointer (some ⟨g5, 0, none⟩)]) (fun i => branch_town_alone_1.f i l1 o)))
        case atStart => exact ⟨0, 0, rfl, rfl, ⟨by simp⟩, ⟨rfl⟩, HE⟩
        case round =>
          clear HE
          obtain ⟨y, s, rfl, rfl, HY, HS, HE⟩ := hrel
          cases gk with
          | zero =>
            have c0b : decide (y < N) = false := decide_eq_false (by have := HY.out; have := HN.out; omega)
            have hx3 : _ = some (Value.pointer (some ⟨g0, 0, none⟩)) := blk_cell HE.out.hP 0
            have hx0 : _ = some (Value.int .i64 N) := blk_cell HE.out.hQ 0
            go_wp2
            clear hx3 hx0
            have HG : Aside0 (s = gatherB R x n) := ⟨by rw [HS.out]; congr 1; have := HY.out; omega⟩
            clear HS HY c0b
            go_loopg [53] n (fun kq v53 w' => ∃ (z : Int), v53 = .int .i64 z ∧ Aside0 (0 ≤ z ∧ z + kq = n) ∧ Aside0 (closedB R x s z.toNat = true) ∧ Aside0 (AlEnv w w' g0 g3 g7 N A0 c0 l m (.func (.func 79) #[] #[.pointer (some ⟨g4, 0, none⟩), .pointer (some ⟨g5, 0, none⟩)]) (fun i => branch_town_alone_1.f i l1 o)))
            case atStart => exact ⟨0, rfl, ⟨by simp⟩, ⟨rfl⟩, HE⟩
            case round =>
              clear HE
              obtain ⟨z, rfl, HZ, HC, HE⟩ := hrel
              cases gk with
              | zero =>
                have d0b : decide (z < N) = false := decide_eq_false (by have := HZ.out; have := HN.out; omega)
                go_wp2
                rw [Exit.noGoto_ret]
                go_ret
                have hz_ : z.toNat = n := by have := HZ.out; omega
                have hc_ := HC.out
                rw [hz_, HG.out] at hc_
                have hi_ : isAloneB R n x = true := by unfold isAloneB; rw [hc_]; simp [hasB, hjA, HT.out]
                exact ⟨by rw [← HA.out, aloneB_hit R n k1 x (by have := HX.out; omega) hi_, ← HG.out]; rfl, HE.out.hb⟩
              | succ k3 =>
                have d0b : decide (z < N) = true := decide_eq_true (by have := HZ.out; have := HN.out; omega)
                have q0 : 0 ≤ z := by have := HZ.out; omega
                have q0b : decide (0 ≤ z) = true := decide_eq_true q0
                have q1 : z ≤ 6 := by have := HZ.out; omega
                obtain ⟨jS, hjS⟩ : ∃ j_ : Int, (shr .i64 s z) = j_ := ⟨_, rfl⟩
                have hjS_ : (s / 2 ^ min (z).toNat 64) = jS := hjS
                have hjSz : z ≤ 64 → (s / 2 ^ (z).toNat) = jS := shr_small hjS
                have hjSw : (s / 2 ^ (z).toNat) = jS := hjSz (by omega)
                by_cases tS : Go.bits .and .i64 jS 1 = 1
                · have tS0 : ((Go.bits .and .i64 jS 1) == 1) = true := beq_iff_eq.mpr tS
                  have tS1 : ((Go.bits .and .i64 jS 1) != 1) = false := bne_eq_false_iff_eq.mpr tS
                  have HTS := Aside0.mk tS
                  clear tS
                  go_wp2_with fail
                  refine (HE.out.call k x (R x) (HR.out x (by omega) (by have := HX.out; omega))).mono ?_
                  rintro e w9 ⟨rfl, henv⟩
                  clear HE
                  have HE := Aside0.mk henv
                  clear henv
                  obtain ⟨jT, hjT⟩ : ∃ j_ : Int, (shr .i64 (R x) z) = j_ := ⟨_, rfl⟩
                  have hjT_ : ((R x) / 2 ^ min (z).toNat 64) = jT := hjT
                  have hjTz : z ≤ 64 → ((R x) / 2 ^ (z).toNat) = jT := shr_small hjT
                  have hjTw : ((R x) / 2 ^ (z).toNat) = jT := hjTz (by omega)
                  by_cases tT : Go.bits .and .i64 jT 1 = 0
                  · have tT0 : ((Go.bits .and .i64 jT 1) == 0) = true := beq_iff_eq.mpr tT
                    have tT1 : ((Go.bits .and .i64 jT 1) != 0) = false := bne_eq_false_iff_eq.mpr tT
                    have HTT := Aside0.mk tT
                    clear tT
                    go_wp2
                    go_roundg k1
                    case measure => omega
                    case rel => exact ⟨x + 1, by first | rfl | (simp; done) | go_num, ⟨by have := HX.out; omega⟩, ⟨by rw [← HA.out]; exact (aloneB_skip R n k1 x (by have := HX.out; omega) (by unfold isAloneB; rw [← HG.out, closedB_false R x s n z q0 (by have := HZ.out; omega) (by simp [hasB, hjS, HTS.out]) (by rw [hjT, HTT.out]; rfl)]; simp)).symm⟩, HE⟩
                  · have tT0 : ((Go.bits .and .i64 jT 1) == 0) = false := beq_eq_false_iff_ne.mpr tT
                    have tT1 : ((Go.bits .and .i64 jT 1) != 0) = true := bne_iff_ne.mpr tT
                    have HTT := Aside0.mk tT
                    clear tT
                    go_wp2
                    go_roundg k3
                    case measure => omega
                    case rel => exact ⟨z + 1, by first | rfl | (simp; done) | go_num, ⟨by have := HZ.out; omega⟩, ⟨by rw [closedB_succ R x s z q0, HC.out, hjT, tT0]; simp⟩, HE⟩
                · have tS0 : ((Go.bits .and .i64 jS 1) == 1) = false := beq_eq_false_iff_ne.mpr tS
                  have tS1 : ((Go.bits .and .i64 jS 1) != 1) = true := bne_iff_ne.mpr tS
                  have HTS := Aside0.mk tS
                  clear tS
                  go_wp2
                  go_roundg k3
                  case measure => omega
                  case rel => exact ⟨z + 1, by first | rfl | (simp; done) | go_num, ⟨by have := HZ.out; omega⟩, ⟨by rw [closedB_succ R x s z q0, HC.out]; simp [hasB, hjS, HTS.out]⟩, HE⟩
          | succ k2 =>
            have c0b : decide (y < N) = true := decide_eq_true (by have := HY.out; have := HN.out; omega)
            have q0 : 0 ≤ y := by have := HY.out; omega
            have q0b : decide (0 ≤ y) = true := decide_eq_true q0
            have q1 : y ≤ 6 := by have := HY.out; omega
            go_wp2_with fail
            refine (HE.out.call k y (R y) (HR.out y (by omega) (by have := HY.out; omega))).mono ?_
            rintro e w9 ⟨rfl, henv⟩
            clear HE
            have HE := Aside0.mk henv
            clear henv
            obtain ⟨jR, hjR⟩ : ∃ j_ : Int, (shr .i64 (R y) x) = j_ := ⟨_, rfl⟩
            have hjR_ : ((R y) / 2 ^ min (x).toNat 64) = jR := hjR
            have hjRz : x ≤ 64 → ((R y) / 2 ^ (x).toNat) = jR := shr_small hjR
            have hjRw : ((R y) / 2 ^ (x).toNat) = jR := hjRz (by omega)
            by_cases tR : Go.bits .and .i64 jR 1 = 1
            · have tR0 : ((Go.bits .and .i64 jR 1) == 1) = true := beq_iff_eq.mpr tR
              have tR1 : ((Go.bits .and .i64 jR 1) != 1) = false := bne_eq_false_iff_eq.mpr tR
              have HTR := Aside0.mk tR
              clear tR
              obtain ⟨jL, hjL⟩ : ∃ j_ : Int, (shl .i64 1 y) = j_ := ⟨_, rfl⟩
              have hjL_ : (IntKind.i64.wrap (1 * 2 ^ min (y).toNat 64)) = jL := hjL
              have hjLz : y ≤ 64 → (IntKind.i64.wrap (1 * 2 ^ (y).toNat)) = jL := shl_small hjL
              have hjLu : (IntKind.i64.wrap (2 ^ min (y).toNat 64)) = jL := by have h_ := hjL_; rw [Int.one_mul] at h_; exact h_
              have hjLv : y ≤ 64 → (IntKind.i64.wrap (2 ^ (y).toNat)) = jL := fun hle_ => by have h_ := hjLz hle_; rw [Int.one_mul] at h_; exact h_
              have hjLy : (wrap64 (1 * 2 ^ min (y).toNat 64)) = jL := (i64_w _).symm.trans hjL_
              have hjLw1 : (IntKind.i64.wrap (1 * 2 ^ (y).toNat)) = jL := hjLz (by omega)
              have hjLw2 : (IntKind.i64.wrap (2 ^ (y).toNat)) = jL := hjLv (by omega)
              have hjLw3 : (wrap64 (1 * 2 ^ (y).toNat)) = jL := (i64_w _).symm.trans (hjLz (by omega))
              have hjLw4 : (wrap64 (2 ^ (y).toNat)) = jL := (i64_w _).symm.trans (hjLv (by omega))
              have hjLx : y ≤ 64 → (wrap64 (1 * 2 ^ (y).toNat)) = jL := fun h_ => (i64_w _).symm.trans (hjLz h_)
              go_wp2
              go_roundg k2
              case measure => omega
              case rel => exact ⟨y + 1, _, by first | rfl | (simp; done) | go_num, rfl, ⟨by have := HY.out; omega⟩, ⟨by rw [gatherB_succ R x y q0, ← HS.out]; simp [hasB, hjR, HTR.out, hjL]⟩, HE⟩
            · have tR0 : ((Go.bits .and .i64 jR 1) == 1) = false := beq_eq_false_iff_ne.mpr tR
              have tR1 : ((Go.bits .and .i64 jR 1) != 1) = true := bne_iff_ne.mpr tR
              have HTR := Aside0.mk tR
              clear tR
              go_wp2
              go_roundg k2
              case measure => omega
              case rel => exact ⟨y + 1, s, by first | rfl | (simp; done) | go_num, rfl, ⟨by have := HY.out; omega⟩, ⟨by rw [gatherB_succ R x y q0, ← HS.out]; simp [hasB, hjR, HTR.out]⟩, HE⟩
theorem gatherB_congr {R S : Int → Int} {n : Nat} (h : ∀ d : Int, 0 ≤ d → d < n → R d = S d) (c : Int) : ∀ j, j ≤ n → gatherB R c j = gatherB S c j
  | 0, _ => rfl
  | j + 1, hj => by simp only [gatherB]; rw [gatherB_congr h c j (by omega), h j (by omega) (by omega)]
theorem closedB_congr {R S : Int → Int} {n : Nat} (h : ∀ d : Int, 0 ≤ d → d < n → R d = S d) (c s : Int) (h0 : 0 ≤ c) (h1 : c < n) : ∀ j, closedB R c s j = closedB S c s j
  | 0 => rfl
  | j + 1 => by simp only [closedB]; rw [closedB_congr h c s h0 h1 j, h c h0 h1]
theorem isAloneB_congr {R S : Int → Int} {n : Nat} (h : ∀ d : Int, 0 ≤ d → d < n → R d = S d) (c : Int) (h0 : 0 ≤ c) (h1 : c < n) : isAloneB R n c = isAloneB S n c := by
  unfold isAloneB; rw [gatherB_congr h c n (Nat.le_refl _), closedB_congr h c _ h0 h1, h 0 (by omega) (by omega)]
theorem aloneB_congr {R S : Int → Int} {n : Nat} (h : ∀ d : Int, 0 ≤ d → d < n → R d = S d) : ∀ j, j ≤ n → aloneB R n j = aloneB S n j
  | 0, _ => rfl
  | j + 1, hj => by simp only [aloneB]; rw [aloneB_congr h j (by omega), isAloneB_congr h _ (by omega) (by omega), gatherB_congr h _ n (Nat.le_refl _)]
def branch_town_alone.f (k : Nat) (a0_0 : Int) (l0_1 : List (S30)) (l1 : List Int) (a2 : Int → Option Bool) : Option Int :=
  if 1 ≤ a0_0 ∧ a0_0 ≤ 7 ∧ (∀ d ∈ List.range a0_0.toNat, (branch_town_alone_2.f k (d : Int) a0_0 l0_1 (fun i => branch_town_alone_1.f i l1 a2)).isSome = true) then
    some (aloneB (fun d => (branch_town_alone_2.f k d a0_0 l0_1 (fun i => branch_town_alone_1.f i l1 a2)).getD 0) a0_0.toNat a0_0.toNat) else none
theorem branch_town_alone.mono : ∀ a0 a1 a3 a4 k, LeO (branch_town_alone.f k a0 a1 a3 a4) (branch_town_alone.f (k + 1) a0 a1 a3 a4) := by
  intro a0 a1 a3 a4 k r h
  unfold branch_town_alone.f at h ⊢
  split at h
  case isFalse => exact absurd h (by simp)
  rename_i hc
  obtain ⟨h1, h2, h3⟩ := hc
  have hs : ∀ d ∈ List.range a0.toNat, ∃ r, branch_town_alone_2.f k (d : Int) a0 a1 (fun i => branch_town_alone_1.f i a3 a4) = some r ∧ branch_town_alone_2.f (k + 1) (d : Int) a0 a1 (fun i => branch_town_alone_1.f i a3 a4) = some r := by
    intro d hd
    obtain ⟨r, hr⟩ := Option.isSome_iff_exists.1 (h3 d hd)
    exact ⟨r, hr, branch_town_alone_2.mono _ _ _ _ k r hr⟩
  rw [if_pos ⟨h1, h2, fun d hd => by obtain ⟨r, _, h⟩ := hs d hd; rw [h]; rfl⟩, ← h]
  refine congrArg some (aloneB_congr (fun d h0 h1 => ?_) _ (Nat.le_refl _)).symm
  obtain ⟨r, e1, e2⟩ := hs d.toNat (List.mem_range.2 (by omega))
  rw [Int.toNat_of_nonneg h0] at e1 e2
  simp only [e1, e2]
theorem branch_town_alone.calls (k : Nat) (g0 : Nat) (a0_0 : Int) (A0_1 : Option Addr) (c0_1 : Nat) (l0_1 : List (S30)) (a0_2 : Option Nat) (A1 : Option Addr) (c1 : Nat) (l1 : List Int) (vf2 : Value) (a2 : Int → Option Bool) (r : Int) (w : World) (hP0 : w.heap[g0]? = some (.cells #[.int .i64 a0_0, .slice A0_1 l0_1.length c0_1, .map a0_2] 70 (0, 0))) (hr0_1 : Kd.C k30 w A0_1 l0_1.length l0_1) (hc0_1 : l0_1.length ≤ c0_1) (hr1 : Kd.C (Kd.int .i64) w A1 l1.length l1) (hc1 : l1.length ≤ c1) (hF2 : IsFn Try.prog w vf2 a2) (h : branch_town_alone.f k a0_0 l0_1 l1 a2 = some r) :
    Calls Try.prog 68 #[.pointer (some ⟨g0, 0, none⟩), .slice A1 l1.length c1, vf2] w fun e w' => e = .returned (.int .i64 r) ∧ Below w.heap.size w w' := by
  unfold branch_town_alone.f at h
  split at h
  case isFalse => exact absurd h (by simp)
  rename_i hc
  obtain ⟨h1, h2, h3⟩ := hc
  obtain rfl := Option.some.inj h
  refine alone_calls k g0 a0_0.toNat A0_1 c0_1 l0_1 a0_2 A1 c1 l1 vf2 a2 _ w a0_0 (by omega) (by omega) (by omega) hP0 hr0_1 hc0_1 hr1 hc1 hF2 (fun d e0 e1 => ?_)
  obtain ⟨r, hr⟩ := Option.isSome_iff_exists.1 (h3 d.toNat (List.mem_range.2 (by omega)))
  rw [Int.toNat_of_nonneg e0] at hr
  rw [hr]; rfl
end Go.Proofs.Ytpmadffgdfholaa.B
namespace Go.Proofs.Ytpmadffgdfholaa.B
open Go.RowKit Go.Proofs.YtpmadffgdfholaaW.PrintWords Go.Proofs.YtpmadffgdfholaaW.PrintLast Go.Proofs.YtpmadffgdfholaaW.PrintMore
attribute [local go_sem] max2_int min2_int max_two min_two max_three min_three max_four min_four   -- for this text's walks alone
set_option linter.unusedVariables false
set_option linter.unusedSimpArgs false
mutual
def branch_town_cheapest.l0 : Nat → (Int → Option Bool) → List Int → Int → List (S41) → Int → List (S30) → Option (Int × (List (S41)) × Bool)
  | 0, _, _, _, _, _, _ => none
  | k + 1, x2, x9, x10, x11, x1000, x1001 => (branch_town_alone.f k x1000 x1001 x9 x2).bind fun t104 => (if t104 = 0 then (some (x10, x11, true)) else ((branch_town_entering.f k x1000 x1001 t104).bind fun t105 => (branch_town_cheapest.l1 k x2 x9 x10 x11 t104 (-1) t105 (t105.length : Int) 0 x1000 x1001)))
def branch_town_cheapest.l1 : Nat → (Int → Option Bool) → List Int → Int → List (S41) → Int → Int → List Int → Int → Int → Int → List (S30) → Option (Int × (List (S41)) × Bool)
  | 0, _, _, _, _, _, _, _, _, _, _, _ => none
  | k + 1, x2, x9, x10, x11, x12, x13, x30, x31, x32, x1000, x1001 => if x32 < x31 then (if 0 ≤ x32 then (if x32 < (x30.length : Int) then ((x2 (rd x30 x32)).bind fun t109 => (if t109 = true then (branch_town_cheapest.l1 k x2 x9 x10 x11 x12 x13 x30 x31 (wrap64 (x32 + 1)) x1000 x1001) else (if x13 < 0 then (if 0 ≤ (rd x30 x32) then (if (rd x30 x32) < (x9.length : Int) then (branch_town_cheapest.l1 k x2 x9 x10 x11 x12 (rd x9 (rd x30 x32)) x30 x31 (wrap64 (x32 + 1)) x1000 x1001) else (none)) else (none)) else (if 0 ≤ (rd x30 x32) then (if (rd x30 x32) < (x9.length : Int) then (if (rd x9 (rd x30 x32)) < x13 then (branch_town_cheapest.l1 k x2 x9 x10 x11 x12 (rd x9 (rd x30 x32)) x30 x31 (wrap64 (x32 + 1)) x1000 x1001) else (branch_town_cheapest.l1 k x2 x9 x10 x11 x12 x13 x30 x31 (wrap64 (x32 + 1)) x1000 x1001)) else (none)) else (none))))) else (none)) else (none)) else (if x13 < 0 then (some (0, ([] : List (S41)), false)) else ((branch_town_entering.f k x1000 x1001 x12).bind fun t113 => (branch_town_cheapest.l2 k x2 x9 x10 x11 x12 x13 t113 (t113.length : Int) 0 x1000 x1001)))
def branch_town_cheapest.l2 : Nat → (Int → Option Bool) → List Int → Int → List (S41) → Int → Int → List Int → Int → Int → Int → List (S30) → Option (Int × (List (S41)) × Bool)
  | 0, _, _, _, _, _, _, _, _, _, _, _ => none
  | k + 1, x2, x9, x10, x11, x12, x13, x61, x62, x63, x1000, x1001 => if x63 < x62 then (if 0 ≤ x63 then (if x63 < (x61.length : Int) then (if 0 ≤ (rd x61 x63) then (if (rd x61 x63) < (x9.length : Int) then (branch_town_cheapest.l2 k x2 (x9.set ((rd x61 x63) : Int).toNat (wrap64 ((rd x9 (rd x61 x63)) - x13))) x10 x11 x12 x13 x61 x62 (wrap64 (x63 + 1)) x1000 x1001) else (none)) else (none)) else (none)) else (none)) else (if x13 > 0 then (if x11.length < 8796093022208 then (branch_town_cheapest.l0 k x2 x9 (wrap64 (x10 + x13)) (x11 ++ [(⟨x12, x13⟩ : S41)]) x1000 x1001) else (none)) else (branch_town_cheapest.l0 k x2 x9 x10 x11 x1000 x1001))
end
def branch_town_cheapest.f (k : Nat) (a0_0 : Int) (l0_1 : List (S30)) (l1 : List Int) (a2 : (Int → Option Bool)) : Option (Int × (List (S41)) × Bool) := (slices_Clone.f l1).bind fun t101 => (branch_town_cheapest.l0 k a2 t101 0 ([] : List (S41)) a0_0 l0_1)
theorem branch_town_cheapest.mono_l : ∀ k, (∀ y0 y1 y2 y3 y4 y5, LeO (branch_town_cheapest.l0 k y0 y1 y2 y3 y4 y5) (branch_town_cheapest.l0 (k + 1) y0 y1 y2 y3 y4 y5)) ∧ (∀ y0 y1 y2 y3 y4 y5 y6 y7 y8 y9 y10, LeO (branch_town_cheapest.l1 k y0 y1 y2 y3 y4 y5 y6 y7 y8 y9 y10) (branch_town_cheapest.l1 (k + 1) y0 y1 y2 y3 y4 y5 y6 y7 y8 y9 y10)) ∧ (∀ y0 y1 y2 y3 y4 y5 y6 y7 y8 y9 y10, LeO (branch_town_cheapest.l2 k y0 y1 y2 y3 y4 y5 y6 y7 y8 y9 y10) (branch_town_cheapest.l2 (k + 1) y0 y1 y2 y3 y4 y5 y6 y7 y8 y9 y10))
  | 0 => ⟨fun _ _ _ _ _ _ r h => by simp [branch_town_cheapest.l0] at h, fun _ _ _ _ _ _ _ _ _ _ _ r h => by simp [branch_town_cheapest.l1] at h, fun _ _ _ _ _ _ _ _ _ _ _ r h => by simp [branch_town_cheapest.l2] at h⟩
  | k + 1 => by
    obtain ⟨ih0, ih1, ih2⟩ := branch_town_cheapest.mono_l k
    refine ⟨?_, ?_, ?_⟩
    · intro y0 y1 y2 y3 y4 y5
      unfold branch_town_cheapest.l0
      repeat' first
      | (with_reducible exact ih0 _ _ _ _ _ _)
      | (with_reducible exact ih1 _ _ _ _ _ _ _ _ _ _ _)
      | (with_reducible exact ih2 _ _ _ _ _ _ _ _ _ _ _)
      | (with_reducible exact branch_town_alone.mono _ _ _ _ _)
      | (with_reducible exact branch_town_entering.mono _ _ _ _)
      | (with_reducible exact LeO.refl _)
      | (with_reducible exact LeO.none _)
      | (with_reducible refine LeO.ite ?_ ?_)
      | (with_reducible refine LeO.bind ?_ (fun _ => ?_))
      | exact ih0 _ _ _ _ _ _
      | exact ih1 _ _ _ _ _ _ _ _ _ _ _
      | exact ih2 _ _ _ _ _ _ _ _ _ _ _
      | exact branch_town_alone.mono _ _ _ _ _
      | exact branch_town_entering.mono _ _ _ _
      | exact LeO.none _
      | refine LeO.ite ?_ ?_
      | refine LeO.bind ?_ (fun _ => ?_)
    · intro y0 y1 y2 y3 y4 y5 y6 y7 y8 y9 y10
      unfold branch_town_cheapest.l1
      repeat' first
      | (with_reducible exact ih0 _ _ _ _ _ _)
      | (with_reducible exact ih1 _ _ _ _ _ _ _ _ _ _ _)
      | (with_reducible exact ih2 _ _ _ _ _ _ _ _ _ _ _)
      | (with_reducible exact branch_town_alone.mono _ _ _ _ _)
      | (with_reducible exact branch_town_entering.mono _ _ _ _)
      | (with_reducible exact LeO.refl _)
      | (with_reducible exact LeO.none _)
      | (with_reducible refine LeO.ite ?_ ?_)
      | (with_reducible refine LeO.bind ?_ (fun _ => ?_))
      | exact ih0 _ _ _ _ _ _
      | exact ih1 _ _ _ _ _ _ _ _ _ _ _
      | exact ih2 _ _ _ _ _ _ _ _ _ _ _
      | exact branch_town_alone.mono _ _ _ _ _
      | exact branch_town_entering.mono _ _ _ _
      | exact LeO.none _
      | refine LeO.ite ?_ ?_
      | refine LeO.bind ?_ (fun _ => ?_)
    · intro y0 y1 y2 y3 y4 y5 y6 y7 y8 y9 y10
      unfold branch_town_cheapest.l2
      repeat' first
      | (with_reducible exact ih0 _ _ _ _ _ _)
      | (with_reducible exact ih1 _ _ _ _ _ _ _ _ _ _ _)
      | (with_reducible exact ih2 _ _ _ _ _ _ _ _ _ _ _)
      | (with_reducible exact branch_town_alone.mono _ _ _ _ _)
      | (with_reducible exact branch_town_entering.mono _ _ _ _)
      | (with_reducible exact LeO.refl _)
      | (with_reducible exact LeO.none _)
      | (with_reducible refine LeO.ite ?_ ?_)
      | (with_reducible refine LeO.bind ?_ (fun _ => ?_))
      | exact ih0 _ _ _ _ _ _
      | exact ih1 _ _ _ _ _ _ _ _ _ _ _
      | exact ih2 _ _ _ _ _ _ _ _ _ _ _
      | exact branch_town_alone.mono _ _ _ _ _
      | exact branch_town_entering.mono _ _ _ _
      | exact LeO.none _
      | refine LeO.ite ?_ ?_
      | refine LeO.bind ?_ (fun _ => ?_)
theorem branch_town_cheapest.mono : ∀ a0 a1 a2 a3 k, LeO (branch_town_cheapest.f k a0 a1 a2 a3) (branch_town_cheapest.f (k + 1) a0 a1 a2 a3) := by
  intro a0 a1 a2 a3 k
  obtain ⟨ih0, ih1, ih2⟩ := branch_town_cheapest.mono_l k
  unfold branch_town_cheapest.f
  repeat' first
      | (with_reducible exact ih0 _ _ _ _ _ _)
      | (with_reducible exact ih1 _ _ _ _ _ _ _ _ _ _ _)
      | (with_reducible exact ih2 _ _ _ _ _ _ _ _ _ _ _)
      | (with_reducible exact branch_town_alone.mono _ _ _ _ _)
      | (with_reducible exact branch_town_entering.mono _ _ _ _)
      | (with_reducible exact LeO.refl _)
      | (with_reducible exact LeO.none _)
      | (with_reducible refine LeO.ite ?_ ?_)
      | (with_reducible refine LeO.bind ?_ (fun _ => ?_))
      | exact ih0 _ _ _ _ _ _
      | exact ih1 _ _ _ _ _ _ _ _ _ _ _
      | exact ih2 _ _ _ _ _ _ _ _ _ _ _
      | exact branch_town_alone.mono _ _ _ _ _
      | exact branch_town_entering.mono _ _ _ _
      | exact LeO.none _
      | refine LeO.ite ?_ ?_
      | refine LeO.bind ?_ (fun _ => ?_)
set_option maxHeartbeats 8000000 in
set_option maxRecDepth 100000 in
theorem branch_town_cheapest.calls (k : Nat) (g0 : Nat) (a0_0 : Int) (A0_1 : Option Addr) (c0_1 : Nat) (l0_1 : List (S30)) (a0_2 : Option Nat) (A1 : Option Addr) (c1 : Nat) (l1 : List Int) (vf2 : Value) (a2 : (Int → Option Bool)) (r1 : Int) (r2 : List (S41)) (r3 : Bool) (w : World) (hP0 : w.heap[g0]? = some (.cells #[.int .i64 a0_0, .slice A0_1 l0_1.length c0_1, .map a0_2] 70 (0, 0))) (hr0_1 : Kd.C k30 w A0_1 l0_1.length l0_1) (hc0_1 : l0_1.length ≤ c0_1) (hr1 : Kd.C (Kd.int .i64) w A1 l1.length l1) (hc1 : l1.length ≤ c1) (hF2 : IsFn Try.prog w vf2 a2) (h : branch_town_cheapest.f k a0_0 l0_1 l1 a2 = some (r1, r2, r3)) :
    Calls Try.prog 46 #[.pointer (some ⟨g0, 0, none⟩), .slice A1 l1.length c1, vf2] w fun e w' => ∃ v1_ : Value, e = .returned (.tuple #[.int .i64 r1, v1_, .bool r3]) ∧ Kd.R k41 41 w' w.heap.size (fun _ => True) v1_ r2 ∧ Below w.heap.size w w' := by
  have hu41 := Try.underlying41
  have HP0 := Aside0.mk hP0
  clear hP0
  have HR0_1 := Aside0.mk hr0_1
  have HC0_1 := Aside0.mk hc0_1
  clear hr0_1 hc0_1
  have HR1 := Aside0.mk hr1
  have HC1 := Aside0.mk hc1
  clear hr1 hc1
  have HF2 := Aside0.mk hF2
  clear hF2
  have HB := Aside0.mk (Below.refl w.heap.size w)
  have H : ((slices_Clone.f l1).bind fun t101 => (branch_town_cheapest.l0 k a2 t101 0 ([] : List (S41)) a0_0 l0_1)) = some (r1, r2, r3) := h
  clear h
  replace H := Option.bind_eq_some_iff.mp H
  obtain ⟨t101, A40, H⟩ := H
  replace H : (branch_town_cheapest.l0 k a2 t101 0 ([] : List (S41)) a0_0 l0_1) = some (r1, r2, r3) := H
  have A4 := Aside0.mk A40
  clear A40
  have H' := Aside0.mk H
  clear H
  go_enter Try.func46, Try.ntmps46
  go_wp2_with (first | ((with_reducible refine gate_callee (f := 67) rfl ?_); refine goesL_ (some 19) rfl rfl Try.func67 (by kernel_rfl) rfl #[.slice A1 l1.length c1] rfl (by (try simp only [List.map_toArray, List.map_cons, List.map_nil]); first | done | rfl | (simp only [List.length_drop, List.length_take]; rfl)) ?_; (with_reducible refine (slices_Clone.calls _ _ l1 t101 _ ?side1 ?side2 A4.out).mono ?_); (case side1 => repeat (first | exact HR1.out | (with_reducible refine Kd.C_alloc ?_ _) | (with_reducible refine Kd.C_drewN ?_ _) | (with_reducible refine Kd.C_drew ?_))); (case side2 => exact HC1.out); rintro e w5 ⟨v102, rfl, ho0, hb⟩; refine ⟨_, rfl, ?_⟩; have n0_ := Aside0.mk (Kd.R_lower ho0 (below_size (by repeat (first | (with_reducible first | exact HB.out | apply below_alloc | apply pw_below_drewN | apply below_drew1) | exact HB.out)))); have n1_ := Aside0.mk (below_step (by repeat (first | (with_reducible first | exact HB.out | apply below_alloc | apply pw_below_drewN | apply below_drew1) | exact HB.out)) hb); clear HB; have HO103 := n0_; have HB := n1_; clear n0_ n1_; (try clear hb); (try clear hb2); (try clear hk); (try clear hi); (try clear ho0)))
  go_loopg [10, 11] k (fun kq v10 v11 w' => ∃ (x9_1 : List Int) (x10_1 : Int) (x11_1 : List (S41)), v10 = .int .i64 x10_1 ∧ Aside0 (branch_town_cheapest.l0 kq a2 x9_1 x10_1 x11_1 a0_0 l0_1 = some (r1, r2, r3)) ∧ Aside0 (kq ≤ k) ∧ Aside0 (Kd.R (Kd.int .i64) 3 w' w.heap.size (fun _ => True) v102 x9_1) ∧ Aside0 (Kd.R k41 41 w' w.heap.size (fun _ => True) v11 x11_1) ∧ Aside0 (Below w.heap.size w w'))
  case atStart => exact ⟨(t101), (0), (([] : List (S41))), (by first | rfl | (simp; done) | (simp [*]; done)), H', ⟨Nat.le_refl _⟩, ⟨by (with_reducible repeat (first | apply Kd.R_alloc | apply Kd.R_drewN | apply Kd.R_drew)); exact HO103.out⟩, ⟨by first | exact Kd.R_nil _ _ _ _ _ | exact Kd.N_nil _ _ _ _ _ | exact Kd.V_nil _ _ _ _ _ | exact Kd.Q_nil _ _ _ _ _ | exact Kd.S_nil _ _ _ _ _⟩, ⟨by repeat (first | (with_reducible first | exact HB.out | apply below_alloc | apply pw_below_drewN | apply below_drew1) | exact HB.out)⟩⟩
  case round =>
    clear H'
    try clear c1
    try clear p2
    try clear c4
    obtain ⟨x9_1, x10_1, x11_1, rfl, HA, HK1, HO_9, HO_11, HB⟩ := hrel
    cases gk with
    | zero => exact absurd HA.out (by simp [branch_town_cheapest.l0])
    | succ k1 =>
      have H := HA.out
      clear HA
      simp only [branch_town_cheapest.l0] at H
      replace H := Option.bind_eq_some_iff.mp H
      obtain ⟨t104, A60, H⟩ := H
      replace H : (if t104 = 0 then (some (x10_1, x11_1, true)) else ((branch_town_entering.f k1 a0_0 l0_1 t104).bind fun t105 => (branch_town_cheapest.l1 k1 a2 x9_1 x10_1 x11_1 t104 (-1) t105 (t105.length : Int) 0 a0_0 l0_1))) = some (r1, r2, r3) := H
      have A6 := Aside0.mk A60
      clear A60
      by_cases c7 : t104 = 0
      · rw [if_pos c7] at H
        have c7b0 : (t104 == 0) = true := beq_iff_eq.mpr c7
        have c7b1 : (t104 != 0) = false := bne_eq_false_iff_eq.mpr c7
        clear c7
        simp only [Option.some.injEq, Prod.mk.injEq] at H
        obtain ⟨rfl, rfl, rfl⟩ := H
        obtain ⟨Ao8, co8, eo8⟩ := Kd.R_slice HO_9.out
        subst eo8
        go_wp2_with (first | ((with_reducible refine gate_callee (f := 68) rfl ?_); refine goesL_ (some 23) rfl rfl Try.func68 (by kernel_rfl) rfl #[.pointer (some ⟨g0, 0, none⟩), .slice Ao8 x9_1.length co8, vf2] rfl (by (try simp only [List.map_toArray, List.map_cons, List.map_nil]); first | done | rfl | (simp only [List.length_drop, List.length_take]; rfl)) ?_; (with_reducible refine (branch_town_alone.calls k1 g0 a0_0 A0_1 c0_1 l0_1 a0_2 _ _ x9_1 vf2 a2 t104 _ ?side1 ?side2 ?side3 ?side4 ?side5 ?side6 A6.out).mono ?_); (case side1 => exact ((show Below _ _ _ from by repeat (first | (with_reducible first | exact HB.out | apply below_alloc | apply pw_below_drewN | apply below_drew1) | exact HB.out)).block _ (blk_lt HP0.out)).trans HP0.out); (case side2 => repeat (first | exact (Kd.C_below HR0_1.out HB.out) | (with_reducible refine Kd.C_alloc ?_ _) | (with_reducible refine Kd.C_drewN ?_ _) | (with_reducible refine Kd.C_drew ?_))); (case side3 => exact HC0_1.out); (case side4 => repeat (first | exact (Kd.R_reads' HO_9.out).2.2 | (with_reducible refine Kd.C_alloc ?_ _) | (with_reducible refine Kd.C_drewN ?_ _) | (with_reducible refine Kd.C_drew ?_))); (case side5 => exact (Kd.R_reads' HO_9.out).2.1); (case side6 => exact IsFn.below HF2.out (by repeat (first | (with_reducible first | exact HB.out | apply below_alloc | apply pw_below_drewN | apply below_drew1) | exact HB.out))); rintro e w9 ⟨rfl, hb⟩; refine ⟨_, rfl, ?_⟩; have n0_ := Aside0.mk (Kd.R_below (by (with_reducible repeat (first | apply Kd.R_alloc | apply Kd.R_drewN | apply Kd.R_drew)); exact HO_9.out) hb); have n1_ := Aside0.mk (Kd.R_below (by (with_reducible repeat (first | apply Kd.R_alloc | apply Kd.R_drewN | apply Kd.R_drew)); exact HO_11.out) hb); have n2_ := Aside0.mk (below_step (by repeat (first | (with_reducible first | exact HB.out | apply below_alloc | apply pw_below_drewN | apply below_drew1) | exact HB.out)) hb); clear HO_9; clear HO_11; clear HB; have HO_9 := n0_; have HO_11 := n1_; have HB := n2_; clear n0_ n1_ n2_; (try clear hb); (try clear hb2); (try clear hk); (try clear hi)))
        go_ret3
        exact ⟨_, by first | rfl | (simp [errW_none, errW_some] <;> rfl) | (simp [*, errW_none, errW_some] <;> rfl), by (with_reducible repeat (first | apply Kd.R_alloc | apply Kd.R_drewN | apply Kd.R_drew)); exact HO_11.out, by repeat (first | (with_reducible first | exact HB.out | apply below_alloc | apply pw_below_drewN | apply below_drew1) | exact HB.out)⟩
      · rw [if_neg c7] at H
        have c7b0 : (t104 == 0) = false := beq_eq_false_iff_ne.mpr c7
        have c7b1 : (t104 != 0) = true := bne_iff_ne.mpr c7
        replace H := Option.bind_eq_some_iff.mp H
        obtain ⟨t105, A100, H⟩ := H
        replace H : (branch_town_cheapest.l1 k1 a2 x9_1 x10_1 x11_1 t104 (-1) t105 (t105.length : Int) 0 a0_0 l0_1) = some (r1, r2, r3) := H
        have A10 := Aside0.mk A100
        clear A100
        have H' := Aside0.mk H
        clear H
        obtain ⟨Ao11, co11, eo11⟩ := Kd.R_slice HO_9.out
        subst eo11
        go_wp2_with (first | ((with_reducible refine gate_callee (f := 68) rfl ?_); refine goesL_ (some 23) rfl rfl Try.func68 (by kernel_rfl) rfl #[.pointer (some ⟨g0, 0, none⟩), .slice Ao11 x9_1.length co11, vf2] rfl (by (try simp only [List.map_toArray, List.map_cons, List.map_nil]); first | done | rfl | (simp only [List.length_drop, List.length_take]; rfl)) ?_; (with_reducible refine (branch_town_alone.calls k1 g0 a0_0 A0_1 c0_1 l0_1 a0_2 _ _ x9_1 vf2 a2 t104 _ ?side1 ?side2 ?side3 ?side4 ?side5 ?side6 A6.out).mono ?_); (case side1 => exact ((show Below _ _ _ from by repeat (first | (with_reducible first | exact HB.out | apply below_alloc | apply pw_below_drewN | apply below_drew1) | exact HB.out)).block _ (blk_lt HP0.out)).trans HP0.out); (case side2 => repeat (first | exact (Kd.C_below HR0_1.out HB.out) | (with_reducible refine Kd.C_alloc ?_ _) | (with_reducible refine Kd.C_drewN ?_ _) | (with_reducible refine Kd.C_drew ?_))); (case side3 => exact HC0_1.out); (case side4 => repeat (first | exact (Kd.R_reads' HO_9.out).2.2 | (with_reducible refine Kd.C_alloc ?_ _) | (with_reducible refine Kd.C_drewN ?_ _) | (with_reducible refine Kd.C_drew ?_))); (case side5 => exact (Kd.R_reads' HO_9.out).2.1); (case side6 => exact IsFn.below HF2.out (by repeat (first | (with_reducible first | exact HB.out | apply below_alloc | apply pw_below_drewN | apply below_drew1) | exact HB.out))); rintro e w12 ⟨rfl, hb⟩; refine ⟨_, rfl, ?_⟩; have n0_ := Aside0.mk (Kd.R_below (by (with_reducible repeat (first | apply Kd.R_alloc | apply Kd.R_drewN | apply Kd.R_drew)); exact HO_9.out) hb); have n1_ := Aside0.mk (Kd.R_below (by (with_reducible repeat (first | apply Kd.R_alloc | apply Kd.R_drewN | apply Kd.R_drew)); exact HO_11.out) hb); have n2_ := Aside0.mk (below_step (by repeat (first | (with_reducible first | exact HB.out | apply below_alloc | apply pw_below_drewN | apply below_drew1) | exact HB.out)) hb); clear HO_9; clear HO_11; clear HB; have HO_9 := n0_; have HO_11 := n1_; have HB := n2_; clear n0_ n1_ n2_; (try clear hb); (try clear hb2); (try clear hk); (try clear hi)) | ((with_reducible refine gate_callee (f := 59) rfl ?_); refine goesL_ (some 30) rfl rfl Try.func59 (by kernel_rfl) rfl #[.pointer (some ⟨g0, 0, none⟩), .int .i64 t104] rfl (by (try simp only [List.map_toArray, List.map_cons, List.map_nil]); first | done | rfl | (simp only [List.length_drop, List.length_take]; rfl)) ?_; (with_reducible refine (branch_town_entering.calls k1 g0 a0_0 A0_1 c0_1 l0_1 a0_2 t104 t105 _ ?side1 ?side2 ?side3 A10.out).mono ?_); (case side1 => exact ((show Below _ _ _ from by repeat (first | (with_reducible first | exact HB.out | apply below_alloc | apply pw_below_drewN | apply below_drew1) | exact HB.out)).block _ (blk_lt HP0.out)).trans HP0.out); (case side2 => repeat (first | exact (Kd.C_below HR0_1.out HB.out) | (with_reducible refine Kd.C_alloc ?_ _) | (with_reducible refine Kd.C_drewN ?_ _) | (with_reducible refine Kd.C_drew ?_))); (case side3 => exact HC0_1.out); rintro e w13 ⟨v106, rfl, ho0, hb⟩; refine ⟨_, rfl, ?_⟩; have n0_ := Aside0.mk (Kd.R_elder' (by (with_reducible repeat (first | apply Kd.R_alloc | apply Kd.R_drewN | apply Kd.R_drew)); exact HO_9.out) (Kd.R_base ho0) hb); have n1_ := Aside0.mk (Kd.R_below (by (with_reducible repeat (first | apply Kd.R_alloc | apply Kd.R_drewN | apply Kd.R_drew)); exact HO_11.out) hb); have n2_ := Aside0.mk (Kd.R_lower (Kd.R_new' ho0 (Kd.R_lt (by (with_reducible repeat (first | apply Kd.R_alloc | apply Kd.R_drewN | apply Kd.R_drew)); exact HO_9.out))) (below_size (by repeat (first | (with_reducible first | exact HB.out | apply below_alloc | apply pw_below_drewN | apply below_drew1) | exact HB.out)))); have n3_ := Aside0.mk (below_step (by repeat (first | (with_reducible first | exact HB.out | apply below_alloc | apply pw_below_drewN | apply below_drew1) | exact HB.out)) hb); clear HO_9; clear HO_11; clear HB; have HO_9 := n0_; have HO_11 := n1_; have HO107 := n2_; have HB := n3_; clear n0_ n1_ n2_ n3_; (try clear hb); (try clear hb2); (try clear hk); (try clear hi); (try clear ho0); obtain ⟨Ao14, co14, eo14⟩ := Kd.R_slice HO107.out; subst eo14))
        go_loopg [13, 32] k1 (fun kq v13 v32 w' => ∃ (x13_2 : Int) (x32_2 : Int), v13 = .int .i64 x13_2 ∧ v32 = .int .i64 x32_2 ∧ Aside0 (branch_town_cheapest.l1 kq a2 x9_1 x10_1 x11_1 t104 x13_2 t105 (t105.length : Int) x32_2 a0_0 l0_1 = some (r1, r2, r3)) ∧ Aside0 (kq ≤ k1) ∧ Aside0 (Kd.R (Kd.int .i64) 3 w' w.heap.size (fun k_ => some k_ ≠ ((.slice Ao14 t105.length co14) : Value).ownBlock) (.slice Ao11 x9_1.length co11) x9_1) ∧ Aside0 (Kd.R k41 41 w' w.heap.size (fun _ => True) u11 x11_1) ∧ Aside0 (Kd.R (Kd.int .i64) 3 w' w.heap.size (fun k_ => some k_ ≠ ((.slice Ao11 x9_1.length co11) : Value).ownBlock) (.slice Ao14 t105.length co14) t105) ∧ Aside0 (Below w.heap.size w w'))
        case atStart => exact ⟨((-1)), (0), (by first | rfl | (simp; done) | (simp [*]; done)), (by first | rfl | (simp; done) | (simp [*]; done)), H', ⟨Nat.le_refl _⟩, ⟨by (with_reducible repeat (first | apply Kd.R_alloc | apply Kd.R_drewN | apply Kd.R_drew)); exact Kd.R_mono HO_9.out (fun _ hk => hk.2)⟩, ⟨by (with_reducible repeat (first | apply Kd.R_alloc | apply Kd.R_drewN | apply Kd.R_drew)); exact HO_11.out⟩, ⟨by (with_reducible repeat (first | apply Kd.R_alloc | apply Kd.R_drewN | apply Kd.R_drew)); exact Kd.R_mono HO107.out (fun _ hk => hk.2)⟩, ⟨by repeat (first | (with_reducible first | exact HB.out | apply below_alloc | apply pw_below_drewN | apply below_drew1) | exact HB.out)⟩⟩
        case round =>
          clear H'
          try clear c1
          try clear p2
          try clear c4
          try clear c5
          try clear c6
          try clear c7
          try clear c7b0
          try clear c7b1
          try clear p2
          obtain ⟨x13_2, x32_2, rfl, rfl, HA, HK2, HO_9, HO_11, HO_30, HB⟩ := hrel
          cases gk with
          | zero => exact absurd HA.out (by simp [branch_town_cheapest.l1])
          | succ k2 =>
            have H := HA.out
            clear HA
            simp only [branch_town_cheapest.l1] at H
            by_cases c15 : x32_2 < (t105.length : Int)
            · rw [if_pos c15] at H
              have c15b0 : decide (x32_2 < (t105.length : Int)) = true := decide_eq_true c15
              clear c15
              by_cases c16 : 0 ≤ x32_2
              · rw [if_pos c16] at H
                have c16b0 : decide (0 ≤ x32_2) = true := decide_eq_true c16
                clear c16
                by_cases c17 : x32_2 < (t105.length : Int)
                · rw [if_pos c17] at H
                  have c17b0 : decide (x32_2 < (t105.length : Int)) = true := decide_eq_true c17
                  clear c17
                  replace H := Option.bind_eq_some_iff.mp H
                  obtain ⟨t109, A180, H⟩ := H
                  replace H : (if t109 = true then (branch_town_cheapest.l1 k2 a2 x9_1 x10_1 x11_1 t104 x13_2 t105 (t105.length : Int) (wrap64 (x32_2 + 1)) a0_0 l0_1) else (if x13_2 < 0 then (if 0 ≤ (rd t105 x32_2) then (if (rd t105 x32_2) < (x9_1.length : Int) then (branch_town_cheapest.l1 k2 a2 x9_1 x10_1 x11_1 t104 (rd x9_1 (rd t105 x32_2)) t105 (t105.length : Int) (wrap64 (x32_2 + 1)) a0_0 l0_1) else (none)) else (none)) else (if 0 ≤ (rd t105 x32_2) then (if (rd t105 x32_2) < (x9_1.length : Int) then (if (rd x9_1 (rd t105 x32_2)) < x13_2 then (branch_town_cheapest.l1 k2 a2 x9_1 x10_1 x11_1 t104 (rd x9_1 (rd t105 x32_2)) t105 (t105.length : Int) (wrap64 (x32_2 + 1)) a0_0 l0_1) else (branch_town_cheapest.l1 k2 a2 x9_1 x10_1 x11_1 t104 x13_2 t105 (t105.length : Int) (wrap64 (x32_2 + 1)) a0_0 l0_1)) else (none)) else (none)))) = some (r1, r2, r3) := H
                  have A18 := Aside0.mk A180
                  clear A180
                  by_cases c19 : t109 = true
                  · subst c19
                    have H1 : (branch_town_cheapest.l1 k2 a2 x9_1 x10_1 x11_1 t104 x13_2 t105 (t105.length : Int) (wrap64 (x32_2 + 1)) a0_0 l0_1) = some (r1, r2, r3) := by rw [if_pos rfl] at H; exact H
                    clear H
                    have H := H1
                    clear H1
                    have H' := Aside0.mk H
                    clear H
                    have p108 : 0 ≤ (x32_2 : Int) := of_decide_eq_true (by first | (with_reducible assumption) | assumption)
                    have q108 : x32_2 < (t105.length : Int) := of_decide_eq_true (by first | (with_reducible assumption) | assumption)
                    obtain ⟨ad108, e108, hx108_0⟩ := Kd.at_int (Kd.R_reads' HO_30.out).2.2 x32_2 p108 q108
                    cases e108
                    replace p108 := eq_true p108
                    replace q108 := eq_true q108
                    go_wp2_with (first | ((with_reducible refine gate_dst (N := 38) rfl ?_); refine goesF_ (some 38) rfl rfl HF2.out rfl rfl (i := (rd t105 x32_2)) rfl ?sideB A18.out ?_; (case sideB => exact by repeat (first | (with_reducible first | exact HB.out | apply below_alloc | apply pw_below_drewN | apply below_drew1) | exact HB.out)); intro w20 hb; have n0_ := Aside0.mk (Kd.R_below (by (with_reducible repeat (first | apply Kd.R_alloc | apply Kd.R_drewN | apply Kd.R_drew)); exact HO_9.out) hb); have n1_ := Aside0.mk (Kd.R_below (by (with_reducible repeat (first | apply Kd.R_alloc | apply Kd.R_drewN | apply Kd.R_drew)); exact HO_11.out) hb); have n2_ := Aside0.mk (Kd.R_below (by (with_reducible repeat (first | apply Kd.R_alloc | apply Kd.R_drewN | apply Kd.R_drew)); exact HO_30.out) hb); have n3_ := Aside0.mk (below_step (by repeat (first | (with_reducible first | exact HB.out | apply below_alloc | apply pw_below_drewN | apply below_drew1) | exact HB.out)) hb); clear HO_9; clear HO_11; clear HO_30; clear HB; have HO_9 := n0_; have HO_11 := n1_; have HO_30 := n2_; have HB := n3_; clear n0_ n1_ n2_ n3_; (try clear hb); (try clear hb2); (try clear hk); (try clear hi)))
                    go_roundg k2
                    case measure => have := HK1.out; have := HK2.out; omega
                    case rel => exact ⟨(x13_2), (wrap64 (x32_2 + 1)), (by first | rfl | (simp; done) | (simp [*]; done)), (by first | rfl | (simp; done) | (simp [*]; done)), H', ⟨by have := HK1.out; have := HK2.out; omega⟩, ⟨by (with_reducible repeat (first | apply Kd.R_alloc | apply Kd.R_drewN | apply Kd.R_drew)); exact HO_9.out⟩, ⟨by (with_reducible repeat (first | apply Kd.R_alloc | apply Kd.R_drewN | apply Kd.R_drew)); exact HO_11.out⟩, ⟨by (with_reducible repeat (first | apply Kd.R_alloc | apply Kd.R_drewN | apply Kd.R_drew)); exact HO_30.out⟩, ⟨by repeat (first | (with_reducible first | exact HB.out | apply below_alloc | apply pw_below_drewN | apply below_drew1) | exact HB.out)⟩⟩
                  · replace c19 := Bool.eq_false_iff.mpr c19
                    subst c19
                    have H1 : (if x13_2 < 0 then (if 0 ≤ (rd t105 x32_2) then (if (rd t105 x32_2) < (x9_1.length : Int) then (branch_town_cheapest.l1 k2 a2 x9_1 x10_1 x11_1 t104 (rd x9_1 (rd t105 x32_2)) t105 (t105.length : Int) (wrap64 (x32_2 + 1)) a0_0 l0_1) else (none)) else (none)) else (if 0 ≤ (rd t105 x32_2) then (if (rd t105 x32_2) < (x9_1.length : Int) then (if (rd x9_1 (rd t105 x32_2)) < x13_2 then (branch_town_cheapest.l1 k2 a2 x9_1 x10_1 x11_1 t104 (rd x9_1 (rd t105 x32_2)) t105 (t105.length : Int) (wrap64 (x32_2 + 1)) a0_0 l0_1) else (branch_town_cheapest.l1 k2 a2 x9_1 x10_1 x11_1 t104 x13_2 t105 (t105.length : Int) (wrap64 (x32_2 + 1)) a0_0 l0_1)) else (none)) else (none))) = some (r1, r2, r3) := by rw [if_neg (show ¬ (false = true) by decide)] at H; exact H
                    clear H
                    have H := H1
                    clear H1
                    by_cases c21 : x13_2 < 0
                    · rw [if_pos c21] at H
                      have c21b0 : decide (x13_2 < 0) = true := decide_eq_true c21
                      clear c21
                      by_cases c22 : 0 ≤ (rd t105 x32_2)
                      · rw [if_pos c22] at H
                        have c22b0 : decide (0 ≤ (rd t105 x32_2)) = true := decide_eq_true c22
                        clear c22
                        by_cases c23 : (rd t105 x32_2) < (x9_1.length : Int)
                        · rw [if_pos c23] at H
                          have c23b0 : decide ((rd t105 x32_2) < (x9_1.length : Int)) = true := decide_eq_true c23
                          clear c23
                          have H' := Aside0.mk H
                          clear H
                          have p108 : 0 ≤ (x32_2 : Int) := of_decide_eq_true (by first | (with_reducible assumption) | assumption)
                          have q108 : x32_2 < (t105.length : Int) := of_decide_eq_true (by first | (with_reducible assumption) | assumption)
                          obtain ⟨ad108, e108, hx108_0⟩ := Kd.at_int (Kd.R_reads' HO_30.out).2.2 x32_2 p108 q108
                          cases e108
                          replace p108 := eq_true p108
                          replace q108 := eq_true q108
                          go_wp2_with (first | ((with_reducible refine gate_dst (N := 38) rfl ?_); refine goesF_ (some 38) rfl rfl HF2.out rfl rfl (i := (rd t105 x32_2)) rfl ?sideB A18.out ?_; (case sideB => exact by repeat (first | (with_reducible first | exact HB.out | apply below_alloc | apply pw_below_drewN | apply below_drew1) | exact HB.out)); intro w24 hb; have n0_ := Aside0.mk (Kd.R_below (by (with_reducible repeat (first | apply Kd.R_alloc | apply Kd.R_drewN | apply Kd.R_drew)); exact HO_9.out) hb); have n1_ := Aside0.mk (Kd.R_below (by (with_reducible repeat (first | apply Kd.R_alloc | apply Kd.R_drewN | apply Kd.R_drew)); exact HO_11.out) hb); have n2_ := Aside0.mk (Kd.R_below (by (with_reducible repeat (first | apply Kd.R_alloc | apply Kd.R_drewN | apply Kd.R_drew)); exact HO_30.out) hb); have n3_ := Aside0.mk (below_step (by repeat (first | (with_reducible first | exact HB.out | apply below_alloc | apply pw_below_drewN | apply below_drew1) | exact HB.out)) hb); clear HO_9; clear HO_11; clear HO_30; clear HB; have HO_9 := n0_; have HO_11 := n1_; have HO_30 := n2_; have HB := n3_; clear n0_ n1_ n2_ n3_; (try clear hb); (try clear hb2); (try clear hk); (try clear hi); have p110 : 0 ≤ ((rd t105 x32_2) : Int) := of_decide_eq_true (by first | (with_reducible assumption) | assumption); have q110 : (rd t105 x32_2) < (x9_1.length : Int) := of_decide_eq_true (by first | (with_reducible assumption) | assumption); obtain ⟨ad110, e110, hx110_0⟩ := Kd.at_int (Kd.R_reads' HO_9.out).2.2 (rd t105 x32_2) p110 q110; cases e110; replace p110 := eq_true p110; replace q110 := eq_true q110))
                          go_roundg k2
                          case measure => have := HK1.out; have := HK2.out; omega
                          case rel => exact ⟨(rd x9_1 (rd t105 x32_2)), (wrap64 (x32_2 + 1)), (by first | rfl | (simp; done) | (simp [*]; done)), (by first | rfl | (simp; done) | (simp [*]; done)), H', ⟨by have := HK1.out; have := HK2.out; omega⟩, ⟨by (with_reducible repeat (first | apply Kd.R_alloc | apply Kd.R_drewN | apply Kd.R_drew)); exact HO_9.out⟩, ⟨by (with_reducible repeat (first | apply Kd.R_alloc | apply Kd.R_drewN | apply Kd.R_drew)); exact HO_11.out⟩, ⟨by (with_reducible repeat (first | apply Kd.R_alloc | apply Kd.R_drewN | apply Kd.R_drew)); exact HO_30.out⟩, ⟨by repeat (first | (with_reducible first | exact HB.out | apply below_alloc | apply pw_below_drewN | apply below_drew1) | exact HB.out)⟩⟩
                        · rw [if_neg c23] at H
                          exact absurd H (by simp)
                      · rw [if_neg c22] at H
                        exact absurd H (by simp)
                    · rw [if_neg c21] at H
                      have c21b0 : decide (x13_2 < 0) = false := decide_eq_false c21
                      clear c21
                      by_cases c25 : 0 ≤ (rd t105 x32_2)
                      · rw [if_pos c25] at H
                        have c25b0 : decide (0 ≤ (rd t105 x32_2)) = true := decide_eq_true c25
                        clear c25
                        by_cases c26 : (rd t105 x32_2) < (x9_1.length : Int)
                        · rw [if_pos c26] at H
                          have c26b0 : decide ((rd t105 x32_2) < (x9_1.length : Int)) = true := decide_eq_true c26
                          clear c26
                          by_cases c27 : (rd x9_1 (rd t105 x32_2)) < x13_2
                          · rw [if_pos c27] at H
                            have c27b0 : decide ((rd x9_1 (rd t105 x32_2)) < x13_2) = true := decide_eq_true c27
                            clear c27
                            have H' := Aside0.mk H
                            clear H
                            have p108 : 0 ≤ (x32_2 : Int) := of_decide_eq_true (by first | (with_reducible assumption) | assumption)
                            have q108 : x32_2 < (t105.length : Int) := of_decide_eq_true (by first | (with_reducible assumption) | assumption)
                            obtain ⟨ad108, e108, hx108_0⟩ := Kd.at_int (Kd.R_reads' HO_30.out).2.2 x32_2 p108 q108
                            cases e108
                            replace p108 := eq_true p108
                            replace q108 := eq_true q108
                            go_wp2_with (first | ((with_reducible refine gate_dst (N := 38) rfl ?_); refine goesF_ (some 38) rfl rfl HF2.out rfl rfl (i := (rd t105 x32_2)) rfl ?sideB A18.out ?_; (case sideB => exact by repeat (first | (with_reducible first | exact HB.out | apply below_alloc | apply pw_below_drewN | apply below_drew1) | exact HB.out)); intro w28 hb; have n0_ := Aside0.mk (Kd.R_below (by (with_reducible repeat (first | apply Kd.R_alloc | apply Kd.R_drewN | apply Kd.R_drew)); exact HO_9.out) hb); have n1_ := Aside0.mk (Kd.R_below (by (with_reducible repeat (first | apply Kd.R_alloc | apply Kd.R_drewN | apply Kd.R_drew)); exact HO_11.out) hb); have n2_ := Aside0.mk (Kd.R_below (by (with_reducible repeat (first | apply Kd.R_alloc | apply Kd.R_drewN | apply Kd.R_drew)); exact HO_30.out) hb); have n3_ := Aside0.mk (below_step (by repeat (first | (with_reducible first | exact HB.out | apply below_alloc | apply pw_below_drewN | apply below_drew1) | exact HB.out)) hb); clear HO_9; clear HO_11; clear HO_30; clear HB; have HO_9 := n0_; have HO_11 := n1_; have HO_30 := n2_; have HB := n3_; clear n0_ n1_ n2_ n3_; (try clear hb); (try clear hb2); (try clear hk); (try clear hi); have p111 : 0 ≤ ((rd t105 x32_2) : Int) := of_decide_eq_true (by first | (with_reducible assumption) | assumption); have q111 : (rd t105 x32_2) < (x9_1.length : Int) := of_decide_eq_true (by first | (with_reducible assumption) | assumption); obtain ⟨ad111, e111, hx111_0⟩ := Kd.at_int (Kd.R_reads' HO_9.out).2.2 (rd t105 x32_2) p111 q111; cases e111; replace p111 := eq_true p111; replace q111 := eq_true q111; have p112 : 0 ≤ ((rd t105 x32_2) : Int) := of_decide_eq_true (by first | (with_reducible assumption) | assumption); have q112 : (rd t105 x32_2) < (x9_1.length : Int) := of_decide_eq_true (by first | (with_reducible assumption) | assumption); obtain ⟨ad112, e112, hx112_0⟩ := Kd.at_int (Kd.R_reads' HO_9.out).2.2 (rd t105 x32_2) p112 q112; obtain rfl : ad111 = ad112 := (by injection e112); replace p112 := eq_true p112; replace q112 := eq_true q112))
                            go_roundg k2
                            case measure => have := HK1.out; have := HK2.out; omega
                            case rel => exact ⟨(rd x9_1 (rd t105 x32_2)), (wrap64 (x32_2 + 1)), (by first | rfl | (simp; done) | (simp [*]; done)), (by first | rfl | (simp; done) | (simp [*]; done)), H', ⟨by have := HK1.out; have := HK2.out; omega⟩, ⟨by (with_reducible repeat (first | apply Kd.R_alloc | apply Kd.R_drewN | apply Kd.R_drew)); exact HO_9.out⟩, ⟨by (with_reducible repeat (first | apply Kd.R_alloc | apply Kd.R_drewN | apply Kd.R_drew)); exact HO_11.out⟩, ⟨by (with_reducible repeat (first | apply Kd.R_alloc | apply Kd.R_drewN | apply Kd.R_drew)); exact HO_30.out⟩, ⟨by repeat (first | (with_reducible first | exact HB.out | apply below_alloc | apply pw_below_drewN | apply below_drew1) | exact HB.out)⟩⟩
                          · rw [if_neg c27] at H
                            have c27b0 : decide ((rd x9_1 (rd t105 x32_2)) < x13_2) = false := decide_eq_false c27
                            clear c27
                            have H' := Aside0.mk H
                            clear H
                            have p108 : 0 ≤ (x32_2 : Int) := of_decide_eq_true (by first | (with_reducible assumption) | assumption)
                            have q108 : x32_2 < (t105.length : Int) := of_decide_eq_true (by first | (with_reducible assumption) | assumption)
                            obtain ⟨ad108, e108, hx108_0⟩ := Kd.at_int (Kd.R_reads' HO_30.out).2.2 x32_2 p108 q108
                            cases e108
                            replace p108 := eq_true p108
                            replace q108 := eq_true q108
                            go_wp2_with (first | ((with_reducible refine gate_dst (N := 38) rfl ?_); refine goesF_ (some 38) rfl rfl HF2.out rfl rfl (i := (rd t105 x32_2)) rfl ?sideB A18.out ?_; (case sideB => exact by repeat (first | (with_reducible first | exact HB.out | apply below_alloc | apply pw_below_drewN | apply below_drew1) | exact HB.out)); intro w29 hb; have n0_ := Aside0.mk (Kd.R_below (by (with_reducible repeat (first | apply Kd.R_alloc | apply Kd.R_drewN | apply Kd.R_drew)); exact HO_9.out) hb); have n1_ := Aside0.mk (Kd.R_below (by (with_reducible repeat (first | apply Kd.R_alloc | apply Kd.R_drewN | apply Kd.R_drew)); exact HO_11.out) hb); have n2_ := Aside0.mk (Kd.R_below (by (with_reducible repeat (first | apply Kd.R_alloc | apply Kd.R_drewN | apply Kd.R_drew)); exact HO_30.out) hb); have n3_ := Aside0.mk (below_step (by repeat (first | (with_reducible first | exact HB.out | apply below_alloc | apply pw_below_drewN | apply below_drew1) | exact HB.out)) hb); clear HO_9; clear HO_11; clear HO_30; clear HB; have HO_9 := n0_; have HO_11 := n1_; have HO_30 := n2_; have HB := n3_; clear n0_ n1_ n2_ n3_; (try clear hb); (try clear hb2); (try clear hk); (try clear hi); have p111 : 0 ≤ ((rd t105 x32_2) : Int) := of_decide_eq_true (by first | (with_reducible assumption) | assumption); have q111 : (rd t105 x32_2) < (x9_1.length : Int) := of_decide_eq_true (by first | (with_reducible assumption) | assumption); obtain ⟨ad111, e111, hx111_0⟩ := Kd.at_int (Kd.R_reads' HO_9.out).2.2 (rd t105 x32_2) p111 q111; cases e111; replace p111 := eq_true p111; replace q111 := eq_true q111))
                            go_roundg k2
                            case measure => have := HK1.out; have := HK2.out; omega
                            case rel => exact ⟨(x13_2), (wrap64 (x32_2 + 1)), (by first | rfl | (simp; done) | (simp [*]; done)), (by first | rfl | (simp; done) | (simp [*]; done)), H', ⟨by have := HK1.out; have := HK2.out; omega⟩, ⟨by (with_reducible repeat (first | apply Kd.R_alloc | apply Kd.R_drewN | apply Kd.R_drew)); exact HO_9.out⟩, ⟨by (with_reducible repeat (first | apply Kd.R_alloc | apply Kd.R_drewN | apply Kd.R_drew)); exact HO_11.out⟩, ⟨by (with_reducible repeat (first | apply Kd.R_alloc | apply Kd.R_drewN | apply Kd.R_drew)); exact HO_30.out⟩, ⟨by repeat (first | (with_reducible first | exact HB.out | apply below_alloc | apply pw_below_drewN | apply below_drew1) | exact HB.out)⟩⟩
                        · rw [if_neg c26] at H
                          exact absurd H (by simp)
                      · rw [if_neg c25] at H
                        exact absurd H (by simp)
                · rw [if_neg c17] at H
                  exact absurd H (by simp)
              · rw [if_neg c16] at H
                exact absurd H (by simp)
            · rw [if_neg c15] at H
              have c15b0 : decide (x32_2 < (t105.length : Int)) = false := decide_eq_false c15
              clear c15
              by_cases c30 : x13_2 < 0
              · rw [if_pos c30] at H
                have c30b0 : decide (x13_2 < 0) = true := decide_eq_true c30
                clear c30
                simp only [Option.some.injEq, Prod.mk.injEq] at H
                obtain ⟨rfl, rfl, rfl⟩ := H
                go_wp2
                go_ret3
                exact ⟨_, by first | rfl | (simp [errW_none, errW_some] <;> rfl) | (simp [*, errW_none, errW_some] <;> rfl), by first | exact Kd.R_nil _ _ _ _ _ | exact Kd.N_nil _ _ _ _ _ | exact Kd.V_nil _ _ _ _ _ | exact Kd.Q_nil _ _ _ _ _ | exact Kd.S_nil _ _ _ _ _, by repeat (first | (with_reducible first | exact HB.out | apply below_alloc | apply pw_below_drewN | apply below_drew1) | exact HB.out)⟩
              · rw [if_neg c30] at H
                have c30b0 : decide (x13_2 < 0) = false := decide_eq_false c30
                clear c30
                replace H := Option.bind_eq_some_iff.mp H
                obtain ⟨t113, A310, H⟩ := H
                replace H : (branch_town_cheapest.l2 k2 a2 x9_1 x10_1 x11_1 t104 x13_2 t113 (t113.length : Int) 0 a0_0 l0_1) = some (r1, r2, r3) := H
                have A31 := Aside0.mk A310
                clear A310
                have H' := Aside0.mk H
                clear H
                go_wp2_with (first | ((with_reducible refine gate_callee (f := 59) rfl ?_); refine goesL_ (some 61) rfl rfl Try.func59 (by kernel_rfl) rfl #[.pointer (some ⟨g0, 0, none⟩), .int .i64 t104] rfl (by (try simp only [List.map_toArray, List.map_cons, List.map_nil]); first | done | rfl | (simp only [List.length_drop, List.length_take]; rfl)) ?_; (with_reducible refine (branch_town_entering.calls k2 g0 a0_0 A0_1 c0_1 l0_1 a0_2 t104 t113 _ ?side1 ?side2 ?side3 A31.out).mono ?_); (case side1 => exact ((show Below _ _ _ from by repeat (first | (with_reducible first | exact HB.out | apply below_alloc | apply pw_below_drewN | apply below_drew1) | exact HB.out)).block _ (blk_lt HP0.out)).trans HP0.out); (case side2 => repeat (first | exact (Kd.C_below HR0_1.out HB.out) | (with_reducible refine Kd.C_alloc ?_ _) | (with_reducible refine Kd.C_drewN ?_ _) | (with_reducible refine Kd.C_drew ?_))); (case side3 => exact HC0_1.out); rintro e w32 ⟨v114, rfl, ho0, hb⟩; refine ⟨_, rfl, ?_⟩; have n0_ := Aside0.mk (Kd.R_elder' (by (with_reducible repeat (first | apply Kd.R_alloc | apply Kd.R_drewN | apply Kd.R_drew)); exact HO_9.out) (Kd.R_base ho0) hb); have n1_ := Aside0.mk (Kd.R_below (by (with_reducible repeat (first | apply Kd.R_alloc | apply Kd.R_drewN | apply Kd.R_drew)); exact HO_11.out) hb); have n2_ := Aside0.mk (Kd.R_elder' (by (with_reducible repeat (first | apply Kd.R_alloc | apply Kd.R_drewN | apply Kd.R_drew)); exact HO_30.out) (Kd.R_base ho0) hb); have n3_ := Aside0.mk (Kd.R_lower (Kd.R_new' (Kd.R_new' ho0 (Kd.R_lt (by (with_reducible repeat (first | apply Kd.R_alloc | apply Kd.R_drewN | apply Kd.R_drew)); exact HO_9.out))) (Kd.R_lt (by (with_reducible repeat (first | apply Kd.R_alloc | apply Kd.R_drewN | apply Kd.R_drew)); exact HO_30.out))) (below_size (by repeat (first | (with_reducible first | exact HB.out | apply below_alloc | apply pw_below_drewN | apply below_drew1) | exact HB.out)))); have n4_ := Aside0.mk (below_step (by repeat (first | (with_reducible first | exact HB.out | apply below_alloc | apply pw_below_drewN | apply below_drew1) | exact HB.out)) hb); clear HO_9; clear HO_11; clear HO_30; clear HB; have HO_9 := n0_; have HO_11 := n1_; have HO_30 := n2_; have HO115 := n3_; have HB := n4_; clear n0_ n1_ n2_ n3_ n4_; (try clear hb); (try clear hb2); (try clear hk); (try clear hi); (try clear ho0); obtain ⟨Ao33, co33, eo33⟩ := Kd.R_slice HO115.out; subst eo33))
                go_loopg [63] k2 (fun kq v63 w' => ∃ (x9_3 : List Int) (x63_3 : Int), v63 = .int .i64 x63_3 ∧ Aside0 (branch_town_cheapest.l2 kq a2 x9_3 x10_1 x11_1 t104 x13_2 t113 (t113.length : Int) x63_3 a0_0 l0_1 = some (r1, r2, r3)) ∧ Aside0 (kq ≤ k2) ∧ Aside0 (Kd.R (Kd.int .i64) 3 w' w.heap.size (fun k_ => some k_ ≠ ((.slice Ao33 t113.length co33) : Value).ownBlock) (.slice Ao11 x9_1.length co11) x9_3) ∧ Aside0 (Kd.R k41 41 w' w.heap.size (fun _ => True) u11 x11_1) ∧ Aside0 (Kd.R (Kd.int .i64) 3 w' w.heap.size (fun k_ => some k_ ≠ ((.slice Ao11 x9_1.length co11) : Value).ownBlock) (.slice Ao33 t113.length co33) t113) ∧ Aside0 (Below w.heap.size w w'))
                case atStart => exact ⟨(x9_1), (0), (by first | rfl | (simp; done) | (simp [*]; done)), H', ⟨Nat.le_refl _⟩, ⟨by (with_reducible repeat (first | apply Kd.R_alloc | apply Kd.R_drewN | apply Kd.R_drew)); exact Kd.R_mono HO_9.out (fun _ hk => hk.2)⟩, ⟨by (with_reducible repeat (first | apply Kd.R_alloc | apply Kd.R_drewN | apply Kd.R_drew)); exact HO_11.out⟩, ⟨by (with_reducible repeat (first | apply Kd.R_alloc | apply Kd.R_drewN | apply Kd.R_drew)); exact Kd.R_mono HO115.out (fun _ hk => hk.1.2)⟩, ⟨by repeat (first | (with_reducible first | exact HB.out | apply below_alloc | apply pw_below_drewN | apply below_drew1) | exact HB.out)⟩⟩
                case round =>
                  clear H'
                  try clear c1
                  try clear p1
                  try clear q1
                  try clear hx1
                  try clear c2
                  try clear p2
                  try clear c3
                  try clear c4
                  try clear c5
                  try clear c6
                  try clear p6
                  try clear c7
                  try clear c7b0
                  try clear c7b1
                  try clear p10
                  try clear q10
                  try clear hx10
                  try clear p11
                  try clear q11
                  try clear hx11
                  try clear c15
                  try clear c15b0
                  try clear c16
                  try clear c16b0
                  try clear c17
                  try clear c17b0
                  try clear c19
                  try clear c21
                  try clear c21b0
                  try clear c22
                  try clear c22b0
                  try clear c23
                  try clear c23b0
                  try clear c25
                  try clear c25b0
                  try clear c26
                  try clear c26b0
                  try clear c27
                  try clear c27b0
                  try clear c30
                  try clear c30b0
                  try clear hx108_0
                  try clear hx110_0
                  try clear hx111_0
                  try clear hx112_0
                  try clear p108
                  try clear p110
                  try clear p111
                  try clear p112
                  try clear p2
                  try clear q108
                  try clear q110
                  try clear q111
                  try clear q112
                  obtain ⟨x9_3, x63_3, rfl, HA, HK3, HO_9, HO_11, HO_61, HB⟩ := hrel
                  have hl9_3 := (Kd.R_reads' HO_9.out).1
                  rw [hl9_3] at HO_9
                  (try simp only [hl9_3])
                  (try simp only [hl9_3] at HO_11)
                  (try simp only [hl9_3] at HO_61)
                  cases gk with
                  | zero => exact absurd HA.out (by simp [branch_town_cheapest.l2])
                  | succ k3 =>
                    have H := HA.out
                    clear HA
                    simp only [branch_town_cheapest.l2] at H
                    by_cases c34 : x63_3 < (t113.length : Int)
                    · rw [if_pos c34] at H
                      have c34b0 : decide (x63_3 < (t113.length : Int)) = true := decide_eq_true c34
                      (try (have c34b0l := c34b0; simp only [hl9_3] at c34b0l))
                      clear c34
                      by_cases c35 : 0 ≤ x63_3
                      · rw [if_pos c35] at H
                        have c35b0 : decide (0 ≤ x63_3) = true := decide_eq_true c35
                        clear c35
                        by_cases c36 : x63_3 < (t113.length : Int)
                        · rw [if_pos c36] at H
                          have c36b0 : decide (x63_3 < (t113.length : Int)) = true := decide_eq_true c36
                          (try (have c36b0l := c36b0; simp only [hl9_3] at c36b0l))
                          clear c36
                          by_cases c37 : 0 ≤ (rd t113 x63_3)
                          · rw [if_pos c37] at H
                            have c37b0 : decide (0 ≤ (rd t113 x63_3)) = true := decide_eq_true c37
                            clear c37
                            by_cases c38 : (rd t113 x63_3) < (x9_3.length : Int)
                            · rw [if_pos c38] at H
                              have c38b0 : decide ((rd t113 x63_3) < (x9_3.length : Int)) = true := decide_eq_true c38
                              (try (have c38b0l := c38b0; simp only [hl9_3] at c38b0l))
                              clear c38
                              obtain ⟨y118, hy118⟩ : ∃ y_ : List Int, y_ = (x9_3.set ((rd t113 x63_3) : Int).toNat (wrap64 ((rd x9_3 (rd t113 x63_3)) - x13_2))) := ⟨_, rfl⟩
                              replace H : (branch_town_cheapest.l2 k3 a2 y118 x10_1 x11_1 t104 x13_2 t113 (t113.length : Int) (wrap64 (x63_3 + 1)) a0_0 l0_1) = some (r1, r2, r3) := by first | (rw [hy118]; with_reducible exact H) | (have H2_ := (Option.bind_some _ _).symm.trans H; rw [hy118]; with_reducible exact H2_) | (have H2_ := (Option.bind_some _ _).symm.trans H; with_reducible exact H2_) | with_reducible exact H | (rw [hy118]; exact H) | exact H
                              have Ny118 := Aside0.mk hy118
                              clear hy118
                              have H' := Aside0.mk H
                              clear H
                              have p116 : 0 ≤ (x63_3 : Int) := of_decide_eq_true (by first | (with_reducible assumption) | assumption)
                              have q116 : x63_3 < (t113.length : Int) := of_decide_eq_true (by first | (with_reducible assumption) | assumption)
                              obtain ⟨ad116, e116, hx116_0⟩ := Kd.at_int (Kd.R_reads' HO_61.out).2.2 x63_3 p116 q116
                              cases e116
                              replace p116 := eq_true p116
                              replace q116 := eq_true q116
                              have p117 : 0 ≤ ((rd t113 x63_3) : Int) := of_decide_eq_true (by first | (with_reducible assumption) | assumption)
                              have q117 : (rd t113 x63_3) < (x9_3.length : Int) := of_decide_eq_true (by first | (with_reducible assumption) | assumption)
                              obtain ⟨ad117, e117, hx117_0⟩ := Kd.at_int (Kd.R_reads' HO_9.out).2.2 (rd t113 x63_3) p117 q117
                              cases e117
                              replace p117 := eq_true p117
                              replace q117 := eq_true q117
                              have p39 : 0 ≤ ((rd t113 x63_3) : Int) := of_decide_eq_true (by first | (with_reducible assumption) | assumption)
                              have q39 : ((rd t113 x63_3) : Int) < ((x9_3.length : Int) : Int) := of_decide_eq_true (by first | (with_reducible assumption) | assumption)
                              obtain ⟨go39, co39, eo39, gb39, gl39, cl39, HG39⟩ := Kd.R_form HO_9.out (by omega)
                              (first | cases eo39 | (injection eo39 with ea_ en_ ec_; (first | subst ea_ | (injection ea_ with ea_; subst ea_)); subst ec_; clear en_))
                              have GB39 := Aside0.mk gb39
                              have GG39 := Aside0.mk HG39
                              clear gb39 gl39 HG39
                              (first | simp only [add_plain] at hx117_0 | skip)
                              obtain ⟨hx39_0, hf39_0⟩ := Kd.R_celln 0 HO_9.out ((rd t113 x63_3) : Int) p39 q39
                              replace p39 := eq_true p39
                              replace q39 := eq_true q39
                              have HP40 := Kd.R_putg HO_9.out ((rd t113 x63_3) : Int) (wrap64 ((rd x9_3 (rd t113 x63_3)) - x13_2))
                              go_wp2_with (first | ((with_reducible refine gate_store (t := 3) (p := 73) rfl ?_); refine store_event (t := 3) (p := 73) (v := ?vo_w41) (w1 := (wr.setCell ⟨go39, ((rd t113 x63_3) : Int).toNat, none⟩ (.int .i64 (wrap64 ((rd x9_3 (rd t113 x63_3)) - x13_2))))) ?hg ?ho ?hn ?hr ?_; (case ho => rfl); (case hg => rfl); (case hn => rfl); (case hr => first | (go_simp; done) | (go_simp; rfl)); intro w41 hw; have hg : wr.grownBy w41 (some go39) := (by rw [hw]; exact HP40.2); have hp_ : Kd.R (Kd.int .i64) 3 w41 w.heap.size (fun k_ => some k_ ≠ (.slice (some ad116) t113.length co33 : Value).ownBlock) (.slice (some ⟨go39, 0, none⟩) x9_3.length co11) y118 := (by rw [hw, Ny118.out]; exact HP40.1); clear HP40; have n0_ := Aside0.mk (hp_); have n1_ := Aside0.mk (Kd.R_over' (v := (.slice (some ⟨go39, 0, none⟩) x9_3.length co11)) (by (with_reducible repeat (first | apply Kd.R_alloc | apply Kd.R_drewN | apply Kd.R_drew)); exact HO_11.out) (Kd.R_typed HO_9.out) (by decide) hg); have n2_ := Aside0.mk (Kd.R_after (v := (.slice (some ⟨go39, 0, none⟩) x9_3.length co11)) (v1 := (.slice (some ⟨go39, 0, none⟩) x9_3.length co11)) (ok := (fun _ => True)) (by (with_reducible repeat (first | apply Kd.R_alloc | apply Kd.R_drewN | apply Kd.R_drew)); exact Kd.R_mono HO_61.out (fun _ hk => ⟨trivial, hk⟩)) hg (.inl rfl)); have n3_ := Aside0.mk ((by rw [hw]; exact below_set (HB.out) GB39.out : Below w.heap.size w w41)); clear HO_9; clear HO_11; clear HO_61; clear HB; have HO_9 := n0_; have HO_11 := n1_; have HO_61 := n2_; have HB := n3_; clear n0_ n1_ n2_ n3_; clear hg hw hp_))
                              (try simp only [← hl9_3])
                              go_roundg k3
                              case measure => have := HK1.out; have := HK2.out; have := HK3.out; omega
                              case rel => exact ⟨(y118), (wrap64 (x63_3 + 1)), (by first | rfl | (simp; done) | (simp [*]; done)), H', ⟨by have := HK1.out; have := HK2.out; have := HK3.out; omega⟩, ⟨by (try simp only [hl9_3]); (with_reducible repeat (first | apply Kd.R_alloc | apply Kd.R_drewN | apply Kd.R_drew)); exact HO_9.out⟩, ⟨by (try simp only [hl9_3]); (with_reducible repeat (first | apply Kd.R_alloc | apply Kd.R_drewN | apply Kd.R_drew)); exact HO_11.out⟩, ⟨by (try simp only [hl9_3]); (with_reducible repeat (first | apply Kd.R_alloc | apply Kd.R_drewN | apply Kd.R_drew)); exact Kd.R_mono HO_61.out (fun _ hk => hk.2)⟩, ⟨by repeat (first | (with_reducible first | exact HB.out | apply below_alloc | apply pw_below_drewN | apply below_drew1) | exact HB.out)⟩⟩
                            · rw [if_neg c38] at H
                              exact absurd H (by simp)
                          · rw [if_neg c37] at H
                            exact absurd H (by simp)
                        · rw [if_neg c36] at H
                          exact absurd H (by simp)
                      · rw [if_neg c35] at H
                        exact absurd H (by simp)
                    · rw [if_neg c34] at H
                      have c34b0 : decide (x63_3 < (t113.length : Int)) = false := decide_eq_false c34
                      (try (have c34b0l := c34b0; simp only [hl9_3] at c34b0l))
                      clear c34
                      by_cases c42 : x13_2 > 0
                      · rw [if_pos c42] at H
                        have c42b0 : decide (0 < x13_2) = true := decide_eq_true c42
                        clear c42
                        by_cases c43 : x11_1.length < 8796093022208
                        · rw [if_pos c43] at H
                          have LMc43 := Aside0.mk c43
                          clear c43
                          obtain ⟨y119, hy119⟩ : ∃ y_ : List (S41), y_ = (x11_1 ++ [(⟨t104, x13_2⟩ : S41)]) := ⟨_, rfl⟩
                          replace H : (branch_town_cheapest.l0 k3 a2 x9_3 (wrap64 (x10_1 + x13_2)) y119 a0_0 l0_1) = some (r1, r2, r3) := by first | (rw [hy119]; with_reducible exact H) | (have H2_ := (Option.bind_some _ _).symm.trans H; rw [hy119]; with_reducible exact H2_) | (have H2_ := (Option.bind_some _ _).symm.trans H; with_reducible exact H2_) | with_reducible exact H | (rw [hy119]; exact H) | exact H
                          have Ny119 := Aside0.mk hy119
                          clear hy119
                          have H' := Aside0.mk H
                          clear H
                          go_wp2_with (first | ((with_reducible refine gate_builtin (b := .append) (xs := #[.tmp 80, .tmp 84]) rfl ?_); at_builtin; refine Kd.R_append k41 (w0 := w) w.heap.size rfl (.tmp 80) (.tmp 84) 35 41 (.agg #[(.int .i64 0), (.int .i64 0)]) 16 rfl Try.underlying35 info41 rfl (by decide) (by omega) u11 x11_1 (⟨t104, x13_2⟩ : S41) [.int .i64 t104, .int .i64 x13_2] (fun _ => True) (fun _ => False) rfl rfl ?aP (fun _ hk => hk.elim) ?aF ?aO ?aB ?aS ?aL ?_; (case aP => exact k41_mkM _ _ _ (⟨t104, x13_2⟩ : S41)); (case aB => exact (by repeat (first | (with_reducible first | exact HB.out | apply below_alloc | apply pw_below_drewN | apply below_drew1) | exact HB.out))); (case aF => exact (fun _ _ => trivial)); (case aO => exact (by (with_reducible repeat (first | apply Kd.R_alloc | apply Kd.R_drewN | apply Kd.R_drew)); exact HO_11.out)); (case aS => exact (below_size (by repeat (first | (with_reducible first | exact HB.out | apply below_alloc | apply pw_below_drewN | apply below_drew1) | exact HB.out)))); (case aL => have := LMc43.out; omega); intro v120 w44 ho hb hg hat; rw [← Ny119.out] at ho; have n0_ := Aside0.mk (Kd.R_over' (by (with_reducible repeat (first | apply Kd.R_alloc | apply Kd.R_drewN | apply Kd.R_drew)); exact HO_9.out) (Kd.R_typed (by (with_reducible repeat (first | apply Kd.R_alloc | apply Kd.R_drewN | apply Kd.R_drew)); exact HO_11.out)) (by decide) hg); have n1_ := Aside0.mk (Kd.R_over' (by (with_reducible repeat (first | apply Kd.R_alloc | apply Kd.R_drewN | apply Kd.R_drew)); exact HO_61.out) (Kd.R_typed (by (with_reducible repeat (first | apply Kd.R_alloc | apply Kd.R_drewN | apply Kd.R_drew)); exact HO_11.out)) (by decide) hg); have n2_ := Aside0.mk (hb); have n3_ := Aside0.mk (ho); clear HO_9; clear HO_61; clear HB; clear HO_11; have HO_9 := n0_; have HO_61 := n1_; have HB := n2_; have HO121 := n3_; clear n0_ n1_ n2_ n3_; clear ho hb hg hat))
                          (try simp only [← hl9_3])
                          go_roundg k3
                          case measure => have := HK1.out; have := HK2.out; have := HK3.out; omega
                          case rel => exact ⟨(x9_3), (wrap64 (x10_1 + x13_2)), (y119), (by first | rfl | (simp; done) | (simp [*]; done)), H', ⟨by have := HK1.out; have := HK2.out; have := HK3.out; omega⟩, ⟨by (try simp only [hl9_3]); (with_reducible repeat (first | apply Kd.R_alloc | apply Kd.R_drewN | apply Kd.R_drew)); exact Kd.R_mono HO_9.out (fun _ hk => trivial)⟩, ⟨by (try simp only [hl9_3]); (with_reducible repeat (first | apply Kd.R_alloc | apply Kd.R_drewN | apply Kd.R_drew)); exact HO121.out⟩, ⟨by repeat (first | (with_reducible first | exact HB.out | apply below_alloc | apply pw_below_drewN | apply below_drew1) | exact HB.out)⟩⟩
                        · rw [if_neg c43] at H
                          exact absurd H (by simp)
                      · rw [if_neg c42] at H
                        have c42b0 : decide (0 < x13_2) = false := decide_eq_false c42
                        clear c42
                        have H' := Aside0.mk H
                        clear H
                        go_wp2
                        (try simp only [← hl9_3])
                        go_roundg k3
                        case measure => have := HK1.out; have := HK2.out; have := HK3.out; omega
                        case rel => exact ⟨(x9_3), (x10_1), (x11_1), (by first | rfl | (simp; done) | (simp [*]; done)), H', ⟨by have := HK1.out; have := HK2.out; have := HK3.out; omega⟩, ⟨by (try simp only [hl9_3]); (with_reducible repeat (first | apply Kd.R_alloc | apply Kd.R_drewN | apply Kd.R_drew)); exact Kd.R_mono HO_9.out (fun _ hk => trivial)⟩, ⟨by (try simp only [hl9_3]); (with_reducible repeat (first | apply Kd.R_alloc | apply Kd.R_drewN | apply Kd.R_drew)); exact HO_11.out⟩, ⟨by repeat (first | (with_reducible first | exact HB.out | apply below_alloc | apply pw_below_drewN | apply below_drew1) | exact HB.out)⟩⟩
end Go.Proofs.Ytpmadffgdfholaa.B
namespace Go.Proofs.Ytpmadffgdfholaa.B
open Go.RowKit Go.MapKept Go.Proofs.YtpmadffgdfholaaW.PrintWords Go.Proofs.YtpmadffgdfholaaW.PrintLast Go.Proofs.YtpmadffgdfholaaW.PrintMore
set_option linter.unusedVariables false
set_option linter.unusedSimpArgs false
attribute [local go_sem ↓] Go.wp_at_zero Go.wp_at_succ
set_option maxHeartbeats 800000 in
set_option maxRecDepth 100000 in
theorem first3_calls (i : Int) (ga gb m1 m2 : Nat) (g1 g2 : Int → Bool) (w : World) (hA : w.heap[ga]? = some (.cells #[.map (some m1)] 92 (0, 0))) (hB : w.heap[gb]? = some (.cells #[.map (some m2)] 92 (0, 0))) (h1 : SetM w m1 g1) (h2 : SetM w m2 g2) :
    Calls Try.prog 72 #[.int .i64 i, .pointer (some ⟨ga, 0, none⟩), .pointer (some ⟨gb, 0, none⟩)] w fun e w' => e = .returned (.bool (g1 i || g2 i)) ∧ Below w.heap.size w w' := by
  have hl1 := h1.lookup Try.underlying92 Try.underlying3 i (by first | rfl | (go_simp; done))
  have hl2 := h2.lookup Try.underlying92 Try.underlying3 i (by first | rfl | (go_simp; done))
  have ha := (blk_cell hA 0).trans rfl
  have hb := (blk_cell hB 0).trans rfl
  have HB := Aside0.mk (Below.refl w.heap.size w)
  obtain ⟨b1, hb1⟩ : ∃ b, g1 i = b := ⟨_, rfl⟩
  obtain ⟨b2, hb2⟩ : ∃ b, g2 i = b := ⟨_, rfl⟩
  rw [hb1] at hl1 ⊢
  rw [hb2] at hl2 ⊢
  clear hb1 hb2 h1 h2 hA hB
  go_enter Try.func72, Try.ntmps72
  cases b1 with
  | true =>
    go_wp2
    go_ret
    exact ⟨by first | rfl | (simp; done), HB.out⟩
  | false =>
    go_wp2
    go_ret
    exact ⟨by first | rfl | (simp; done), HB.out⟩
theorem first3_fn {w : World} {ga gb m1 m2 : Nat} {g1 g2 : Int → Bool} (hA : w.heap[ga]? = some (.cells #[.map (some m1)] 92 (0, 0))) (hB : w.heap[gb]? = some (.cells #[.map (some m2)] 92 (0, 0))) (h1 : SetM w m1 g1) (h2 : SetM w m2 g2) :
    IsFn Try.prog w (.func (.func 72) #[] #[.pointer (some ⟨ga, 0, none⟩), .pointer (some ⟨gb, 0, none⟩)]) (fun i => some (g1 i || g2 i)) := by
  refine ⟨72, _, Try.f72, rfl, Try.func72, by kernel_rfl, rfl, fun W hW i r hf => ?_⟩
  obtain rfl := Option.some.inj hf
  exact first3_calls i ga gb m1 m2 g1 g2 W (blk_below hA hW) (blk_below hB hW) (h1.below hW) (h2.below hW)
theorem first2_fn {w : World} {g1 gg1 g2 : Nat} {n : Int} {A : Option Addr} {c : Nat} {l : List S30} {m : Option Nat} {tk : Int} (hP1 : w.heap[g1]? = some (.cells #[.pointer (some ⟨gg1, 0, none⟩)] 65 (0, 0))) (hQ1 : w.heap[gg1]? = some (.cells #[.int .i64 n, .slice A l.length c, .map m] 70 (0, 0)))
    (hr : Kd.C k30 w A l.length l) (hc : l.length ≤ c) (hP2 : w.heap[g2]? = some (.cells #[.int .i64 tk] 3 (0, 0))) :
    IsFn Try.prog w (.func (.func 71) #[] #[.pointer (some ⟨g1, 0, none⟩), .pointer (some ⟨g2, 0, none⟩)]) (fun i => branch_town_first_2.f i n l tk) := by
  refine ⟨71, _, Try.f71, rfl, Try.func71, by kernel_rfl, rfl, fun W hW i r hf => ?_⟩
  refine (branch_town_first_2.calls i g1 gg1 n A c l m g2 tk r W (blk_below hP1 hW) (blk_below hQ1 hW) (Kd.C_below hr hW) hc (blk_below hP2 hW) hf).mono (fun e_ w_ x_ => ⟨x_.1, by obtain ⟨_, n_, rfl⟩ := x_; exact pw_below_drewN (Below.refl _ _) n_⟩)
theorem first1_fn (w : World) : IsFn Try.prog w (.func (.func 69) #[] #[]) (fun i => branch_town_first_1.f i) :=
  ⟨69, #[], Try.f69, rfl, Try.func69, by kernel_rfl, rfl, fun W_ _ i_ r_ h_ => (branch_town_first_1.calls i_ r_ W_ h_).mono (fun e_ w_ x_ => ⟨x_.1, by obtain ⟨_, n_, rfl⟩ := x_; exact pw_below_drewN (Below.refl _ _) n_⟩)⟩
/-- The streets of a list but one. -/
def moreL (i : Int) (T : List Int) : Int → Bool := fun j => decide (j ∈ T) && decide (j ≠ i)
theorem moreL_nil (i : Int) : moreL i [] = fun _ => false := by funext j; simp [moreL]
theorem moreL_snoc_ne (i x : Int) (T : List Int) (h : x ≠ i) : moreL i (T ++ [x]) = fun j => decide (j = x) || moreL i T j := by
  funext j
  simp only [moreL, List.mem_append, List.mem_singleton]
  by_cases h1 : j = x
  · subst h1; simp [h]
  · simp [h1]
theorem moreL_snoc_eq (i : Int) (T : List Int) : moreL i (T ++ [i]) = moreL i T := by
  funext j
  simp only [moreL, List.mem_append, List.mem_singleton]
  by_cases h1 : j = i
  · subst h1; simp
  · simp [h1]
def firstL (k : Nat) (n : Int) (l : List S30) (price : List Int) (cost : Int) : Nat → Nat → List Int → (Int → Bool) → Option (List Int × Int × Int)
  | 0, _, list, _ => some (list, cost, 0)
  | c + 1, i, list, gone =>
    (if (rd_T30 l (i : Int)).f1 = 0 then some true else slices_ContainsFunc_int_int.f k list (fun j => branch_town_first_2.f j n l (rd_T30 l (i : Int)).f1)).bind fun sk =>
      if sk = true then firstL k n l price cost c (i + 1) list (fun j => decide (j = (i : Int)) || gone j) else
        (branch_town_cheapest.f k n l price (fun j => some (gone j || moreL (i : Int) (toB l l.length (rd_T30 l (i : Int)).f1) j))).bind fun bt =>
          if (bt.2.2 && (bt.1 == cost)) = true then (if list.length < 1000000 then firstL k n l price cost c (i + 1) (list ++ [(i : Int)]) (fun j => gone j || moreL (i : Int) (toB l l.length (rd_T30 l (i : Int)).f1) j) else none)
          else firstL k n l price cost c (i + 1) list (fun j => decide (j = (i : Int)) || gone j)
def branch_town_first.f (k : Nat) (a0_0 : Int) (l0_1 : List S30) (l1 : List Int) : Option (List Int × Int × Int) :=
  if l0_1.length < 1000000 then (branch_town_cheapest.f k a0_0 l0_1 l1 (fun i => branch_town_first_1.f i)).bind fun bt => if bt.2.2 = true then firstL k a0_0 l0_1 l1 bt.1 l0_1.length 0 [] (fun _ => false) else some ([], 0, 10) else none
theorem firstL_mono (k : Nat) (n : Int) (l : List S30) (price : List Int) (cost : Int) : ∀ c i list gone, LeO (firstL k n l price cost c i list gone) (firstL (k + 1) n l price cost c i list gone)
  | 0, _, _, _ => LeO.refl _
  | c + 1, i, list, gone => by
    unfold firstL
    refine LeO.bind (LeO.ite (LeO.refl _) (slices_ContainsFunc_int_int.mono _ _ k)) fun sk => ?_
    refine LeO.ite (firstL_mono k n l price cost c _ _ _) ?_
    refine LeO.bind (branch_town_cheapest.mono _ _ _ _ k) fun bt => ?_
    exact LeO.ite (LeO.ite (firstL_mono k n l price cost c _ _ _) (LeO.refl _)) (firstL_mono k n l price cost c _ _ _)
theorem branch_town_first.mono : ∀ a0 a1 a2 k, LeO (branch_town_first.f k a0 a1 a2) (branch_town_first.f (k + 1) a0 a1 a2) := by
  intro a0 a1 a2 k
  unfold branch_town_first.f
  refine LeO.ite ?_ (LeO.refl _)
  refine LeO.bind (branch_town_cheapest.mono _ _ _ _ k) fun bt => ?_
  exact LeO.ite (firstL_mono k a0 a1 a2 _ _ _ _ _) (LeO.refl _)
/-- What a walk of first knows of its world: the variables' blocks, the list, what is gone. -/
structure FEnv (w W : World) (tb g0 gq m : Nat) (vl : Value) (list : List Int) (gone : Int → Bool) : Prop where
  hB : Below w.heap.size w W
  tB : W.heap[tb]? = some (.cells #[.pointer (some ⟨g0, 0, none⟩)] 65 (0, 0))
  qB : W.heap[gq]? = some (.cells #[.map (some m)] 92 (0, 0))
  hM : SetM W m gone
  hL : Kd.R (Kd.int .i64) 3 W w.heap.size (fun _ => True) vl list
  gm : w.heap.size ≤ m
theorem FEnv.below {w W W2 : World} {tb g0 gq m : Nat} {vl : Value} {list : List Int} {gone : Int → Bool} (h : FEnv w W tb g0 gq m vl list gone) (hb : Below W.heap.size W W2) : FEnv w W2 tb g0 gq m vl list gone :=
  ⟨below_step h.hB hb, blk_below h.tB hb, blk_below h.qB hb, h.hM.below hb, Kd.R_below h.hL hb, h.gm⟩
theorem FEnv.upd {w W W2 : World} {tb g0 gq m : Nat} {vl : Value} {list : List Int} {gone gone2 : Int → Bool} (h : FEnv w W tb g0 gq m vl list gone) (hM2 : SetM W2 m gone2) (hg : W.grownBy W2 (some m)) : FEnv w W2 tb g0 gq m vl list gone2 :=
  ⟨h.hB.grown hg h.hB.size (fun j hj => by cases hj; exact h.gm), blk_grown h.tB hg (by have := h.hM.ne_cells h.tB; intro e; injection e with e; exact this e.symm), blk_grown h.qB hg (by have := h.hM.ne_cells h.qB; intro e; injection e with e; exact this e.symm), hM2, Kd.R_map h.hL h.hM hg, h.gm⟩
theorem FEnv.other {w W W2 : World} {tb g0 gq m m2 : Nat} {vl : Value} {list : List Int} {gone g2 : Int → Bool} (h : FEnv w W tb g0 gq m vl list gone) (hM2 : SetM W m2 g2) (hne : m ≠ m2) (hlo : w.heap.size ≤ m2) (hg : W.grownBy W2 (some m2)) : FEnv w W2 tb g0 gq m vl list gone :=
  ⟨h.hB.grown hg h.hB.size (fun j hj => by cases hj; exact hlo), blk_grown h.tB hg (by have := hM2.ne_cells h.tB; intro e; injection e with e; exact this e.symm), blk_grown h.qB hg (by have := hM2.ne_cells h.qB; intro e; injection e with e; exact this e.symm), h.hM.of_block (hg.block m h.hM.lt (fun e => hne (by injection e))), Kd.R_map h.hL hM2 hg, h.gm⟩
theorem FEnv.iter {w W W2 : World} {tb g0 gq m m2 r cnt : Nat} {vl : Value} {list : List Int} {gone g2 d2 : Int → Bool} (h : FEnv w W tb g0 gq m vl list gone) (hI : IterM W m2 r g2 d2 cnt) (hlo : w.heap.size ≤ r) (hg : W.grownBy W2 (some r)) : FEnv w W2 tb g0 gq m vl list gone := by
  refine ⟨h.hB.grown hg h.hB.size (fun j hj => by cases hj; exact hlo), blk_grown h.tB hg (by have := hI.ne_cells h.tB; intro e; injection e with e; exact this e.symm), blk_grown h.qB hg (by have := hI.ne_cells h.qB; intro e; injection e with e; exact this e.symm), h.hM.of_block (hg.block m h.hM.lt (fun e => hI.ne_map h.hM (by injection e with e; exact e.symm))), ?_, h.gm⟩
  refine Kd.R_mono (Kd.R_grown (Kd.R_bound h.hL) hg (fun k hk he => ?_)) (fun _ hk => hk.1)
  obtain ⟨_, _, _, q, _, cells, hc⟩ := hk
  injection he with he
  subst he
  exact hI.ne_cells hc rfl
theorem IterM.turn {w w2 : World} {m r k : Nat} {g done : Int → Bool} {cnt : Nat} (h : IterM w m r g done cnt) (hg : w.grownBy w2 (some k)) (h1 : m ≠ k) (h2 : r ≠ k) : IterM w2 m r g done cnt :=
  h.of_blocks (hg.block m h.set.lt (fun e => h1 (by injection e))) (hg.block r h.lt (fun e => h2 (by injection e)))
theorem SetM.row {w w2 : World} {m base : Nat} {g : Int → Bool} {ok : Nat → Prop} {v : Value} {xs : List Int} (h : SetM w m g) (hR : Kd.R (Kd.int .i64) 3 w base ok v xs) (hg : w.grownBy w2 v.ownBlock) : SetM w2 m g :=
  h.of_block (hg.block m h.lt (fun e => by
    obtain ⟨cells, hc⟩ := own_typed (Kd.own_of_R hR) m e.symm
    exact h.ne_cells hc rfl))
theorem FEnv.app {w W W2 : World} {tb g0 gq m : Nat} {vl v2 : Value} {list list2 : List Int} {gone : Int → Bool} (h : FEnv w W tb g0 gq m vl list gone) (hb : Below w.heap.size w W2) (hg : W.grownBy W2 vl.ownBlock) (hL : Kd.R (Kd.int .i64) 3 W2 w.heap.size (fun _ => True) v2 list2) : FEnv w W2 tb g0 gq m v2 list2 gone :=
  ⟨hb, blk_grown h.tB hg (Kd.R_ne h.hL h.tB (by decide)), blk_grown h.qB hg (Kd.R_ne h.hL h.qB (by decide)), h.hM.row h.hL hg, hL, h.gm⟩
theorem take_rdI (T : List Int) (q : Nat) (h : q < T.length) : T.take (q + 1) = T.take q ++ [rd T (q : Int)] := by
  rw [List.take_add_one, List.getElem?_eq_getElem h]
  simp [rd, List.getD, List.getElem?_eq_getElem h]
theorem drop_cell {w W : World} {a : Addr} {v : Value} (h : w.cell? a = some v) (hB : Below w.heap.size w W) : W.cell? a = some v := (hB.cell (World.block_lt_of_cell? w _ h)).trans h
set_option maxHeartbeats 8000000 in
set_option maxRecDepth 100000 in
theorem branch_town_first.calls (k : Nat) (g0 : Nat) (a0_0 : Int) (A0_1 : Option Addr) (c0_1 : Nat) (l0_1 : List S30) (mm base0 : Nat) (A1 : Option Addr) (c1 : Nat) (l1 : List Int) (r1 : List Int) (r2 r3 : Int) (w : World) (hP0 : w.heap[g0]? = some (.cells #[.int .i64 a0_0, .slice A0_1 l0_1.length c0_1, .map (some mm)] 70 (0, 0))) (hr0_1 : Kd.C k30 w A0_1 l0_1.length l0_1) (hc0_1 : l0_1.length ≤ c0_1) (hr1 : Kd.C (Kd.int .i64) w A1 l1.length l1) (hc1 : l1.length ≤ c1) (hG : GrpM w base0 mm (toB l0_1 l0_1.length)) (h : branch_town_first.f k a0_0 l0_1 l1 = some (r1, r2, r3)) :
    Calls Try.prog 51 #[.pointer (some ⟨g0, 0, none⟩), .slice A1 l1.length c1] w fun e w' => ∃ v0_ : Value, e = .returned (.tuple #[v0_, .int .i64 r2, .int .i64 r3]) ∧ Kd.R (Kd.int .i64) 3 w' w.heap.size (fun _ => True) v0_ r1 ∧ Below w.heap.size w w' := by
  have hu30 := Try.underlying30
  have hu65 := Try.underlying65
  have HP0 := Aside0.mk hP0
  have HR0 := Aside0.mk hr0_1
  have HC0 := Aside0.mk hc0_1
  have HR1 := Aside0.mk hr1
  have HC1 := Aside0.mk hc1
  have HG := Aside0.mk hG
  have HX1 := Aside0.mk (show w.cell? ⟨g0, 1, none⟩ = some (.slice A0_1 l0_1.length c0_1) from (blk_cell hP0 1).trans rfl)
  have HX2 := Aside0.mk (show w.cell? ⟨g0, 2, none⟩ = some (.map (some mm)) from (blk_cell hP0 2).trans rfl)
  clear hP0 hr0_1 hc0_1 hr1 hc1 hG
  have HB := Aside0.mk (Below.refl w.heap.size w)
  have hmf : ∀ (fn : Fn) (first cap : Array Value) (w : World), (Instr.makeFunc fn first cap).run Try.prog w = .ok (.func fn first cap) w := fun _ _ _ _ => rfl
  unfold branch_town_first.f at h
  split at h
  case isFalse => exact absurd h (by simp)
  rename_i hlen
  have HLEN := Aside0.mk hlen
  clear hlen
  obtain ⟨⟨b1, b2, b3⟩, hbt, h⟩ := Option.bind_eq_some_iff.1 h
  have HBT := Aside0.mk hbt
  have H0 := Aside0.mk h
  clear hbt h
  cases b3 with
  | false =>
    have h := H0.out
    simp only [Bool.false_eq_true, if_false, Option.some.injEq, Prod.mk.injEq] at h
    obtain ⟨rfl, rfl, rfl⟩ := h
    go_enter Try.func51, Try.ntmps51
    go_wp2_with (first | ((with_reducible refine gate_dst (N := 2) rfl ?_); refine box_event ?hg (N := 2) ?hd (cs := #[.pointer (some ⟨g0, 0, none⟩)]) (t := 65) ?hr ?_; (case hd => rfl); (case hg => rfl); (case hr => first | (go_simp; done) | (go_simp; rfl)); intro tb hg w1 hbox hb; have TB := Aside0.mk hbox; have GT := Aside0.mk (show w.heap.size ≤ tb by rw [hg]; exact Nat.le_refl _); clear HB; have HB := Aside0.mk hb; clear hg hbox hb; have ht_0 : w1.cell? ⟨tb, 0, none⟩ = some (.pointer (some ⟨g0, 0, none⟩)) := (blk_cell TB.out 0).trans rfl) | (go_at_call 46; (refine (branch_town_cheapest.calls k g0 a0_0 A0_1 c0_1 l0_1 (some mm) A1 c1 l1 _ (fun i => branch_town_first_1.f i) b1 b2 _ _ (blk_below HP0.out HB.out) (Kd.C_below HR0.out HB.out) HC0.out (Kd.C_below HR1.out HB.out) HC1.out (first1_fn _) HBT.out).mono ?_); rintro e w2 ⟨vb, rfl, ho, hb⟩; have n0_ := Aside0.mk (below_step HB.out hb); have n1_ := Aside0.mk (blk_below TB.out hb); clear HB TB; have HB := n0_; have TB := n1_; clear n0_ n1_ ho hb ht_0; have ht_0 : w2.cell? ⟨tb, 0, none⟩ = some (.pointer (some ⟨g0, 0, none⟩)) := (blk_cell TB.out 0).trans rfl; have hp_1 := drop_cell HX1.out HB.out; have hp_2 := drop_cell HX2.out HB.out))
    go_ret3
    exact ⟨_, by first | rfl | (simp; done), Kd.R_nil _ _ _ _ _, by repeat (first | (with_reducible first | exact HB.out | apply below_alloc | apply pw_below_drewN | apply below_drew1) | exact HB.out)⟩
  | true =>
    have h := H0.out
    simp only [if_true] at h
    clear H0
    have H0 := Aside0.mk h
    clear h
    go_enter Try.func51, Try.ntmps51
    go_upto_region 7 with (first | ((with_reducible refine gate_dst (N := 2) rfl ?_); refine box_event ?hg (N := 2) ?hd (cs := #[.pointer (some ⟨g0, 0, none⟩)]) (t := 65) ?hr ?_; (case hd => rfl); (case hg => rfl); (case hr => first | (go_simp; done) | (go_simp; rfl)); intro tb hg w1 hbox hb; have TB := Aside0.mk hbox; have GT := Aside0.mk (show w.heap.size ≤ tb by rw [hg]; exact Nat.le_refl _); clear HB; have HB := Aside0.mk hb; clear hg hbox hb; have ht_0 : w1.cell? ⟨tb, 0, none⟩ = some (.pointer (some ⟨g0, 0, none⟩)) := (blk_cell TB.out 0).trans rfl) | (go_at_call 46; (refine (branch_town_cheapest.calls k g0 a0_0 A0_1 c0_1 l0_1 (some mm) A1 c1 l1 _ (fun i => branch_town_first_1.f i) b1 b2 _ _ (blk_below HP0.out HB.out) (Kd.C_below HR0.out HB.out) HC0.out (Kd.C_below HR1.out HB.out) HC1.out (first1_fn _) HBT.out).mono ?_); rintro e w2 ⟨vb, rfl, ho, hb⟩; have n0_ := Aside0.mk (below_step HB.out hb); have n1_ := Aside0.mk (blk_below TB.out hb); clear HB TB; have HB := n0_; have TB := n1_; clear n0_ n1_ ho hb ht_0; have ht_0 : w2.cell? ⟨tb, 0, none⟩ = some (.pointer (some ⟨g0, 0, none⟩)) := (blk_cell TB.out 0).trans rfl; have hp_1 := drop_cell HX1.out HB.out; have hp_2 := drop_cell HX2.out HB.out) | ((with_reducible refine gate_dst (N := 32) rfl ?_); refine map_event ?hg (N := 32) ?hd ?hr ?_; (case hd => rfl); (case hg => rfl); (case hr => rfl); intro m hm w3 hmap hb; have HM := Aside0.mk (SetM.new hmap); have n0_ := Aside0.mk (blk_below (by (with_reducible repeat (first | refine blk_drewN ?_ _ | refine blk_drew ?_ | refine blk_alloc ?_ _)); exact TB.out) hb); have n1_ := Aside0.mk (below_step (by repeat (first | (with_reducible first | exact HB.out | apply below_alloc | apply pw_below_drewN | apply below_drew1) | exact HB.out)) hb); have GM := Aside0.mk ((by rw [hm]; exact (below_size (by repeat (first | (with_reducible first | exact HB.out | apply below_alloc | apply pw_below_drewN | apply below_drew1) | exact HB.out)))) : w.heap.size ≤ m); clear TB HB; have TB := n0_; have HB := n1_; clear n0_ n1_ hm hmap hb))
    obtain ⟨gq, hgq⟩ : ∃ gq, w3.heap.size = gq := ⟨_, rfl⟩
    rw [hgq]
    obtain ⟨wq, hwq⟩ : ∃ wq, w3.alloc (.cells #[.map (some m)] 92) = wq := ⟨_, rfl⟩
    rw [hwq]
    have n0_ : Below w3.heap.size w3 wq := hwq ▸ below_alloc (Below.refl _ _) _
    have FE := Aside0.mk (show FEnv w wq tb g0 gq m (.slice none 0 0) [] (fun _ => false) from ⟨below_step HB.out n0_, blk_below TB.out n0_, hgq ▸ hwq ▸ heap_alloc_new w3 _, HM.out.below n0_, Kd.R_nil _ _ _ _ _, GM.out⟩)
    clear n0_ hgq hwq HB TB HM ht_0 hp_1 hp_2
    have ht_0 : wq.cell? ⟨tb, 0, none⟩ = some (.pointer (some ⟨g0, 0, none⟩)) := (blk_cell FE.out.tB 0).trans rfl
    have hp_1 := drop_cell HX1.out FE.out.hB
    have hp_2 := drop_cell HX2.out FE.out.hB
    have hq_0 : wq.cell? ⟨gq, 0, none⟩ = some (.map (some m)) := (blk_cell FE.out.qB 0).trans rfl
    go_wp2
    go_loopg [11, 38] l0_1.length (fun kq v11 v38 w' => ∃ (i : Nat) (list : List Int) (gone : Int → Bool), v38 = .int .i64 (i : Int) ∧ Aside0 (i + kq = l0_1.length) ∧ Aside0 (firstL k a0_0 l0_1 l1 b1 kq i list gone = some (r1, r2, r3)) ∧ Aside0 (FEnv w w' tb g0 gq m v11 list gone))
    case atStart => exact ⟨0, [], _, rfl, ⟨by simp⟩, ⟨H0.out⟩, FE⟩
    case round =>
      clear H0 FE ht_0 hp_1 hp_2 hq_0
      obtain ⟨i, list, gone, rfl, HI, HH, FE⟩ := hrel
      have ht_0 : wr.cell? ⟨tb, 0, none⟩ = some (.pointer (some ⟨g0, 0, none⟩)) := (blk_cell FE.out.tB 0).trans rfl
      have hp_1 := drop_cell HX1.out FE.out.hB
      have hp_2 := drop_cell HX2.out FE.out.hB
      have hq_0 : wr.cell? ⟨gq, 0, none⟩ = some (.map (some m)) := (blk_cell FE.out.qB 0).trans rfl
      cases gk with
      | zero =>
        have hi := HI.out
        have c4b : decide ((i : Int) < (l0_1.length : Int)) = false := decide_eq_false (by omega)
        have c4b2 : decide (i < l0_1.length) = false := decide_eq_false (by omega)
        have hh := HH.out
        simp only [firstL, Option.some.injEq, Prod.mk.injEq] at hh
        obtain ⟨rfl, rfl, rfl⟩ := hh
        clear hi
        go_wp2
        go_ret3
        exact ⟨_, by first | rfl | (simp; done), FE.out.hL, FE.out.hB⟩
      | succ k1 =>
        have hi0 : (0 : Int) ≤ (i : Int) := Int.natCast_nonneg _
        have hi1 : (i : Int) < (l0_1.length : Int) := by have := HI.out; omega
        have c4b : decide ((i : Int) < (l0_1.length : Int)) = true := decide_eq_true hi1
        have c4b2 : decide (i < l0_1.length) = true := decide_eq_true (by omega)
        have hi2 : i < l0_1.length := by omega
        have hh := HH.out
        unfold firstL at hh
        obtain ⟨ad, e, hx_0, hx_1, hx_2⟩ := at_T30 HR0.out (i : Int) hi0 hi1
        cases e
        obtain ⟨tk, htk⟩ : ∃ tk, (rd_T30 l0_1 (i : Int)).f1 = tk := ⟨_, rfl⟩
        rw [htk] at hx_1 hh
        simp only [Int.toNat_natCast] at hx_1
        clear htk hx_0 hx_2 HH
        replace hx_1 := drop_cell hx_1 FE.out.hB
        replace hi0 := eq_true hi0
        replace hi1 := eq_true hi1
        replace hi2 := eq_true hi2
        obtain ⟨sk, hsk, hh⟩ := Option.bind_eq_some_iff.1 hh
        have HSK := Aside0.mk hsk
        have HH := Aside0.mk hh
        clear hsk hh
        go_upto_region 11 with (fail)
        (try simp only [Act.put, List.setIfInBounds_toArray, List.set_cons_zero, List.set_cons_succ])
        obtain ⟨gt, hgt⟩ : ∃ gt, wr.heap.size = gt := ⟨_, rfl⟩
        rw [hgt]
        obtain ⟨wq1, hwq⟩ : ∃ wq, wr.alloc (.cells #[.int .i64 tk] 3) = wq := ⟨_, rfl⟩
        rw [hwq]
        have n0_ : Below wr.heap.size wr wq1 := hwq ▸ below_alloc (Below.refl _ _) _
        have TK := Aside0.mk (hgt ▸ hwq ▸ heap_alloc_new wr _ : wq1.heap[gt]? = some (.cells #[.int .i64 tk] 3 (0, 0)))
        have GTK := Aside0.mk (hgt ▸ FE.out.hB.size : w.heap.size ≤ gt)
        have n1_ := Aside0.mk (FE.out.below n0_)
        clear FE ht_0 hp_1 hp_2 hq_0 hx_1 n0_ hgt hwq
        have FE := n1_
        clear n1_
        have ht_0 : wq1.cell? ⟨tb, 0, none⟩ = some (.pointer (some ⟨g0, 0, none⟩)) := (blk_cell FE.out.tB 0).trans rfl
        have hp_1 := drop_cell HX1.out FE.out.hB
        have hp_2 := drop_cell HX2.out FE.out.hB
        have hq_0 : wq1.cell? ⟨gq, 0, none⟩ = some (.map (some m)) := (blk_cell FE.out.qB 0).trans rfl
        have hk_0 : wq1.cell? ⟨gt, 0, none⟩ = some (.int .i64 tk) := (blk_cell TK.out 0).trans rfl
        obtain ⟨Al, cl, hvl⟩ := Kd.R_slice FE.out.hL
        subst hvl
        by_cases t0 : tk = 0
        · have hsk := HSK.out
          rw [if_pos t0] at hsk
          obtain rfl := Option.some.inj hsk
          have hh := HH.out
          simp only [if_true] at hh
          clear HH hsk
          have HH := Aside0.mk hh
          clear hh
          have s0 : (tk == 0) = true := beq_iff_eq.mpr t0
          have s0b : decide (tk = 0) = true := decide_eq_true t0
          clear t0
          go_wp2_with (first | (at_mapUpdate; refine update_event FE.out.hM Try.underlying92 Try.underlying3 rfl _ _ _ rfl (i := (i : Int)) rfl rfl rfl ?_; intro w6 hm6 hg6; have n0_ := Aside0.mk (FE.out.upd hm6 hg6); clear FE ht_0 hp_1 hp_2 hq_0 hk_0 hm6 hg6; have FE := n0_; clear n0_))
          go_roundg k1
          case measure => omega
          case rel => exact ⟨i + 1, list, _, val_succ2 i (by have := HI.out; have := HLEN.out; omega), ⟨by have := HI.out; omega⟩, ⟨HH.out⟩, FE⟩
        have hsk := HSK.out
        rw [if_neg t0] at hsk
        have HSK2 := Aside0.mk hsk
        have s0 : (tk == 0) = false := beq_eq_false_iff_ne.mpr t0
        have s0b : decide (tk = 0) = false := decide_eq_false t0
        clear t0 hsk HSK
        cases sk with
        | true =>
          have hh := HH.out
          simp only [if_true] at hh
          clear HH
          have HH := Aside0.mk hh
          clear hh
          go_wp2_with (first | (go_at_call 70; (refine (slices_ContainsFunc_int_int.calls k Al cl list _ (fun j => branch_town_first_2.f j a0_0 l0_1 tk) _ _ (Kd.R_reads' FE.out.hL).2.2 (Kd.R_reads' FE.out.hL).2.1 (first2_fn FE.out.tB (blk_below HP0.out FE.out.hB) (Kd.C_below HR0.out FE.out.hB) HC0.out TK.out) HSK2.out).mono ?_); rintro e w5 ⟨rfl, hb⟩; have n0_ := Aside0.mk (FE.out.below hb); have n1_ := Aside0.mk (blk_below TK.out hb); clear FE TK hb; have FE := n0_; have TK := n1_; clear n0_ n1_; clear ht_0 hp_1 hp_2 hq_0 hk_0; have ht_0 : w5.cell? ⟨tb, 0, none⟩ = some (.pointer (some ⟨g0, 0, none⟩)) := (blk_cell FE.out.tB 0).trans rfl; have hp_1 := drop_cell HX1.out FE.out.hB; have hp_2 := drop_cell HX2.out FE.out.hB; have hq_0 : w5.cell? ⟨gq, 0, none⟩ = some (.map (some m)) := (blk_cell FE.out.qB 0).trans rfl; have hk_0 : w5.cell? ⟨gt, 0, none⟩ = some (.int .i64 tk) := (blk_cell TK.out 0).trans rfl) | (at_mapUpdate; refine update_event FE.out.hM Try.underlying92 Try.underlying3 rfl _ _ _ rfl (i := (i : Int)) rfl rfl rfl ?_; intro w6 hm6 hg6; have n0_ := Aside0.mk (FE.out.upd hm6 hg6); clear FE ht_0 hp_1 hp_2 hq_0 hk_0 hm6 hg6; have FE := n0_; clear n0_))
          go_roundg k1
          case measure => omega
          case rel => exact ⟨i + 1, list, _, val_succ2 i (by have := HI.out; have := HLEN.out; omega), ⟨by have := HI.out; omega⟩, ⟨HH.out⟩, FE⟩
        | false =>
          have hh := HH.out
          simp only [Bool.false_eq_true, if_false] at hh
          obtain ⟨⟨d1, d2, d3⟩, hdt, hh⟩ := Option.bind_eq_some_iff.1 hh
          have HDT := Aside0.mk hdt
          have HH2 := Aside0.mk hh
          clear HH hdt hh
          go_upto_region 14 with (first | (go_at_call 70; (refine (slices_ContainsFunc_int_int.calls k Al cl list _ (fun j => branch_town_first_2.f j a0_0 l0_1 tk) _ _ (Kd.R_reads' FE.out.hL).2.2 (Kd.R_reads' FE.out.hL).2.1 (first2_fn FE.out.tB (blk_below HP0.out FE.out.hB) (Kd.C_below HR0.out FE.out.hB) HC0.out TK.out) HSK2.out).mono ?_); rintro e w5 ⟨rfl, hb⟩; have n0_ := Aside0.mk (FE.out.below hb); have n1_ := Aside0.mk (blk_below TK.out hb); clear FE TK hb; have FE := n0_; have TK := n1_; clear n0_ n1_; clear ht_0 hp_1 hp_2 hq_0 hk_0; have ht_0 : w5.cell? ⟨tb, 0, none⟩ = some (.pointer (some ⟨g0, 0, none⟩)) := (blk_cell FE.out.tB 0).trans rfl; have hp_1 := drop_cell HX1.out FE.out.hB; have hp_2 := drop_cell HX2.out FE.out.hB; have hq_0 : w5.cell? ⟨gq, 0, none⟩ = some (.map (some m)) := (blk_cell FE.out.qB 0).trans rfl; have hk_0 : w5.cell? ⟨gt, 0, none⟩ = some (.int .i64 tk) := (blk_cell TK.out 0).trans rfl) | ((with_reducible refine gate_dst (N := 58) rfl ?_); refine map_event ?hg (N := 58) ?hd ?hr ?_; (case hd => rfl); (case hg => rfl); (case hr => rfl); intro m2 hm w7 hmap hb; have HM2 := Aside0.mk (SetM.new hmap); have n0_ := Aside0.mk (FE.out.below hb); have n1_ := Aside0.mk (blk_below TK.out hb); have GM2 := Aside0.mk ((by rw [hm]; exact FE.out.hB.size) : w.heap.size ≤ m2); have NM := Aside0.mk ((by have := FE.out.hM.lt; rw [hm]; omega) : m ≠ m2); clear FE TK; have FE := n0_; have TK := n1_; clear n0_ n1_ hm hmap hb; clear ht_0 hp_1 hp_2 hq_0 hk_0; have ht_0 : w7.cell? ⟨tb, 0, none⟩ = some (.pointer (some ⟨g0, 0, none⟩)) := (blk_cell FE.out.tB 0).trans rfl; have hp_1 := drop_cell HX1.out FE.out.hB; have hp_2 := drop_cell HX2.out FE.out.hB; have hq_0 : w7.cell? ⟨gq, 0, none⟩ = some (.map (some m)) := (blk_cell FE.out.qB 0).trans rfl; have hk_0 : w7.cell? ⟨gt, 0, none⟩ = some (.int .i64 tk) := (blk_cell TK.out 0).trans rfl))
          obtain ⟨g2, hg2⟩ : ∃ g2, w7.heap.size = g2 := ⟨_, rfl⟩
          rw [hg2]
          obtain ⟨wq2, hwq⟩ : ∃ wq, w7.alloc (.cells #[.map (some m2)] 92) = wq := ⟨_, rfl⟩
          rw [hwq]
          have n0_ : Below w7.heap.size w7 wq2 := hwq ▸ below_alloc (Below.refl _ _) _
          have MB := Aside0.mk (hg2 ▸ hwq ▸ heap_alloc_new w7 _ : wq2.heap[g2]? = some (.cells #[.map (some m2)] 92 (0, 0)))
          have n1_ := Aside0.mk (FE.out.below n0_)
          have n2_ := Aside0.mk (blk_below TK.out n0_)
          have n3_ := Aside0.mk (HM2.out.below n0_)
          clear FE TK HM2 ht_0 hp_1 hp_2 hq_0 hk_0 n0_ hg2 hwq
          have FE := n1_; have TK := n2_; have HM2 := n3_
          clear n1_ n2_ n3_
          have ht_0 : wq2.cell? ⟨tb, 0, none⟩ = some (.pointer (some ⟨g0, 0, none⟩)) := (blk_cell FE.out.tB 0).trans rfl
          have hp_1 := drop_cell HX1.out FE.out.hB
          have hp_2 := drop_cell HX2.out FE.out.hB
          have hq_0 : wq2.cell? ⟨gq, 0, none⟩ = some (.map (some m)) := (blk_cell FE.out.qB 0).trans rfl
          have hk_0 : wq2.cell? ⟨gt, 0, none⟩ = some (.int .i64 tk) := (blk_cell TK.out 0).trans rfl
          have hm3 : ∀ w, (zeroValue 28).run Try.prog w = .ok (.slice none 0 0) w := fun w => by first | rfl | (go_simp; done)
          obtain ⟨vt, hlook, hRt, _, _⟩ := GrpM.lookup HG.out Try.underlying68 Try.underlying3 tk hm3
          obtain ⟨At, ct, hvt⟩ := Kd.R_slice hRt
          subst hvt
          have HRT := Aside0.mk (Kd.R_reads' hRt).2.2
          have hlk : (Instr.lookup 68 (.map (some mm)) (.int .i64 tk) false).run Try.prog wq2.drew = .ok (.slice At (toB l0_1 l0_1.length tk).length ct) wq2.drew := hlook _ (FE.out.hB.block mm HG.out.lt)
          obtain ⟨T, hT⟩ : ∃ T, toB l0_1 l0_1.length tk = T := ⟨_, rfl⟩
          have HTL := Aside0.mk (show T.length ≤ l0_1.length by rw [← hT]; exact toB_len _ _ _)
          rw [hT] at HRT hlk HH2 HDT
          clear hT hRt hlook hm3
          go_wp2_with fail
          go_region_held3 (fun w' => w'.cell? ⟨tb, 0, none⟩ = some (.pointer (some ⟨g0, 0, none⟩)) ∧ w'.cell? ⟨g0, 2, none⟩ = some (.map (some mm)) ∧ w'.cell? ⟨gt, 0, none⟩ = some (.int .i64 tk)) (go_keep) (fail)
          obtain ⟨wq3, hwq⟩ : ∃ wq, wq2.drew = wq := ⟨_, rfl⟩
          rw [hwq]
          have n0_ : Below wq2.heap.size wq2 wq3 := hwq ▸ below_drew1 (Below.refl _ _)
          have n1_ := Aside0.mk (FE.out.below n0_)
          have n2_ := Aside0.mk (blk_below TK.out n0_)
          have n3_ := Aside0.mk (HM2.out.below n0_)
          have n4_ := Aside0.mk (blk_below MB.out n0_)
          clear FE TK HM2 MB ht_0 hp_1 hp_2 hq_0 hk_0 n0_ hwq hlk
          have FE := n1_; have TK := n2_; have HM2 := n3_; have MB := n4_
          clear n1_ n2_ n3_ n4_
          go_wp2
          go_loopg [66] T.length (fun kq v66 w' => ∃ q : Nat, v66 = .int .i64 (q : Int) ∧ Aside0 (q + kq = T.length) ∧ Aside0 (FEnv w w' tb g0 gq m (.slice Al list.length cl) list gone) ∧ Aside0 (w'.heap[gt]? = some (.cells #[.int .i64 tk] 3 (0, 0))) ∧ Aside0 (w'.heap[g2]? = some (.cells #[.map (some m2)] 92 (0, 0))) ∧ Aside0 (SetM w' m2 (moreL (i : Int) (T.take q))))
          case atStart => exact ⟨0, rfl, ⟨by simp⟩, FE, TK, MB, ⟨by rw [List.take_zero, moreL_nil]; exact HM2.out⟩⟩
          case round =>
            clear FE TK MB HM2
            obtain ⟨q, rfl, HQ, FE, TK, MB, HM2⟩ := hrel
            have ht_0 : wr.cell? ⟨tb, 0, none⟩ = some (.pointer (some ⟨g0, 0, none⟩)) := (blk_cell FE.out.tB 0).trans rfl
            have hp_1 := drop_cell HX1.out FE.out.hB
            have hp_2 := drop_cell HX2.out FE.out.hB
            have hq_0 : wr.cell? ⟨gq, 0, none⟩ = some (.map (some m)) := (blk_cell FE.out.qB 0).trans rfl
            have hm_0 : wr.cell? ⟨g2, 0, none⟩ = some (.map (some m2)) := (blk_cell MB.out 0).trans rfl
            cases gk with
            | zero =>
              have hq := HQ.out
              have d4b : decide ((q : Int) < (T.length : Int)) = false := decide_eq_false (by omega)
              have d4b2 : decide (q < T.length) = false := decide_eq_false (by omega)
              have hM2 := HM2.out
              rw [List.take_of_length_le (by omega)] at hM2
              clear HM2 hq
              have HM2 := Aside0.mk hM2
              clear hM2
              cases d3 with
              | false =>
                have hh := HH2.out
                simp only [Bool.false_and, Bool.false_eq_true, if_false] at hh
                clear HH2
                have HH := Aside0.mk hh
                clear hh
                go_wp2_with (first | (go_at_call 46; (refine (branch_town_cheapest.calls k g0 a0_0 _ c0_1 l0_1 (some mm) A1 c1 l1 _ (fun j => some (gone j || moreL (i : Int) T j)) d1 d2 _ _ (blk_below HP0.out FE.out.hB) (Kd.C_below HR0.out FE.out.hB) HC0.out (Kd.C_below HR1.out FE.out.hB) HC1.out (first3_fn FE.out.qB MB.out FE.out.hM HM2.out) HDT.out).mono ?_); rintro e w9 ⟨ve, rfl, ho, hb⟩; have n0_ := Aside0.mk (FE.out.below hb); have n1_ := Aside0.mk (blk_below MB.out hb); have n2_ := Aside0.mk (HM2.out.below hb); clear FE MB HM2 ho hb ht_0 hp_1 hp_2 hq_0 hm_0; have FE := n0_; have MB := n1_; have HM2 := n2_; clear n0_ n1_ n2_; have hq_0 : w9.cell? ⟨gq, 0, none⟩ = some (.map (some m)) := (blk_cell FE.out.qB 0).trans rfl; have hm_0 : w9.cell? ⟨g2, 0, none⟩ = some (.map (some m2)) := (blk_cell MB.out 0).trans rfl) | (at_mapUpdate; refine update_event FE.out.hM Try.underlying92 Try.underlying3 rfl _ _ _ rfl (i := (i : Int)) rfl rfl rfl ?_; intro w6 hm6 hg6; have n0_ := Aside0.mk (FE.out.upd hm6 hg6); clear FE hq_0 hm_0 hm6 hg6; have FE := n0_; clear n0_))
                go_roundg k1
                case measure => omega
                case rel => exact ⟨i + 1, list, _, val_succ2 i (by have := HI.out; have := HLEN.out; omega), ⟨by have := HI.out; omega⟩, ⟨HH.out⟩, FE⟩
              | true =>
                by_cases t5 : d1 = b1
                case neg =>
                  have s5 : (d1 == b1) = false := beq_eq_false_iff_ne.mpr t5
                  have s5b : decide (d1 = b1) = false := decide_eq_false t5
                  clear t5
                  have hh := HH2.out
                  simp only [s5, Bool.and_false, Bool.false_eq_true, if_false] at hh
                  clear HH2
                  have HH := Aside0.mk hh
                  clear hh
                  go_wp2_with (first | (go_at_call 46; (refine (branch_town_cheapest.calls k g0 a0_0 _ c0_1 l0_1 (some mm) A1 c1 l1 _ (fun j => some (gone j || moreL (i : Int) T j)) d1 d2 _ _ (blk_below HP0.out FE.out.hB) (Kd.C_below HR0.out FE.out.hB) HC0.out (Kd.C_below HR1.out FE.out.hB) HC1.out (first3_fn FE.out.qB MB.out FE.out.hM HM2.out) HDT.out).mono ?_); rintro e w9 ⟨ve, rfl, ho, hb⟩; have n0_ := Aside0.mk (FE.out.below hb); have n1_ := Aside0.mk (blk_below MB.out hb); have n2_ := Aside0.mk (HM2.out.below hb); clear FE MB HM2 ho hb ht_0 hp_1 hp_2 hq_0 hm_0; have FE := n0_; have MB := n1_; have HM2 := n2_; clear n0_ n1_ n2_; have hq_0 : w9.cell? ⟨gq, 0, none⟩ = some (.map (some m)) := (blk_cell FE.out.qB 0).trans rfl; have hm_0 : w9.cell? ⟨g2, 0, none⟩ = some (.map (some m2)) := (blk_cell MB.out 0).trans rfl) | (at_mapUpdate; refine update_event FE.out.hM Try.underlying92 Try.underlying3 rfl _ _ _ rfl (i := (i : Int)) rfl rfl rfl ?_; intro w6 hm6 hg6; have n0_ := Aside0.mk (FE.out.upd hm6 hg6); clear FE hq_0 hm_0 hm6 hg6; have FE := n0_; clear n0_))
                  go_roundg k1
                  case measure => omega
                  case rel => exact ⟨i + 1, list, _, val_succ2 i (by have := HI.out; have := HLEN.out; omega), ⟨by have := HI.out; omega⟩, ⟨HH.out⟩, FE⟩
                have s5 : (d1 == b1) = true := beq_iff_eq.mpr t5
                have s5b : decide (d1 = b1) = true := decide_eq_true t5
                clear t5
                have hh := HH2.out
                simp only [s5, Bool.and_true, if_true] at hh
                by_cases hll : list.length < 1000000
                case neg => rw [if_neg hll] at hh; exact absurd hh (by simp)
                rw [if_pos hll] at hh
                have HLL := Aside0.mk hll
                clear HH2 hll
                have HH := Aside0.mk hh
                clear hh
                go_wp2_with (first | (go_at_call 46; (refine (branch_town_cheapest.calls k g0 a0_0 _ c0_1 l0_1 (some mm) A1 c1 l1 _ (fun j => some (gone j || moreL (i : Int) T j)) d1 d2 _ _ (blk_below HP0.out FE.out.hB) (Kd.C_below HR0.out FE.out.hB) HC0.out (Kd.C_below HR1.out FE.out.hB) HC1.out (first3_fn FE.out.qB MB.out FE.out.hM HM2.out) HDT.out).mono ?_); rintro e w9 ⟨ve, rfl, ho, hb⟩; have n0_ := Aside0.mk (FE.out.below hb); have n1_ := Aside0.mk (blk_below MB.out hb); have n2_ := Aside0.mk (HM2.out.below hb); clear FE MB HM2 ho hb ht_0 hp_1 hp_2 hq_0 hm_0; have FE := n0_; have MB := n1_; have HM2 := n2_; clear n0_ n1_ n2_; have hq_0 : w9.cell? ⟨gq, 0, none⟩ = some (.map (some m)) := (blk_cell FE.out.qB 0).trans rfl; have hm_0 : w9.cell? ⟨g2, 0, none⟩ = some (.map (some m2)) := (blk_cell MB.out 0).trans rfl) | ((with_reducible refine gate_builtin (b := .append) (xs := #[.tmp 90, .tmp 92]) rfl ?_); at_builtin; refine Kd.R_append (Kd.int .i64) (w0 := w) w.heap.size rfl (.tmp 90) (.tmp 92) 28 3 (.int .i64 0) 8 rfl Try.underlying28 info3 rfl (by decide) (by omega) (.slice Al list.length cl) list (i : Int) [.int .i64 (i : Int)] (fun _ => True) (fun _ => False) rfl (by first | (go_simp; done) | (go_simp; rfl)) ?aP (fun _ hk => hk.elim) ?aF ?aO ?aB ?aS ?aL ?_; (case aP => exact rfl); (case aB => exact (by repeat (first | exact FE.out.hB | apply below_alloc | apply below_drew1))); (case aF => exact (fun _ _ => trivial)); (case aO => exact (by (with_reducible repeat (first | apply Kd.R_alloc | apply Kd.R_drewN | apply Kd.R_drew)); exact FE.out.hL)); (case aS => exact (below_size (by repeat (first | exact FE.out.hB | apply below_alloc | apply below_drew1)))); (case aL => have := HLL.out; omega); intro v2 w10 ho hb hg hat; have hg2 : w9.grownBy w10 (Value.slice Al list.length cl).ownBlock := (by first | exact hg | exact grown_then (below_alloc (Below.refl _ _) _) hg); have n1_ := Aside0.mk (blk_grown MB.out hg2 (Kd.R_ne FE.out.hL MB.out (by decide))); have n2_ := Aside0.mk (HM2.out.row FE.out.hL hg2); have n0_ := Aside0.mk (FE.out.app hb hg2 ho); clear FE MB HM2 ho hb hg hat hg2 hq_0 hm_0; have FE := n0_; have MB := n1_; have HM2 := n2_; clear n0_ n1_ n2_; have hq_0 : w10.cell? ⟨gq, 0, none⟩ = some (.map (some m)) := (blk_cell FE.out.qB 0).trans rfl; have hm_0 : w10.cell? ⟨g2, 0, none⟩ = some (.map (some m2)) := (blk_cell MB.out 0).trans rfl) | (at_range; refine range_event HM2.out Try.underlying92 rfl _ rfl rfl ?_; intro r w11 cnt hr hI hb; have n0_ := Aside0.mk (FE.out.below hb); have GR := Aside0.mk (Nat.le_trans FE.out.hB.size hr); have HI3 := Aside0.mk hI; clear FE MB HM2 hr hI hb hq_0 hm_0; have FE := n0_; clear n0_))
                obtain ⟨Tm, hTm⟩ : ∃ Tm, moreL (i : Int) T = Tm := ⟨_, rfl⟩
                rw [hTm] at HI3 HH
                clear hTm HDT
                go_frame
                go_loopg [21] cnt (fun kq v21 w' => ∃ dn gd : Int → Bool, Aside0 (∀ j, gd j = (gone j || dn j)) ∧ Aside0 (IterM w' m2 r Tm dn kq) ∧ Aside0 (FEnv w w' tb g0 gq m v2 (list ++ [(i : Int)]) gd))
                case atStart => exact ⟨fun _ => false, gone, ⟨fun j => by simp⟩, HI3, FE⟩
                case round =>
                  clear FE HI3
                  obtain ⟨dn, gd, HD, HI3, FE⟩ := hrel
                  go_wp2_with (first | (at_next; refine next_event HI3.out rfl _ rfl rfl ?_ ?_; rotate_left; (intro y w12 cnt1 hgx hdx hI2 hlt hg hen; have n0_ := Aside0.mk (FE.out.iter HI3.out GR.out hg); clear FE HI3; have FE := n0_; have HI3 := Aside0.mk hI2; have HLT := Aside0.mk hlt; clear n0_ hI2 hg hgx hdx hlt; have hq_0 : w12.cell? ⟨gq, 0, none⟩ = some (.map (some m)) := (blk_cell FE.out.qB 0).trans rfl); rotate_left; (intro h0 hd; have HDD := Aside0.mk hd; clear h0 hd)) | (at_mapUpdate; refine update_event FE.out.hM Try.underlying92 Try.underlying3 rfl _ _ _ rfl (i := y) rfl rfl rfl ?_; intro w13 hm13 hg13; have n0_ := Aside0.mk (FE.out.upd hm13 hg13); have n1_ := Aside0.mk (HI3.out.turn hg13 (fun h => NM.out h.symm) (HI3.out.ne_map FE.out.hM)); clear FE HI3 hq_0 hen hm13 hg13; have FE := n0_; have HI3 := n1_; clear n0_ n1_))
                  · go_roundg k1
                    case measure => omega
                    case rel => exact ⟨i + 1, list ++ [(i : Int)], gd, val_succ2 i (by have := HI.out; have := HLEN.out; omega), ⟨by have := HI.out; omega⟩, ⟨by have hh := HH.out; have e : (fun j => gone j || Tm j) = gd := funext (fun j => by rw [HD.out j, HDD.out j]); rw [← e]; exact hh⟩, FE⟩
                  · go_roundg cnt1
                    case measure => exact HLT.out
                    case rel => exact ⟨fun j => decide (j = y) || dn j, fun j => decide (j = y) || gd j, ⟨fun j => by simp only [HD.out j]; cases decide (j = y) <;> cases gone j <;> cases dn j <;> rfl⟩, HI3, FE⟩
            | succ k2 =>
              have hj0 : (0 : Int) ≤ (q : Int) := Int.natCast_nonneg _
              have hj1 : (q : Int) < (T.length : Int) := by have := HQ.out; omega
              have d4b : decide ((q : Int) < (T.length : Int)) = true := decide_eq_true hj1
              have hj2 : q < T.length := by omega
              have d4b2 : decide (q < T.length) = true := decide_eq_true hj2
              obtain ⟨ade, e, hy_0⟩ := Kd.at_int HRT.out (q : Int) hj0 hj1
              cases e
              have hts := take_rdI T q hj2
              obtain ⟨y, hy⟩ : ∃ y, rd T (q : Int) = y := ⟨_, rfl⟩
              rw [hy] at hy_0 hts
              simp only [Int.toNat_natCast] at hy_0
              replace hy_0 := drop_cell hy_0 FE.out.hB
              have HTS := Aside0.mk hts
              clear hy hts
              replace hj0 := eq_true hj0
              replace hj1 := eq_true hj1
              replace hj2 := eq_true hj2
              by_cases t6 : y = (i : Int)
              · have s6 : (y == (i : Int)) = true := beq_iff_eq.mpr t6
                have s6b : (y != (i : Int)) = false := bne_eq_false_iff_eq.mpr t6
                have s6c : decide (y = (i : Int)) = true := decide_eq_true t6
                have T6 := Aside0.mk t6
                clear t6
                go_wp2
                go_roundg k2
                case measure => omega
                case rel => exact ⟨q + 1, val_succ2 q (by have := HQ.out; have := HTL.out; have := HLEN.out; omega), ⟨by have := HQ.out; omega⟩, FE, TK, MB, ⟨by rw [HTS.out, T6.out, moreL_snoc_eq]; exact HM2.out⟩⟩
              · have s6 : (y == (i : Int)) = false := beq_eq_false_iff_ne.mpr t6
                have s6b : (y != (i : Int)) = true := bne_iff_ne.mpr t6
                have s6c : decide (y = (i : Int)) = false := decide_eq_false t6
                have T6 := Aside0.mk t6
                clear t6
                go_wp2_with (first | (at_mapUpdate; refine update_event HM2.out Try.underlying92 Try.underlying3 rfl _ _ _ rfl (i := y) rfl rfl rfl ?_; intro w6 hm6 hg6; have n0_ := Aside0.mk (FE.out.other HM2.out NM.out GM2.out hg6); have n1_ := Aside0.mk (blk_grown TK.out hg6 (by have := HM2.out.ne_cells TK.out; intro h; injection h with h; exact this h.symm)); have n2_ := Aside0.mk (blk_grown MB.out hg6 (by have := HM2.out.ne_cells MB.out; intro h; injection h with h; exact this h.symm)); clear FE TK MB HM2 ht_0 hp_1 hp_2 hq_0 hm_0 hy_0 hg6; have FE := n0_; have TK := n1_; have MB := n2_; have HM2 := Aside0.mk hm6; clear n0_ n1_ n2_ hm6))
                go_roundg k2
                case measure => omega
                case rel => exact ⟨q + 1, val_succ2 q (by have := HQ.out; have := HTL.out; have := HLEN.out; omega), ⟨by have := HQ.out; omega⟩, FE, TK, MB, ⟨by rw [HTS.out, moreL_snoc_ne _ _ _ T6.out]; exact HM2.out⟩⟩
end Go.Proofs.Ytpmadffgdfholaa.B
namespace Go.Proofs.Ytpmadffgdfholaa.B
open Go.RowKit Go.MapKept Go.Proofs.YtpmadffgdfholaaW.PrintWords Go.Proofs.YtpmadffgdfholaaW.PrintLast Go.Proofs.YtpmadffgdfholaaW.PrintMore
set_option linter.unusedVariables false
set_option linter.unusedSimpArgs false
attribute [local go_sem ↓] Go.wp_at_zero Go.wp_at_succ
def branch_Branching.f (k : Nat) (a0 : Int) (l1 : List S30) : Option (List Int × Int × Int) :=
  (branch_read.f a0 l1).bind fun t => if t = 0 then (branch_town_costs.f k a0 l1).bind fun p => branch_town_first.f k a0 l1 p else some ([], 0, t)
theorem branch_Branching.mono : ∀ a0 a1 k, LeO (branch_Branching.f k a0 a1) (branch_Branching.f (k + 1) a0 a1) := by
  intro a0 a1 k
  unfold branch_Branching.f
  refine LeO.bind (LeO.refl _) fun t => LeO.ite ?_ (LeO.refl _)
  exact LeO.bind (branch_town_costs.mono _ _ k) fun p => branch_town_first.mono _ _ _ k
/-- What Dear's prices are. -/
def dearB (p : List Int) : List Int := p.map fun x => wrap64 (1000 - x)
def branch_Dear.f (k : Nat) (a0 : Int) (l1 : List S30) : Option (List Int × Int × Int) :=
  (branch_read.f a0 l1).bind fun t => if t = 0 then (branch_town_costs.f k a0 l1).bind fun p => if p.length < 17592186044416 then (branch_town_first.f k a0 l1 (dearB p)).bind fun r =>
    if r.2.2 = 0 then some (r.1, wrap64 (wrap64 (wrap64 (a0 - 1) * 1000) - r.2.1), 0) else some ([], 0, r.2.2) else none else some ([], 0, t)
set_option maxHeartbeats 8000000 in
set_option maxRecDepth 100000 in
theorem branch_Branching.calls (k : Nat) (a0 : Int) (A1 : Option Addr) (c1 : Nat) (l1 : List S30) (r1 : List Int) (r2 r3 : Int) (w : World) (hr1 : Kd.C k30 w A1 l1.length l1) (hc1 : l1.length ≤ c1) (h : branch_Branching.f k a0 l1 = some (r1, r2, r3)) :
    Calls Try.prog 24 #[.int .i64 a0, .slice A1 l1.length c1] w fun e w' => ∃ v0_ : Value, e = .returned (.tuple #[v0_, .int .i64 r2, .int .i64 r3]) ∧ Kd.R (Kd.int .i64) 3 w' w.heap.size (fun _ => True) v0_ r1 ∧ Below w.heap.size w w' := by
  have HR1 := Aside0.mk hr1
  have HC1 := Aside0.mk hc1
  clear hr1 hc1
  have HB := Aside0.mk (Below.refl w.heap.size w)
  unfold branch_Branching.f at h
  obtain ⟨t, ht, h⟩ := Option.bind_eq_some_iff.1 h
  have HT0 := Aside0.mk ht
  clear ht
  by_cases c3 : t = 0
  case neg =>
    rw [if_neg c3] at h
    have c3b : (t == 0) = false := beq_eq_false_iff_ne.mpr c3
    have c3c : (t != 0) = true := bne_iff_ne.mpr c3
    simp only [Option.some.injEq, Prod.mk.injEq] at h
    obtain ⟨rfl, rfl, rfl⟩ := h
    clear c3
    go_enter Try.func24, Try.ntmps24
    go_wp2_with (first | (go_at_call 44; (refine (branch_read.calls_err a0 A1 c1 l1 t _ HR1.out HC1.out HT0.out (by assumption)).mono ?_); rintro e w1 ⟨rfl, hb⟩; clear HB; have HB := Aside0.mk hb; clear hb))
    go_ret3
    exact ⟨_, by first | rfl | (simp; done), Kd.R_nil _ _ _ _ _, HB.out⟩
  rw [if_pos c3] at h
  have c3b : (t == 0) = true := beq_iff_eq.mpr c3
  have c3c : (t != 0) = false := bne_eq_false_iff_eq.mpr c3
  clear c3
  obtain ⟨p, hp, h⟩ := Option.bind_eq_some_iff.1 h
  have HPR := Aside0.mk hp
  clear hp
  have HF := Aside0.mk h
  clear h
  go_enter Try.func24, Try.ntmps24
  go_wp2_with (first | (go_at_call 44; (refine (branch_read.calls_map a0 A1 c1 l1 t _ HR1.out HC1.out HT0.out (by assumption)).mono ?_); rintro e w1 ⟨gt, mm, rfl, hg, hbox, hgm, hb⟩; have GT := Aside0.mk hg; have HT := Aside0.mk hbox; have HG := Aside0.mk hgm; clear HB; have HB := Aside0.mk hb; clear hg hbox hgm hb) | (go_at_call 47; (refine (branch_town_costs.calls k gt a0 A1 c1 l1 (some mm) p _ HT.out (Kd.C_below HR1.out HB.out) HC1.out HPR.out).mono ?_); rintro e w2 ⟨vl, rfl, ho, hb⟩; obtain ⟨Al, cl, hvl⟩ := Kd.R_slice ho; subst hvl; have HO := Aside0.mk (Kd.R_lower ho (below_size HB.out)); have n0_ := Aside0.mk (blk_below HT.out hb); have n1_ := Aside0.mk (below_step HB.out hb); have n2_ := Aside0.mk (HG.out.below hb); clear HT HB HG; have HT := n0_; have HB := n1_; have HG := n2_; clear n0_ n1_ n2_ ho hb) | (go_at_call 51; (refine (branch_town_first.calls k gt a0 A1 c1 l1 mm w.heap.size Al cl p r1 r2 r3 _ HT.out (Kd.C_below HR1.out HB.out) HC1.out (Kd.R_reads' HO.out).2.2 (Kd.R_reads' HO.out).2.1 HG.out HF.out).mono ?_); rintro e w3 ⟨vf, rfl, ho, hb⟩; have HV := Aside0.mk (Kd.R_lower ho (below_size HB.out)); have n0_ := Aside0.mk (below_step HB.out hb); clear HB; have HB := n0_; clear n0_ ho hb))
  go_ret3
  exact ⟨_, by first | rfl | (simp; done), by (with_reducible repeat (first | apply Kd.R_alloc | apply Kd.R_drewN | apply Kd.R_drew)); exact HV.out, by repeat (first | (with_reducible first | exact HB.out | apply below_alloc | apply pw_below_drewN | apply below_drew1) | exact HB.out)⟩
end Go.Proofs.Ytpmadffgdfholaa.B
namespace Go.Proofs.Ytpmadffgdfholaa.B
open Go.RowKit Go.Proofs.YtpmadffgdfholaaW.PrintWords Go.Proofs.YtpmadffgdfholaaW.PrintLast Go.Proofs.YtpmadffgdfholaaW.PrintMore
attribute [local go_sem] max2_int min2_int max_two min_two max_three min_three max_four min_four   -- for this text's walks alone
set_option linter.unusedVariables false
set_option linter.unusedSimpArgs false
def trishawlaw03_alive.f (k : Nat)  : Option (Bool) := (trishawlaw03_three.f).bind fun t101 => ((branch_Branching.f k 3 t101).bind fun bt104 => ((trishawlaw03_three.f).bind fun t109 => ((branch_Proves.f k 3 t109 (([(⟨4, 1⟩ : S41), (⟨2, 2⟩ : S41)] : List (S41)))).bind fun bt115 => ((trishawlaw03_three.f).bind fun t118 => ((branch_Count.f k 3 t118).bind fun bt121 => ((trishawlaw03_three.f).bind fun t123 => ((branch_Narrow.f k 3 t123).bind fun bt126 => (if bt104.2.2 = 0 then ((trishawlaw03_same.f k bt104.1 (([1, 2] : List Int))).bind fun t132 => (if t132 = true then (if bt104.2.1 = 3 then (if bt115.2.2 = 0 then (if bt115.2.1 = true then (if bt115.1 = 3 then (if bt121.2 = 0 then (if bt121.1 = 2 then (if bt126.2.2 = 0 then (if bt126.1 = 1 then (some (bt126.2.1 == 4)) else (some false)) else (some false)) else (some false)) else (some false)) else (some false)) else (some false)) else (some false)) else (some false)) else (some false))) else (some false)))))))))
theorem trishawlaw03_alive.mono : ∀ k, LeO (trishawlaw03_alive.f k ) (trishawlaw03_alive.f (k + 1) ) := by
  intro  k
  unfold trishawlaw03_alive.f
  repeat' first
      | (with_reducible exact branch_Branching.mono _ _ _)
      | (with_reducible exact branch_Count.mono _ _ _)
      | (with_reducible exact branch_Narrow.mono _ _ _)
      | (with_reducible exact branch_Proves.mono _ _ _ _)
      | (with_reducible exact trishawlaw03_same.mono _ _ _)
      | (with_reducible exact LeO.refl _)
      | (with_reducible exact LeO.none _)
      | (with_reducible refine LeO.ite ?_ ?_)
      | (with_reducible refine LeO.bind ?_ (fun _ => ?_))
      | exact branch_Branching.mono _ _ _
      | exact branch_Count.mono _ _ _
      | exact branch_Narrow.mono _ _ _
      | exact branch_Proves.mono _ _ _ _
      | exact trishawlaw03_same.mono _ _ _
      | exact LeO.none _
      | refine LeO.ite ?_ ?_
      | refine LeO.bind ?_ (fun _ => ?_)
theorem alive_true : trishawlaw03_alive.f 60 = some true := by kernel_rfl
theorem alive_from (k : Nat) (h : 60 ≤ k) : trishawlaw03_alive.f k = some true := by
  obtain ⟨d, rfl⟩ : ∃ d, k = 60 + d := ⟨k - 60, by omega⟩
  induction d with
  | zero => exact alive_true
  | succ d ih => exact trishawlaw03_alive.mono (60 + d) true (ih (by omega))
theorem alive_up (k : Nat) (r : Bool) (h : trishawlaw03_alive.f k = some r) (d : Nat) : trishawlaw03_alive.f (k + d) = some r := by
  induction d with
  | zero => exact h
  | succ d ih => exact trishawlaw03_alive.mono (k + d) r ih
theorem alive_only (k : Nat) (r : Bool) (h : trishawlaw03_alive.f k = some r) : r = true := by
  have h1 := alive_up k r h 60
  rw [alive_from (k + 60) (by omega)] at h1
  exact (Option.some.inj h1).symm
set_option maxHeartbeats 8000000 in
set_option maxRecDepth 100000 in
theorem trishawlaw03_alive.calls (k : Nat)  (r : Bool) (w : World) (h : trishawlaw03_alive.f k  = some r) :
    Calls Try.prog 17 #[] w fun e w' => e = .returned (.bool r) ∧ Below w.heap.size w w' := by
  have hu41 := Try.underlying41
  have HB := Aside0.mk (Below.refl w.heap.size w)
  have H : ((trishawlaw03_three.f).bind fun t101 => ((branch_Branching.f k 3 t101).bind fun bt104 => ((trishawlaw03_three.f).bind fun t109 => ((branch_Proves.f k 3 t109 (([(⟨4, 1⟩ : S41), (⟨2, 2⟩ : S41)] : List (S41)))).bind fun bt115 => ((trishawlaw03_three.f).bind fun t118 => ((branch_Count.f k 3 t118).bind fun bt121 => ((trishawlaw03_three.f).bind fun t123 => ((branch_Narrow.f k 3 t123).bind fun bt126 => (if bt104.2.2 = 0 then ((trishawlaw03_same.f k bt104.1 (([1, 2] : List Int))).bind fun t132 => (if t132 = true then (if bt104.2.1 = 3 then (if bt115.2.2 = 0 then (if bt115.2.1 = true then (if bt115.1 = 3 then (if bt121.2 = 0 then (if bt121.1 = 2 then (if bt126.2.2 = 0 then (if bt126.1 = 1 then (some (bt126.2.1 == 4)) else (some false)) else (some false)) else (some false)) else (some false)) else (some false)) else (some false)) else (some false)) else (some false)) else (some false))) else (some false)))))))))) = some r := h
  have HRT := Aside0.mk (alive_only k r h)
  clear h
  replace H := Option.bind_eq_some_iff.mp H
  obtain ⟨t101, A10, H⟩ := H
  replace H : ((branch_Branching.f k 3 t101).bind fun bt104 => ((trishawlaw03_three.f).bind fun t109 => ((branch_Proves.f k 3 t109 (([(⟨4, 1⟩ : S41), (⟨2, 2⟩ : S41)] : List (S41)))).bind fun bt115 => ((trishawlaw03_three.f).bind fun t118 => ((branch_Count.f k 3 t118).bind fun bt121 => ((trishawlaw03_three.f).bind fun t123 => ((branch_Narrow.f k 3 t123).bind fun bt126 => (if bt104.2.2 = 0 then ((trishawlaw03_same.f k bt104.1 (([1, 2] : List Int))).bind fun t132 => (if t132 = true then (if bt104.2.1 = 3 then (if bt115.2.2 = 0 then (if bt115.2.1 = true then (if bt115.1 = 3 then (if bt121.2 = 0 then (if bt121.1 = 2 then (if bt126.2.2 = 0 then (if bt126.1 = 1 then (some (bt126.2.1 == 4)) else (some false)) else (some false)) else (some false)) else (some false)) else (some false)) else (some false)) else (some false)) else (some false)) else (some false))) else (some false))))))))) = some r := H
  have A1 := Aside0.mk A10
  clear A10
  replace H := Option.bind_eq_some_iff.mp H
  obtain ⟨⟨t104, t105, t106⟩, A20, H⟩ := H
  replace H : ((trishawlaw03_three.f).bind fun t109 => ((branch_Proves.f k 3 t109 (([(⟨4, 1⟩ : S41), (⟨2, 2⟩ : S41)] : List (S41)))).bind fun bt115 => ((trishawlaw03_three.f).bind fun t118 => ((branch_Count.f k 3 t118).bind fun bt121 => ((trishawlaw03_three.f).bind fun t123 => ((branch_Narrow.f k 3 t123).bind fun bt126 => (if t106 = 0 then ((trishawlaw03_same.f k t104 (([1, 2] : List Int))).bind fun t132 => (if t132 = true then (if t105 = 3 then (if bt115.2.2 = 0 then (if bt115.2.1 = true then (if bt115.1 = 3 then (if bt121.2 = 0 then (if bt121.1 = 2 then (if bt126.2.2 = 0 then (if bt126.1 = 1 then (some (bt126.2.1 == 4)) else (some false)) else (some false)) else (some false)) else (some false)) else (some false)) else (some false)) else (some false)) else (some false)) else (some false))) else (some false)))))))) = some r := H
  have A2 := Aside0.mk A20
  clear A20
  replace H := Option.bind_eq_some_iff.mp H
  obtain ⟨t109, A30, H⟩ := H
  replace H : ((branch_Proves.f k 3 t109 (([(⟨4, 1⟩ : S41), (⟨2, 2⟩ : S41)] : List (S41)))).bind fun bt115 => ((trishawlaw03_three.f).bind fun t118 => ((branch_Count.f k 3 t118).bind fun bt121 => ((trishawlaw03_three.f).bind fun t123 => ((branch_Narrow.f k 3 t123).bind fun bt126 => (if t106 = 0 then ((trishawlaw03_same.f k t104 (([1, 2] : List Int))).bind fun t132 => (if t132 = true then (if t105 = 3 then (if bt115.2.2 = 0 then (if bt115.2.1 = true then (if bt115.1 = 3 then (if bt121.2 = 0 then (if bt121.1 = 2 then (if bt126.2.2 = 0 then (if bt126.1 = 1 then (some (bt126.2.1 == 4)) else (some false)) else (some false)) else (some false)) else (some false)) else (some false)) else (some false)) else (some false)) else (some false)) else (some false))) else (some false))))))) = some r := H
  have A3 := Aside0.mk A30
  clear A30
  obtain ⟨y112, hy112⟩ : ∃ y_ : List (S41), y_ = (([(⟨4, 1⟩ : S41), (⟨2, 2⟩ : S41)] : List (S41))) := ⟨_, rfl⟩
  replace H : ((branch_Proves.f k 3 t109 y112).bind fun bt115 => ((trishawlaw03_three.f).bind fun t118 => ((branch_Count.f k 3 t118).bind fun bt121 => ((trishawlaw03_three.f).bind fun t123 => ((branch_Narrow.f k 3 t123).bind fun bt126 => (if t106 = 0 then ((trishawlaw03_same.f k t104 (([1, 2] : List Int))).bind fun t132 => (if t132 = true then (if t105 = 3 then (if bt115.2.2 = 0 then (if bt115.2.1 = true then (if bt115.1 = 3 then (if bt121.2 = 0 then (if bt121.1 = 2 then (if bt126.2.2 = 0 then (if bt126.1 = 1 then (some (bt126.2.1 == 4)) else (some false)) else (some false)) else (some false)) else (some false)) else (some false)) else (some false)) else (some false)) else (some false)) else (some false))) else (some false))))))) = some r := by first | (rw [hy112]; with_reducible exact H) | (have H2_ := (Option.bind_some _ _).symm.trans H; rw [hy112]; with_reducible exact H2_) | (have H2_ := (Option.bind_some _ _).symm.trans H; with_reducible exact H2_) | with_reducible exact H | (rw [hy112]; exact H) | exact H
  have Ny112 := Aside0.mk hy112
  clear hy112
  replace H := Option.bind_eq_some_iff.mp H
  obtain ⟨⟨t115, t116, t117⟩, A40, H⟩ := H
  replace H : ((trishawlaw03_three.f).bind fun t118 => ((branch_Count.f k 3 t118).bind fun bt121 => ((trishawlaw03_three.f).bind fun t123 => ((branch_Narrow.f k 3 t123).bind fun bt126 => (if t106 = 0 then ((trishawlaw03_same.f k t104 (([1, 2] : List Int))).bind fun t132 => (if t132 = true then (if t105 = 3 then (if t117 = 0 then (if t116 = true then (if t115 = 3 then (if bt121.2 = 0 then (if bt121.1 = 2 then (if bt126.2.2 = 0 then (if bt126.1 = 1 then (some (bt126.2.1 == 4)) else (some false)) else (some false)) else (some false)) else (some false)) else (some false)) else (some false)) else (some false)) else (some false)) else (some false))) else (some false)))))) = some r := H
  have A4 := Aside0.mk A40
  clear A40
  replace H := Option.bind_eq_some_iff.mp H
  obtain ⟨t118, A50, H⟩ := H
  replace H : ((branch_Count.f k 3 t118).bind fun bt121 => ((trishawlaw03_three.f).bind fun t123 => ((branch_Narrow.f k 3 t123).bind fun bt126 => (if t106 = 0 then ((trishawlaw03_same.f k t104 (([1, 2] : List Int))).bind fun t132 => (if t132 = true then (if t105 = 3 then (if t117 = 0 then (if t116 = true then (if t115 = 3 then (if bt121.2 = 0 then (if bt121.1 = 2 then (if bt126.2.2 = 0 then (if bt126.1 = 1 then (some (bt126.2.1 == 4)) else (some false)) else (some false)) else (some false)) else (some false)) else (some false)) else (some false)) else (some false)) else (some false)) else (some false))) else (some false))))) = some r := H
  have A5 := Aside0.mk A50
  clear A50
  replace H := Option.bind_eq_some_iff.mp H
  obtain ⟨⟨t121, t122⟩, A60, H⟩ := H
  replace H : ((trishawlaw03_three.f).bind fun t123 => ((branch_Narrow.f k 3 t123).bind fun bt126 => (if t106 = 0 then ((trishawlaw03_same.f k t104 (([1, 2] : List Int))).bind fun t132 => (if t132 = true then (if t105 = 3 then (if t117 = 0 then (if t116 = true then (if t115 = 3 then (if t122 = 0 then (if t121 = 2 then (if bt126.2.2 = 0 then (if bt126.1 = 1 then (some (bt126.2.1 == 4)) else (some false)) else (some false)) else (some false)) else (some false)) else (some false)) else (some false)) else (some false)) else (some false)) else (some false))) else (some false)))) = some r := H
  have A6 := Aside0.mk A60
  clear A60
  replace H := Option.bind_eq_some_iff.mp H
  obtain ⟨t123, A70, H⟩ := H
  replace H : ((branch_Narrow.f k 3 t123).bind fun bt126 => (if t106 = 0 then ((trishawlaw03_same.f k t104 (([1, 2] : List Int))).bind fun t132 => (if t132 = true then (if t105 = 3 then (if t117 = 0 then (if t116 = true then (if t115 = 3 then (if t122 = 0 then (if t121 = 2 then (if bt126.2.2 = 0 then (if bt126.1 = 1 then (some (bt126.2.1 == 4)) else (some false)) else (some false)) else (some false)) else (some false)) else (some false)) else (some false)) else (some false)) else (some false)) else (some false))) else (some false))) = some r := H
  have A7 := Aside0.mk A70
  clear A70
  replace H := Option.bind_eq_some_iff.mp H
  obtain ⟨⟨t126, t127, t128⟩, A80, H⟩ := H
  replace H : (if t106 = 0 then ((trishawlaw03_same.f k t104 (([1, 2] : List Int))).bind fun t132 => (if t132 = true then (if t105 = 3 then (if t117 = 0 then (if t116 = true then (if t115 = 3 then (if t122 = 0 then (if t121 = 2 then (if t128 = 0 then (if t126 = 1 then (some (t127 == 4)) else (some false)) else (some false)) else (some false)) else (some false)) else (some false)) else (some false)) else (some false)) else (some false)) else (some false))) else (some false)) = some r := H
  have A8 := Aside0.mk A80
  clear A80
  by_cases c9 : t106 = 0
  · rw [if_pos c9] at H
    have c9b0 : (t106 == 0) = true := beq_iff_eq.mpr c9
    have c9b1 : (t106 != 0) = false := bne_eq_false_iff_eq.mpr c9
    clear c9
    obtain ⟨y129, hy129⟩ : ∃ y_ : List Int, y_ = (([1, 2] : List Int)) := ⟨_, rfl⟩
    replace H : ((trishawlaw03_same.f k t104 y129).bind fun t132 => (if t132 = true then (if t105 = 3 then (if t117 = 0 then (if t116 = true then (if t115 = 3 then (if t122 = 0 then (if t121 = 2 then (if t128 = 0 then (if t126 = 1 then (some (t127 == 4)) else (some false)) else (some false)) else (some false)) else (some false)) else (some false)) else (some false)) else (some false)) else (some false)) else (some false))) = some r := by first | (rw [hy129]; with_reducible exact H) | (have H2_ := (Option.bind_some _ _).symm.trans H; rw [hy129]; with_reducible exact H2_) | (have H2_ := (Option.bind_some _ _).symm.trans H; with_reducible exact H2_) | with_reducible exact H | (rw [hy129]; exact H) | exact H
    have Ny129 := Aside0.mk hy129
    clear hy129
    replace H := Option.bind_eq_some_iff.mp H
    obtain ⟨t132, A100, H⟩ := H
    replace H : (if t132 = true then (if t105 = 3 then (if t117 = 0 then (if t116 = true then (if t115 = 3 then (if t122 = 0 then (if t121 = 2 then (if t128 = 0 then (if t126 = 1 then (some (t127 == 4)) else (some false)) else (some false)) else (some false)) else (some false)) else (some false)) else (some false)) else (some false)) else (some false)) else (some false)) = some r := H
    have A10 := Aside0.mk A100
    clear A100
    by_cases c11 : t132 = true
    · subst c11
      have H1 : (if t105 = 3 then (if t117 = 0 then (if t116 = true then (if t115 = 3 then (if t122 = 0 then (if t121 = 2 then (if t128 = 0 then (if t126 = 1 then (some (t127 == 4)) else (some false)) else (some false)) else (some false)) else (some false)) else (some false)) else (some false)) else (some false)) else (some false)) = some r := by rw [if_pos rfl] at H; exact H
      clear H
      have H := H1
      clear H1
      by_cases c12 : t105 = 3
      · rw [if_pos c12] at H
        have c12b0 : (t105 == 3) = true := beq_iff_eq.mpr c12
        have c12b1 : (t105 != 3) = false := bne_eq_false_iff_eq.mpr c12
        clear c12
        by_cases c13 : t117 = 0
        · rw [if_pos c13] at H
          have c13b0 : (t117 == 0) = true := beq_iff_eq.mpr c13
          have c13b1 : (t117 != 0) = false := bne_eq_false_iff_eq.mpr c13
          clear c13
          by_cases c14 : t116 = true
          · subst c14
            have H1 : (if t115 = 3 then (if t122 = 0 then (if t121 = 2 then (if t128 = 0 then (if t126 = 1 then (some (t127 == 4)) else (some false)) else (some false)) else (some false)) else (some false)) else (some false)) = some r := by rw [if_pos rfl] at H; exact H
            clear H
            have H := H1
            clear H1
            by_cases c15 : t115 = 3
            · rw [if_pos c15] at H
              have c15b0 : (t115 == 3) = true := beq_iff_eq.mpr c15
              have c15b1 : (t115 != 3) = false := bne_eq_false_iff_eq.mpr c15
              clear c15
              by_cases c16 : t122 = 0
              · rw [if_pos c16] at H
                have c16b0 : (t122 == 0) = true := beq_iff_eq.mpr c16
                have c16b1 : (t122 != 0) = false := bne_eq_false_iff_eq.mpr c16
                clear c16
                by_cases c17 : t121 = 2
                · rw [if_pos c17] at H
                  have c17b0 : (t121 == 2) = true := beq_iff_eq.mpr c17
                  have c17b1 : (t121 != 2) = false := bne_eq_false_iff_eq.mpr c17
                  clear c17
                  by_cases c18 : t128 = 0
                  · rw [if_pos c18] at H
                    have c18b0 : (t128 == 0) = true := beq_iff_eq.mpr c18
                    have c18b1 : (t128 != 0) = false := bne_eq_false_iff_eq.mpr c18
                    clear c18
                    by_cases c19 : t126 = 1
                    · rw [if_pos c19] at H
                      have c19b0 : (t126 == 1) = true := beq_iff_eq.mpr c19
                      have c19b1 : (t126 != 1) = false := bne_eq_false_iff_eq.mpr c19
                      clear c19
                      obtain rfl := Option.some.inj H
                      go_enter Try.func17, Try.ntmps17
                      go_wp2_with (first | ((with_reducible refine gate_callee (f := 43) rfl ?_); refine goesL_ (some 13) rfl rfl Try.func43 (by kernel_rfl) rfl #[] rfl (by (try simp only [List.map_toArray, List.map_cons, List.map_nil]); first | done | rfl | (simp only [List.length_drop, List.length_take]; rfl)) ?_; (with_reducible refine (trishawlaw03_three.calls  t101 _ A1.out).mono ?_); rintro e w20 ⟨v102, rfl, ho0, hb⟩; refine ⟨_, rfl, ?_⟩; have n0_ := Aside0.mk (Kd.R_lower ho0 (below_size (by repeat (first | (with_reducible first | exact HB.out | apply below_alloc | apply pw_below_drewN | apply below_drew1) | exact HB.out)))); have n1_ := Aside0.mk (below_step (by repeat (first | (with_reducible first | exact HB.out | apply below_alloc | apply pw_below_drewN | apply below_drew1) | exact HB.out)) hb); clear HB; have HO103 := n0_; have HB := n1_; clear n0_ n1_; (try clear hb); (try clear hb2); (try clear hk); (try clear hi); (try clear ho0); obtain ⟨Ao21, co21, eo21⟩ := Kd.R_slice HO103.out; subst eo21) | ((with_reducible refine gate_callee (f := 24) rfl ?_); refine goesL_ (some 14) rfl rfl Try.func24 (by kernel_rfl) rfl #[.int .i64 3, .slice Ao21 t101.length co21] rfl (by (try simp only [List.map_toArray, List.map_cons, List.map_nil]); first | done | rfl | (simp only [List.length_drop, List.length_take]; rfl)) ?_; (with_reducible refine (branch_Branching.calls k 3 _ _ t101 t104 t105 t106 _ ?side1 ?side2 A2.out).mono ?_); (case side1 => repeat (first | exact (Kd.R_reads' HO103.out).2.2 | (with_reducible refine Kd.C_alloc ?_ _) | (with_reducible refine Kd.C_drewN ?_ _) | (with_reducible refine Kd.C_drew ?_))); (case side2 => exact (Kd.R_reads' HO103.out).2.1); rintro e w22 ⟨v107, rfl, ho0, hb⟩; refine ⟨_, rfl, ?_⟩; have n0_ := Aside0.mk (Kd.R_below (by (with_reducible repeat (first | apply Kd.R_alloc | apply Kd.R_drewN | apply Kd.R_drew)); exact HO103.out) hb); have n1_ := Aside0.mk (Kd.R_lower ho0 (below_size (by repeat (first | (with_reducible first | exact HB.out | apply below_alloc | apply pw_below_drewN | apply below_drew1) | exact HB.out)))); have n2_ := Aside0.mk (below_step (by repeat (first | (with_reducible first | exact HB.out | apply below_alloc | apply pw_below_drewN | apply below_drew1) | exact HB.out)) hb); clear HO103; clear HB; have HO103 := n0_; have HO108 := n1_; have HB := n2_; clear n0_ n1_ n2_; (try clear hb); (try clear hb2); (try clear hk); (try clear hi); (try clear ho0)) | ((with_reducible refine gate_callee (f := 43) rfl ?_); refine goesL_ (some 19) rfl rfl Try.func43 (by kernel_rfl) rfl #[] rfl (by (try simp only [List.map_toArray, List.map_cons, List.map_nil]); first | done | rfl | (simp only [List.length_drop, List.length_take]; rfl)) ?_; (with_reducible refine (trishawlaw03_three.calls  t109 _ A3.out).mono ?_); rintro e w23 ⟨v110, rfl, ho0, hb⟩; refine ⟨_, rfl, ?_⟩; have n0_ := Aside0.mk (Kd.R_elder' (by (with_reducible repeat (first | apply Kd.R_alloc | apply Kd.R_drewN | apply Kd.R_drew)); exact HO103.out) (Kd.R_base ho0) hb); have n1_ := Aside0.mk (Kd.R_below (by (with_reducible repeat (first | apply Kd.R_alloc | apply Kd.R_drewN | apply Kd.R_drew)); exact HO108.out) hb); have n2_ := Aside0.mk (Kd.R_lower (Kd.R_new' ho0 (Kd.R_lt (by (with_reducible repeat (first | apply Kd.R_alloc | apply Kd.R_drewN | apply Kd.R_drew)); exact HO103.out))) (below_size (by repeat (first | (with_reducible first | exact HB.out | apply below_alloc | apply pw_below_drewN | apply below_drew1) | exact HB.out)))); have n3_ := Aside0.mk (below_step (by repeat (first | (with_reducible first | exact HB.out | apply below_alloc | apply pw_below_drewN | apply below_drew1) | exact HB.out)) hb); clear HO103; clear HO108; clear HB; have HO103 := n0_; have HO108 := n1_; have HO111 := n2_; have HB := n3_; clear n0_ n1_ n2_ n3_; (try clear hb); (try clear hb2); (try clear hk); (try clear hi); (try clear ho0)) | ((with_reducible refine gate_dst (N := 22) rfl ?_); (try (refine gate_guard (by rfl) ?_; dsimp only)); refine Kd.R_lit k41 _ 41 ?hg (N := 22) ?hd (xs := ([(⟨4, 1⟩ : S41), (⟨2, 2⟩ : S41)] : List (S41))) (inner := [.int .i64 4, .int .i64 1, .int .i64 2, .int .i64 2]) (ok := fun _ => True) (okp := fun _ => True) ?hr ?hp (fun _ hk => hk) trivial (Below.refl _ _) (Nat.le_refl _) (by simp) ?_; (case hd => rfl); (case hg => rfl); (case hr => first | (go_simp; done) | (go_simp; rfl)); (case hp => exact (Reps.c2 (show Kd.M k41 _ _ _ (⟨4, 1⟩ : S41) [.int .i64 4, .int .i64 1] from (k41_mkM _ _ _ (⟨4, 1⟩ : S41) )) (Reps.c2 (show Kd.M k41 _ _ _ (⟨2, 2⟩ : S41) [.int .i64 2, .int .i64 2] from (k41_mkM _ _ _ (⟨2, 2⟩ : S41) )) (Reps.none _ _)))); intro v113 w24 ho25 hb hg_ hnew_; clear hg_ hnew_; (first | rw [← Ny112.out] at ho25 | (simp only [Int.reduceToNat] at ho25; rw [← Ny112.out] at ho25)); have n0_ := Aside0.mk (Kd.R_below (by (with_reducible repeat (first | apply Kd.R_alloc | apply Kd.R_drewN | apply Kd.R_drew)); exact HO103.out) hb); have n1_ := Aside0.mk (Kd.R_below (by (with_reducible repeat (first | apply Kd.R_alloc | apply Kd.R_drewN | apply Kd.R_drew)); exact HO108.out) hb); have n2_ := Aside0.mk (Kd.R_below (by (with_reducible repeat (first | apply Kd.R_alloc | apply Kd.R_drewN | apply Kd.R_drew)); exact HO111.out) hb); have n3_ := Aside0.mk (Kd.R_lower ho25 (below_size (by repeat (first | (with_reducible first | exact HB.out | apply below_alloc | apply pw_below_drewN | apply below_drew1) | exact HB.out)))); have n4_ := Aside0.mk (below_step (by repeat (first | (with_reducible first | exact HB.out | apply below_alloc | apply pw_below_drewN | apply below_drew1) | exact HB.out)) hb); clear HO103; clear HO108; clear HO111; clear HB; have HO103 := n0_; have HO108 := n1_; have HO111 := n2_; have HO114 := n3_; have HB := n4_; clear n0_ n1_ n2_ n3_ n4_; clear hb ho25; obtain ⟨Ao26, co26, eo26⟩ := Kd.R_slice HO111.out; subst eo26; obtain ⟨Ao27, co27, eo27⟩ := Kd.R_slice HO114.out; subst eo27) | ((with_reducible refine gate_callee (f := 37) rfl ?_); refine goesL_ (some 23) rfl rfl Try.func37 (by kernel_rfl) rfl #[.int .i64 3, .slice Ao26 t109.length co26, .slice Ao27 y112.length co27] rfl (by (try simp only [List.map_toArray, List.map_cons, List.map_nil]); first | done | rfl | (simp only [List.length_drop, List.length_take]; rfl)) ?_; (with_reducible refine (branch_Proves.calls k 3 _ _ t109 _ _ y112 t115 true t117 _ ?side1 ?side2 ?side3 ?side4 A4.out).mono ?_); (case side1 => repeat (first | exact (Kd.R_reads' HO111.out).2.2 | (with_reducible refine Kd.C_alloc ?_ _) | (with_reducible refine Kd.C_drewN ?_ _) | (with_reducible refine Kd.C_drew ?_))); (case side2 => exact (Kd.R_reads' HO111.out).2.1); (case side3 => repeat (first | exact (Kd.R_reads' HO114.out).2.2 | (with_reducible refine Kd.C_alloc ?_ _) | (with_reducible refine Kd.C_drewN ?_ _) | (with_reducible refine Kd.C_drew ?_))); (case side4 => exact (Kd.R_reads' HO114.out).2.1); rintro e w28 ⟨rfl, hb⟩; refine ⟨_, rfl, ?_⟩; have n0_ := Aside0.mk (Kd.R_below (by (with_reducible repeat (first | apply Kd.R_alloc | apply Kd.R_drewN | apply Kd.R_drew)); exact HO103.out) hb); have n1_ := Aside0.mk (Kd.R_below (by (with_reducible repeat (first | apply Kd.R_alloc | apply Kd.R_drewN | apply Kd.R_drew)); exact HO108.out) hb); have n2_ := Aside0.mk (Kd.R_below (by (with_reducible repeat (first | apply Kd.R_alloc | apply Kd.R_drewN | apply Kd.R_drew)); exact HO111.out) hb); have n3_ := Aside0.mk (Kd.R_below (by (with_reducible repeat (first | apply Kd.R_alloc | apply Kd.R_drewN | apply Kd.R_drew)); exact HO114.out) hb); have n4_ := Aside0.mk (below_step (by repeat (first | (with_reducible first | exact HB.out | apply below_alloc | apply pw_below_drewN | apply below_drew1) | exact HB.out)) hb); clear HO103; clear HO108; clear HO111; clear HO114; clear HB; have HO103 := n0_; have HO108 := n1_; have HO111 := n2_; have HO114 := n3_; have HB := n4_; clear n0_ n1_ n2_ n3_ n4_; (try clear hb); (try clear hb2); (try clear hk); (try clear hi)) | ((with_reducible refine gate_callee (f := 43) rfl ?_); refine goesL_ (some 28) rfl rfl Try.func43 (by kernel_rfl) rfl #[] rfl (by (try simp only [List.map_toArray, List.map_cons, List.map_nil]); first | done | rfl | (simp only [List.length_drop, List.length_take]; rfl)) ?_; (with_reducible refine (trishawlaw03_three.calls  t118 _ A5.out).mono ?_); rintro e w29 ⟨v119, rfl, ho0, hb⟩; refine ⟨_, rfl, ?_⟩; have n0_ := Aside0.mk (Kd.R_elder' (by (with_reducible repeat (first | apply Kd.R_alloc | apply Kd.R_drewN | apply Kd.R_drew)); exact HO103.out) (Kd.R_base ho0) hb); have n1_ := Aside0.mk (Kd.R_below (by (with_reducible repeat (first | apply Kd.R_alloc | apply Kd.R_drewN | apply Kd.R_drew)); exact HO108.out) hb); have n2_ := Aside0.mk (Kd.R_elder' (by (with_reducible repeat (first | apply Kd.R_alloc | apply Kd.R_drewN | apply Kd.R_drew)); exact HO111.out) (Kd.R_base ho0) hb); have n3_ := Aside0.mk (Kd.R_below (by (with_reducible repeat (first | apply Kd.R_alloc | apply Kd.R_drewN | apply Kd.R_drew)); exact HO114.out) hb); have n4_ := Aside0.mk (Kd.R_lower (Kd.R_new' (Kd.R_new' ho0 (Kd.R_lt (by (with_reducible repeat (first | apply Kd.R_alloc | apply Kd.R_drewN | apply Kd.R_drew)); exact HO103.out))) (Kd.R_lt (by (with_reducible repeat (first | apply Kd.R_alloc | apply Kd.R_drewN | apply Kd.R_drew)); exact HO111.out))) (below_size (by repeat (first | (with_reducible first | exact HB.out | apply below_alloc | apply pw_below_drewN | apply below_drew1) | exact HB.out)))); have n5_ := Aside0.mk (below_step (by repeat (first | (with_reducible first | exact HB.out | apply below_alloc | apply pw_below_drewN | apply below_drew1) | exact HB.out)) hb); clear HO103; clear HO108; clear HO111; clear HO114; clear HB; have HO103 := n0_; have HO108 := n1_; have HO111 := n2_; have HO114 := n3_; have HO120 := n4_; have HB := n5_; clear n0_ n1_ n2_ n3_ n4_ n5_; (try clear hb); (try clear hb2); (try clear hk); (try clear hi); (try clear ho0); obtain ⟨Ao30, co30, eo30⟩ := Kd.R_slice HO120.out; subst eo30) | ((with_reducible refine gate_callee (f := 18) rfl ?_); refine goesL_ (some 29) rfl rfl Try.func18 (by kernel_rfl) rfl #[.int .i64 3, .slice Ao30 t118.length co30] rfl (by (try simp only [List.map_toArray, List.map_cons, List.map_nil]); first | done | rfl | (simp only [List.length_drop, List.length_take]; rfl)) ?_; (with_reducible refine (branch_Count.calls k 3 _ _ t118 t121 t122 _ ?side1 ?side2 A6.out).mono ?_); (case side1 => repeat (first | exact (Kd.R_reads' HO120.out).2.2 | (with_reducible refine Kd.C_alloc ?_ _) | (with_reducible refine Kd.C_drewN ?_ _) | (with_reducible refine Kd.C_drew ?_))); (case side2 => exact (Kd.R_reads' HO120.out).2.1); rintro e w31 ⟨rfl, hb⟩; refine ⟨_, rfl, ?_⟩; have n0_ := Aside0.mk (Kd.R_below (by (with_reducible repeat (first | apply Kd.R_alloc | apply Kd.R_drewN | apply Kd.R_drew)); exact HO103.out) hb); have n1_ := Aside0.mk (Kd.R_below (by (with_reducible repeat (first | apply Kd.R_alloc | apply Kd.R_drewN | apply Kd.R_drew)); exact HO108.out) hb); have n2_ := Aside0.mk (Kd.R_below (by (with_reducible repeat (first | apply Kd.R_alloc | apply Kd.R_drewN | apply Kd.R_drew)); exact HO111.out) hb); have n3_ := Aside0.mk (Kd.R_below (by (with_reducible repeat (first | apply Kd.R_alloc | apply Kd.R_drewN | apply Kd.R_drew)); exact HO114.out) hb); have n4_ := Aside0.mk (Kd.R_below (by (with_reducible repeat (first | apply Kd.R_alloc | apply Kd.R_drewN | apply Kd.R_drew)); exact HO120.out) hb); have n5_ := Aside0.mk (below_step (by repeat (first | (with_reducible first | exact HB.out | apply below_alloc | apply pw_below_drewN | apply below_drew1) | exact HB.out)) hb); clear HO103; clear HO108; clear HO111; clear HO114; clear HO120; clear HB; have HO103 := n0_; have HO108 := n1_; have HO111 := n2_; have HO114 := n3_; have HO120 := n4_; have HB := n5_; clear n0_ n1_ n2_ n3_ n4_ n5_; (try clear hb); (try clear hb2); (try clear hk); (try clear hi)) | ((with_reducible refine gate_callee (f := 43) rfl ?_); refine goesL_ (some 33) rfl rfl Try.func43 (by kernel_rfl) rfl #[] rfl (by (try simp only [List.map_toArray, List.map_cons, List.map_nil]); first | done | rfl | (simp only [List.length_drop, List.length_take]; rfl)) ?_; (with_reducible refine (trishawlaw03_three.calls  t123 _ A7.out).mono ?_); rintro e w32 ⟨v124, rfl, ho0, hb⟩; refine ⟨_, rfl, ?_⟩; have n0_ := Aside0.mk (Kd.R_elder' (by (with_reducible repeat (first | apply Kd.R_alloc | apply Kd.R_drewN | apply Kd.R_drew)); exact HO103.out) (Kd.R_base ho0) hb); have n1_ := Aside0.mk (Kd.R_below (by (with_reducible repeat (first | apply Kd.R_alloc | apply Kd.R_drewN | apply Kd.R_drew)); exact HO108.out) hb); have n2_ := Aside0.mk (Kd.R_elder' (by (with_reducible repeat (first | apply Kd.R_alloc | apply Kd.R_drewN | apply Kd.R_drew)); exact HO111.out) (Kd.R_base ho0) hb); have n3_ := Aside0.mk (Kd.R_below (by (with_reducible repeat (first | apply Kd.R_alloc | apply Kd.R_drewN | apply Kd.R_drew)); exact HO114.out) hb); have n4_ := Aside0.mk (Kd.R_elder' (by (with_reducible repeat (first | apply Kd.R_alloc | apply Kd.R_drewN | apply Kd.R_drew)); exact HO120.out) (Kd.R_base ho0) hb); have n5_ := Aside0.mk (Kd.R_lower (Kd.R_new' (Kd.R_new' (Kd.R_new' ho0 (Kd.R_lt (by (with_reducible repeat (first | apply Kd.R_alloc | apply Kd.R_drewN | apply Kd.R_drew)); exact HO103.out))) (Kd.R_lt (by (with_reducible repeat (first | apply Kd.R_alloc | apply Kd.R_drewN | apply Kd.R_drew)); exact HO111.out))) (Kd.R_lt (by (with_reducible repeat (first | apply Kd.R_alloc | apply Kd.R_drewN | apply Kd.R_drew)); exact HO120.out))) (below_size (by repeat (first | (with_reducible first | exact HB.out | apply below_alloc | apply pw_below_drewN | apply below_drew1) | exact HB.out)))); have n6_ := Aside0.mk (below_step (by repeat (first | (with_reducible first | exact HB.out | apply below_alloc | apply pw_below_drewN | apply below_drew1) | exact HB.out)) hb); clear HO103; clear HO108; clear HO111; clear HO114; clear HO120; clear HB; have HO103 := n0_; have HO108 := n1_; have HO111 := n2_; have HO114 := n3_; have HO120 := n4_; have HO125 := n5_; have HB := n6_; clear n0_ n1_ n2_ n3_ n4_ n5_ n6_; (try clear hb); (try clear hb2); (try clear hk); (try clear hi); (try clear ho0); obtain ⟨Ao33, co33, eo33⟩ := Kd.R_slice HO125.out; subst eo33) | ((with_reducible refine gate_callee (f := 30) rfl ?_); refine goesL_ (some 34) rfl rfl Try.func30 (by kernel_rfl) rfl #[.int .i64 3, .slice Ao33 t123.length co33] rfl (by (try simp only [List.map_toArray, List.map_cons, List.map_nil]); first | done | rfl | (simp only [List.length_drop, List.length_take]; rfl)) ?_; (with_reducible refine (branch_Narrow.calls k 3 _ _ t123 t126 t127 t128 _ ?side1 ?side2 A8.out).mono ?_); (case side1 => repeat (first | exact (Kd.R_reads' HO125.out).2.2 | (with_reducible refine Kd.C_alloc ?_ _) | (with_reducible refine Kd.C_drewN ?_ _) | (with_reducible refine Kd.C_drew ?_))); (case side2 => exact (Kd.R_reads' HO125.out).2.1); rintro e w34 ⟨rfl, hb⟩; refine ⟨_, rfl, ?_⟩; have n0_ := Aside0.mk (Kd.R_below (by (with_reducible repeat (first | apply Kd.R_alloc | apply Kd.R_drewN | apply Kd.R_drew)); exact HO103.out) hb); have n1_ := Aside0.mk (Kd.R_below (by (with_reducible repeat (first | apply Kd.R_alloc | apply Kd.R_drewN | apply Kd.R_drew)); exact HO108.out) hb); have n2_ := Aside0.mk (Kd.R_below (by (with_reducible repeat (first | apply Kd.R_alloc | apply Kd.R_drewN | apply Kd.R_drew)); exact HO111.out) hb); have n3_ := Aside0.mk (Kd.R_below (by (with_reducible repeat (first | apply Kd.R_alloc | apply Kd.R_drewN | apply Kd.R_drew)); exact HO114.out) hb); have n4_ := Aside0.mk (Kd.R_below (by (with_reducible repeat (first | apply Kd.R_alloc | apply Kd.R_drewN | apply Kd.R_drew)); exact HO120.out) hb); have n5_ := Aside0.mk (Kd.R_below (by (with_reducible repeat (first | apply Kd.R_alloc | apply Kd.R_drewN | apply Kd.R_drew)); exact HO125.out) hb); have n6_ := Aside0.mk (below_step (by repeat (first | (with_reducible first | exact HB.out | apply below_alloc | apply pw_below_drewN | apply below_drew1) | exact HB.out)) hb); clear HO103; clear HO108; clear HO111; clear HO114; clear HO120; clear HO125; clear HB; have HO103 := n0_; have HO108 := n1_; have HO111 := n2_; have HO114 := n3_; have HO120 := n4_; have HO125 := n5_; have HB := n6_; clear n0_ n1_ n2_ n3_ n4_ n5_ n6_; (try clear hb); (try clear hb2); (try clear hk); (try clear hi)) | ((with_reducible refine gate_dst (N := 42) rfl ?_); (try (refine gate_guard (by rfl) ?_; dsimp only)); refine Kd.R_lit (Kd.int .i64) _ 3 ?hg (N := 42) ?hd (xs := ([1, 2] : List Int)) (inner := [.int .i64 1, .int .i64 2]) (ok := fun _ => True) (okp := fun _ => True) ?hr ?hp (fun _ hk => hk) trivial (Below.refl _ _) (Nat.le_refl _) (by simp) ?_; (case hd => rfl); (case hg => rfl); (case hr => first | (go_simp; done) | (go_simp; rfl)); (case hp => exact (Reps.one (show Kd.M (Kd.int .i64) _ _ _ 1 [.int .i64 1] from rfl) (Reps.one (show Kd.M (Kd.int .i64) _ _ _ 2 [.int .i64 2] from rfl) (Reps.none _ _)))); intro v130 w35 ho36 hb hg_ hnew_; clear hg_ hnew_; (first | rw [← Ny129.out] at ho36 | (simp only [Int.reduceToNat] at ho36; rw [← Ny129.out] at ho36)); have n0_ := Aside0.mk (Kd.R_below (by (with_reducible repeat (first | apply Kd.R_alloc | apply Kd.R_drewN | apply Kd.R_drew)); exact HO103.out) hb); have n1_ := Aside0.mk (Kd.R_elder' (by (with_reducible repeat (first | apply Kd.R_alloc | apply Kd.R_drewN | apply Kd.R_drew)); exact HO108.out) (Kd.R_base ho36) hb); have n2_ := Aside0.mk (Kd.R_below (by (with_reducible repeat (first | apply Kd.R_alloc | apply Kd.R_drewN | apply Kd.R_drew)); exact HO111.out) hb); have n3_ := Aside0.mk (Kd.R_below (by (with_reducible repeat (first | apply Kd.R_alloc | apply Kd.R_drewN | apply Kd.R_drew)); exact HO114.out) hb); have n4_ := Aside0.mk (Kd.R_below (by (with_reducible repeat (first | apply Kd.R_alloc | apply Kd.R_drewN | apply Kd.R_drew)); exact HO120.out) hb); have n5_ := Aside0.mk (Kd.R_below (by (with_reducible repeat (first | apply Kd.R_alloc | apply Kd.R_drewN | apply Kd.R_drew)); exact HO125.out) hb); have n6_ := Aside0.mk (Kd.R_lower (Kd.R_new' ho36 (Kd.R_lt (by (with_reducible repeat (first | apply Kd.R_alloc | apply Kd.R_drewN | apply Kd.R_drew)); exact HO108.out))) (below_size (by repeat (first | (with_reducible first | exact HB.out | apply below_alloc | apply pw_below_drewN | apply below_drew1) | exact HB.out)))); have n7_ := Aside0.mk (below_step (by repeat (first | (with_reducible first | exact HB.out | apply below_alloc | apply pw_below_drewN | apply below_drew1) | exact HB.out)) hb); clear HO103; clear HO108; clear HO111; clear HO114; clear HO120; clear HO125; clear HB; have HO103 := n0_; have HO108 := n1_; have HO111 := n2_; have HO114 := n3_; have HO120 := n4_; have HO125 := n5_; have HO131 := n6_; have HB := n7_; clear n0_ n1_ n2_ n3_ n4_ n5_ n6_ n7_; clear hb ho36; obtain ⟨Ao37, co37, eo37⟩ := Kd.R_slice HO108.out; subst eo37; obtain ⟨Ao38, co38, eo38⟩ := Kd.R_slice HO131.out; subst eo38) | (go_at_call 25; (with_reducible refine (trishawlaw03_same.calls k _ _ t104 _ _ y129 true _ ?side1 ?side2 ?side3 ?side4 A10.out).mono ?_); (case side1 => repeat (first | exact (Kd.R_reads' HO108.out).2.2 | (with_reducible refine Kd.C_alloc ?_ _) | (with_reducible refine Kd.C_drewN ?_ _) | (with_reducible refine Kd.C_drew ?_))); (case side2 => exact (Kd.R_reads' HO108.out).2.1); (case side3 => repeat (first | exact (Kd.R_reads' HO131.out).2.2 | (with_reducible refine Kd.C_alloc ?_ _) | (with_reducible refine Kd.C_drewN ?_ _) | (with_reducible refine Kd.C_drew ?_))); (case side4 => exact (Kd.R_reads' HO131.out).2.1); rintro e w' ⟨rfl, ⟨nd, rfl⟩⟩))
                      go_ret
                      exact ⟨by first | rfl | (simp [errW_none, errW_some] <;> rfl) | (simp [*, errW_none, errW_some] <;> rfl), by repeat (first | (with_reducible first | exact HB.out | apply below_alloc | apply pw_below_drewN | apply below_drew1) | exact HB.out)⟩
                    · rw [if_neg c19] at H
                      exact absurd ((Option.some.inj H).trans HRT.out) (by decide)
                  · rw [if_neg c18] at H
                    exact absurd ((Option.some.inj H).trans HRT.out) (by decide)
                · rw [if_neg c17] at H
                  exact absurd ((Option.some.inj H).trans HRT.out) (by decide)
              · rw [if_neg c16] at H
                exact absurd ((Option.some.inj H).trans HRT.out) (by decide)
            · rw [if_neg c15] at H
              exact absurd ((Option.some.inj H).trans HRT.out) (by decide)
          · replace c14 := Bool.eq_false_iff.mpr c14
            subst c14
            have H1 : (some false) = some r := by rw [if_neg (show ¬ (false = true) by decide)] at H; exact H
            exact absurd ((Option.some.inj H1).trans HRT.out) (by decide)
        · rw [if_neg c13] at H
          exact absurd ((Option.some.inj H).trans HRT.out) (by decide)
      · rw [if_neg c12] at H
        exact absurd ((Option.some.inj H).trans HRT.out) (by decide)
    · replace c11 := Bool.eq_false_iff.mpr c11
      subst c11
      have H1 : (some false) = some r := by rw [if_neg (show ¬ (false = true) by decide)] at H; exact H
      exact absurd ((Option.some.inj H1).trans HRT.out) (by decide)
  · rw [if_neg c9] at H
    exact absurd ((Option.some.inj H).trans HRT.out) (by decide)
end Go.Proofs.Ytpmadffgdfholaa.B
namespace Go.Proofs.Ytpmadffgdfholaa.B
open Go.RowKit Go.Proofs.YtpmadffgdfholaaW.PrintWords Go.Proofs.YtpmadffgdfholaaW.PrintLast Go.Proofs.YtpmadffgdfholaaW.PrintMore
attribute [local go_sem] max2_int min2_int max_two min_two max_three min_three max_four min_four   -- for this text's walks alone
set_option linter.unusedVariables false
set_option linter.unusedSimpArgs false
mutual
def trishawlaw03_BranchIs.j0 : Nat → Int → List (S30) → List Int → List (S41) → Bool → Option (Bool)
  | 0, _, _, _, _, _ => none
  | k + 1, x0, x1, x2, x3, x23 => if x23 = true then ((trishawlaw03_alive.f k).bind fun t102 => (some t102)) else ((branch_Is.f k x0 x1 x2).bind fun bt103 => ((trishawref03_Is.f k x0 x1 x2).bind fun bt106 => (if bt103.1 = bt106.1 then (if (bt103.2.1 != bt106.2.1) = true then (trishawlaw03_BranchIs.j1 k x0 x1 x3 true) else (trishawlaw03_BranchIs.j1 k x0 x1 x3 (bt103.2.2 != bt106.2.2))) else (trishawlaw03_BranchIs.j1 k x0 x1 x3 true))))
def trishawlaw03_BranchIs.j1 : Nat → Int → List (S30) → List (S41) → Bool → Option (Bool)
  | 0, _, _, _, _ => none
  | k + 1, x0, x1, x3, x53 => if x53 = true then (some false) else ((branch_Proves.f k x0 x1 x3).bind fun bt109 => ((trishawref03_Proves.f k x0 x1 x3).bind fun bt112 => (if bt109.1 = bt112.1 then (if (bt109.2.1 == bt112.2.1) = true then (if bt109.2.2 = bt112.2.2 then ((trishawlaw03_alive.f k).bind fun t115 => (some t115)) else (some false)) else (some false)) else (some false))))
end
def trishawlaw03_BranchIs.f (k : Nat) (a0 : Int) (l1 : List (S30)) (l2 : List Int) (l3 : List (S41)) : Option (Bool) := (trishawlaw03_few.f l1 l2).bind fun t101 => (if t101 = true then (trishawlaw03_BranchIs.j0 k a0 l1 l2 l3 (decide ((l3.length : Int) > 60))) else (trishawlaw03_BranchIs.j0 k a0 l1 l2 l3 true))
set_option maxHeartbeats 8000000 in
set_option maxRecDepth 100000 in
theorem trishawlaw03_BranchIs.calls (k : Nat) (a0 : Int) (A1 : Option Addr) (c1 : Nat) (l1 : List (S30)) (A2 : Option Addr) (c2 : Nat) (l2 : List Int) (A3 : Option Addr) (c3 : Nat) (l3 : List (S41)) (r : Bool) (w : World) (hr1 : Kd.C k30 w A1 l1.length l1) (hc1 : l1.length ≤ c1) (hr2 : Kd.C (Kd.int .i64) w A2 l2.length l2) (hc2 : l2.length ≤ c2) (hr3 : Kd.C k41 w A3 l3.length l3) (hc3 : l3.length ≤ c3) (h : trishawlaw03_BranchIs.f k a0 l1 l2 l3 = some r) :
    Calls Try.prog 9 #[.int .i64 a0, .slice A1 l1.length c1, .slice A2 l2.length c2, .slice A3 l3.length c3] w fun e w' => e = .returned (.bool r) ∧ Below w.heap.size w w' := by
  have HR1 := Aside0.mk hr1
  have HC1 := Aside0.mk hc1
  clear hr1 hc1
  have HR2 := Aside0.mk hr2
  have HC2 := Aside0.mk hc2
  clear hr2 hc2
  have HR3 := Aside0.mk hr3
  have HC3 := Aside0.mk hc3
  clear hr3 hc3
  have HB := Aside0.mk (Below.refl w.heap.size w)
  have H : ((trishawlaw03_few.f l1 l2).bind fun t101 => (if t101 = true then (trishawlaw03_BranchIs.j0 k a0 l1 l2 l3 (decide ((l3.length : Int) > 60))) else (trishawlaw03_BranchIs.j0 k a0 l1 l2 l3 true))) = some r := h
  clear h
  have HC5 := Aside0.mk H
  clear H
  go_enter Try.func9, Try.ntmps9
  go_upto_region 1 with (fail)
  go_cut [23] (fun v23 wc => ∃ (kq : Nat) (x23_4 : Bool), v23 = .bool x23_4 ∧ Aside0 (trishawlaw03_BranchIs.j0 kq a0 l1 l2 l3 x23_4 = some r) ∧ Aside0 (kq ≤ k) ∧ Aside0 (Below w.heap.size w wc))
  case first =>
    have H := HC5.out
    clear HC5
    replace H := Option.bind_eq_some_iff.mp H
    obtain ⟨t101, A60, H⟩ := H
    replace H : (if t101 = true then (trishawlaw03_BranchIs.j0 k a0 l1 l2 l3 (decide ((l3.length : Int) > 60))) else (trishawlaw03_BranchIs.j0 k a0 l1 l2 l3 true)) = some r := H
    have A6 := Aside0.mk A60
    clear A60
    by_cases c7 : t101 = true
    · subst c7
      have H1 : (trishawlaw03_BranchIs.j0 k a0 l1 l2 l3 (decide ((l3.length : Int) > 60))) = some r := by rw [if_pos rfl] at H; exact H
      clear H
      have H := H1
      clear H1
      have H' := Aside0.mk H
      clear H
      go_wp2_with (first | ((with_reducible refine gate_callee (f := 15) rfl ?_); refine goesL_ (some 17) rfl rfl Try.func15 (by kernel_rfl) rfl #[.slice A1 l1.length c1, .slice A2 l2.length c2] rfl (by (try simp only [List.map_toArray, List.map_cons, List.map_nil]); first | done | rfl | (simp only [List.length_drop, List.length_take]; rfl)) ?_; (with_reducible refine (trishawlaw03_few.calls _ _ l1 _ _ l2 true _ ?side1 ?side2 ?side3 ?side4 A6.out).mono ?_); (case side1 => repeat (first | exact (Kd.C_below HR1.out HB.out) | (with_reducible refine Kd.C_alloc ?_ _) | (with_reducible refine Kd.C_drewN ?_ _) | (with_reducible refine Kd.C_drew ?_))); (case side2 => exact HC1.out); (case side3 => repeat (first | exact (Kd.C_below HR2.out HB.out) | (with_reducible refine Kd.C_alloc ?_ _) | (with_reducible refine Kd.C_drewN ?_ _) | (with_reducible refine Kd.C_drew ?_))); (case side4 => exact HC2.out); rintro e w' ⟨rfl, ⟨nd, rfl⟩⟩; refine ⟨_, rfl, ?_⟩))
      go_meet
      case rel => exact ⟨_, (decide ((l3.length : Int) > 60)), (by first | rfl | (simp; done) | (simp [*]; done)), H', ⟨by first | omega | exact Nat.le_refl _⟩, ⟨by repeat (first | (with_reducible first | exact HB.out | apply below_alloc | apply pw_below_drewN | apply below_drew1) | exact HB.out)⟩⟩
    · replace c7 := Bool.eq_false_iff.mpr c7
      subst c7
      have H1 : (trishawlaw03_BranchIs.j0 k a0 l1 l2 l3 true) = some r := by rw [if_neg (show ¬ (false = true) by decide)] at H; exact H
      clear H
      have H := H1
      clear H1
      have H' := Aside0.mk H
      clear H
      go_wp2_with (first | ((with_reducible refine gate_callee (f := 15) rfl ?_); refine goesL_ (some 17) rfl rfl Try.func15 (by kernel_rfl) rfl #[.slice A1 l1.length c1, .slice A2 l2.length c2] rfl (by (try simp only [List.map_toArray, List.map_cons, List.map_nil]); first | done | rfl | (simp only [List.length_drop, List.length_take]; rfl)) ?_; (with_reducible refine (trishawlaw03_few.calls _ _ l1 _ _ l2 false _ ?side1 ?side2 ?side3 ?side4 A6.out).mono ?_); (case side1 => repeat (first | exact (Kd.C_below HR1.out HB.out) | (with_reducible refine Kd.C_alloc ?_ _) | (with_reducible refine Kd.C_drewN ?_ _) | (with_reducible refine Kd.C_drew ?_))); (case side2 => exact HC1.out); (case side3 => repeat (first | exact (Kd.C_below HR2.out HB.out) | (with_reducible refine Kd.C_alloc ?_ _) | (with_reducible refine Kd.C_drewN ?_ _) | (with_reducible refine Kd.C_drew ?_))); (case side4 => exact HC2.out); rintro e w' ⟨rfl, ⟨nd, rfl⟩⟩; refine ⟨_, rfl, ?_⟩))
      go_meet
      case rel => exact ⟨_, (true), (by first | rfl | (simp; done) | (simp [*]; done)), H', ⟨by first | omega | exact Nat.le_refl _⟩, ⟨by repeat (first | (with_reducible first | exact HB.out | apply below_alloc | apply pw_below_drewN | apply below_drew1) | exact HB.out)⟩⟩
  case rest =>
    clear HC5
    try clear c1
    try clear c2
    try clear p2
    try clear c3
    try clear c7
    obtain ⟨kq, x23_4, rfl, HA, HJ4, HB⟩ := hcut
    cases kq with
    | zero => exact absurd HA.out (by simp [trishawlaw03_BranchIs.j0])
    | succ kj4 =>
      have H := HA.out
      clear HA
      simp only [trishawlaw03_BranchIs.j0] at H
      by_cases c8 : x23_4 = true
      · subst c8
        have H1 : ((trishawlaw03_alive.f kj4).bind fun t102 => (some t102)) = some r := by rw [if_pos rfl] at H; exact H
        clear H
        have H := H1
        clear H1
        replace H := Option.bind_eq_some_iff.mp H
        obtain ⟨t102, A90, H⟩ := H
        replace H : (some t102) = some r := H
        have A9 := Aside0.mk A90
        clear A90
        obtain rfl := Option.some.inj H
        go_wp2_with (first | ((with_reducible refine gate_callee (f := 17) rfl ?_); refine goesL_ (some 24) rfl rfl Try.func17 (by kernel_rfl) rfl #[] rfl (by (try simp only [List.map_toArray, List.map_cons, List.map_nil]); first | done | rfl | (simp only [List.length_drop, List.length_take]; rfl)) ?_; (with_reducible refine (trishawlaw03_alive.calls kj4  t102 _ A9.out).mono ?_); rintro e w10 ⟨rfl, hb⟩; refine ⟨_, rfl, ?_⟩; have n0_ := Aside0.mk (below_step (by repeat (first | (with_reducible first | exact HB.out | apply below_alloc | apply pw_below_drewN | apply below_drew1) | exact HB.out)) hb); clear HB; have HB := n0_; clear n0_; (try clear hb); (try clear hb2); (try clear hk); (try clear hi)))
        go_ret
        exact ⟨by first | rfl | (simp [errW_none, errW_some] <;> rfl) | (simp [*, errW_none, errW_some] <;> rfl), by repeat (first | (with_reducible first | exact HB.out | apply below_alloc | apply pw_below_drewN | apply below_drew1) | exact HB.out)⟩
      · replace c8 := Bool.eq_false_iff.mpr c8
        subst c8
        have H1 : ((branch_Is.f kj4 a0 l1 l2).bind fun bt103 => ((trishawref03_Is.f kj4 a0 l1 l2).bind fun bt106 => (if bt103.1 = bt106.1 then (if (bt103.2.1 != bt106.2.1) = true then (trishawlaw03_BranchIs.j1 kj4 a0 l1 l3 true) else (trishawlaw03_BranchIs.j1 kj4 a0 l1 l3 (bt103.2.2 != bt106.2.2))) else (trishawlaw03_BranchIs.j1 kj4 a0 l1 l3 true)))) = some r := by rw [if_neg (show ¬ (false = true) by decide)] at H; exact H
        clear H
        have H := H1
        clear H1
        replace H := Option.bind_eq_some_iff.mp H
        obtain ⟨⟨t103, t104, t105⟩, A110, H⟩ := H
        replace H : ((trishawref03_Is.f kj4 a0 l1 l2).bind fun bt106 => (if t103 = bt106.1 then (if (t104 != bt106.2.1) = true then (trishawlaw03_BranchIs.j1 kj4 a0 l1 l3 true) else (trishawlaw03_BranchIs.j1 kj4 a0 l1 l3 (t105 != bt106.2.2))) else (trishawlaw03_BranchIs.j1 kj4 a0 l1 l3 true))) = some r := H
        have A11 := Aside0.mk A110
        clear A110
        replace H := Option.bind_eq_some_iff.mp H
        obtain ⟨⟨t106, t107, t108⟩, A120, H⟩ := H
        replace H : (if t103 = t106 then (if (t104 != t107) = true then (trishawlaw03_BranchIs.j1 kj4 a0 l1 l3 true) else (trishawlaw03_BranchIs.j1 kj4 a0 l1 l3 (t105 != t108))) else (trishawlaw03_BranchIs.j1 kj4 a0 l1 l3 true)) = some r := H
        have A12 := Aside0.mk A120
        clear A120
        have HC13 := Aside0.mk H
        clear H
        go_upto_region 5 with (first | ((with_reducible refine gate_callee (f := 35) rfl ?_); refine goesL_ (some 29) rfl rfl Try.func35 (by kernel_rfl) rfl #[.int .i64 a0, .slice A1 l1.length c1, .slice A2 l2.length c2] rfl (by (try simp only [List.map_toArray, List.map_cons, List.map_nil]); first | done | rfl | (simp only [List.length_drop, List.length_take]; rfl)) ?_; (with_reducible refine (branch_Is.calls kj4 a0 _ _ l1 _ _ l2 t103 t104 t105 _ ?side1 ?side2 ?side3 ?side4 A11.out).mono ?_); (case side1 => repeat (first | exact (Kd.C_below HR1.out HB.out) | (with_reducible refine Kd.C_alloc ?_ _) | (with_reducible refine Kd.C_drewN ?_ _) | (with_reducible refine Kd.C_drew ?_))); (case side2 => exact HC1.out); (case side3 => repeat (first | exact (Kd.C_below HR2.out HB.out) | (with_reducible refine Kd.C_alloc ?_ _) | (with_reducible refine Kd.C_drewN ?_ _) | (with_reducible refine Kd.C_drew ?_))); (case side4 => exact HC2.out); rintro e w14 ⟨rfl, hb⟩; refine ⟨_, rfl, ?_⟩; have n0_ := Aside0.mk (below_step (by repeat (first | (with_reducible first | exact HB.out | apply below_alloc | apply pw_below_drewN | apply below_drew1) | exact HB.out)) hb); clear HB; have HB := n0_; clear n0_; (try clear hb); (try clear hb2); (try clear hk); (try clear hi)) | ((with_reducible refine gate_callee (f := 36) rfl ?_); refine goesL_ (some 37) rfl rfl Try.func36 (by kernel_rfl) rfl #[.int .i64 a0, .slice A1 l1.length c1, .slice A2 l2.length c2] rfl (by (try simp only [List.map_toArray, List.map_cons, List.map_nil]); first | done | rfl | (simp only [List.length_drop, List.length_take]; rfl)) ?_; (with_reducible refine (trishawref03_Is.calls kj4 a0 _ _ l1 _ _ l2 t106 t107 t108 _ ?side1 ?side2 ?side3 ?side4 A12.out).mono ?_); (case side1 => repeat (first | exact (Kd.C_below HR1.out HB.out) | (with_reducible refine Kd.C_alloc ?_ _) | (with_reducible refine Kd.C_drewN ?_ _) | (with_reducible refine Kd.C_drew ?_))); (case side2 => exact HC1.out); (case side3 => repeat (first | exact (Kd.C_below HR2.out HB.out) | (with_reducible refine Kd.C_alloc ?_ _) | (with_reducible refine Kd.C_drewN ?_ _) | (with_reducible refine Kd.C_drew ?_))); (case side4 => exact HC2.out); rintro e w15 ⟨rfl, hb⟩; refine ⟨_, rfl, ?_⟩; have n0_ := Aside0.mk (below_step (by repeat (first | (with_reducible first | exact HB.out | apply below_alloc | apply pw_below_drewN | apply below_drew1) | exact HB.out)) hb); clear HB; have HB := n0_; clear n0_; (try clear hb); (try clear hb2); (try clear hk); (try clear hi)))
        (try simp only [Act.put, List.setIfInBounds_toArray, List.set_cons_zero, List.set_cons_succ])
        go_cut [53] (fun v53 wc => ∃ (kq : Nat) (x53_12 : Bool), v53 = .bool x53_12 ∧ Aside0 (trishawlaw03_BranchIs.j1 kq a0 l1 l3 x53_12 = some r) ∧ Aside0 (kq ≤ kj4) ∧ Aside0 (Below w.heap.size w wc))
        case first =>
          have H := HC13.out
          clear HC13
          by_cases c16 : t103 = t106
          · rw [if_pos c16] at H
            have c16b0 : (t103 == t106) = true := beq_iff_eq.mpr c16
            have c16b1 : (t103 != t106) = false := bne_eq_false_iff_eq.mpr c16
            clear c16
            (first | rw [c16b0] | (simp only [i64_w, i32_w]; rw [c16b0]) | skip)
            by_cases c17 : (t104 != t107) = true
            · rw [if_pos c17] at H
              have c17b0 : (t104 != t107) = true := c17
              (try (have c17b1 : decide (t104 = t107) = false := by simpa using c17))
              (try (have c17b2 : (t104 == t107) = false := by simpa using c17))
              (try (have c17b3 : ¬ (t104 = t107) := by simpa using c17))
              clear c17
              have H' := Aside0.mk H
              clear H
              go_wp2
              go_meet
              case rel => exact ⟨_, (true), (by first | rfl | (simp; done) | (simp [*]; done)), H', ⟨by have := HJ4.out; first | omega | exact Nat.le_refl _⟩, ⟨by repeat (first | (with_reducible first | exact HB.out | apply below_alloc | apply pw_below_drewN | apply below_drew1) | exact HB.out)⟩⟩
            · rw [if_neg c17] at H
              have c17b0 : (t104 != t107) = false := by simpa using c17
              (try (have c17b1 : decide (t104 = t107) = true := by simpa using c17))
              (try (have c17b2 : (t104 == t107) = true := by simpa using c17))
              clear c17
              have H' := Aside0.mk H
              clear H
              go_wp2
              go_meet
              case rel => exact ⟨_, ((t105 != t108)), (by first | rfl | (simp; done) | (simp [*]; done)), H', ⟨by have := HJ4.out; first | omega | exact Nat.le_refl _⟩, ⟨by repeat (first | (with_reducible first | exact HB.out | apply below_alloc | apply pw_below_drewN | apply below_drew1) | exact HB.out)⟩⟩
          · rw [if_neg c16] at H
            have c16b0 : (t103 == t106) = false := beq_eq_false_iff_ne.mpr c16
            have c16b1 : (t103 != t106) = true := bne_iff_ne.mpr c16
            (first | rw [c16b0] | (simp only [i64_w, i32_w]; rw [c16b0]) | skip)
            have H' := Aside0.mk H
            clear H
            go_wp2
            go_meet
            case rel => exact ⟨_, (true), (by first | rfl | (simp; done) | (simp [*]; done)), H', ⟨by have := HJ4.out; first | omega | exact Nat.le_refl _⟩, ⟨by repeat (first | (with_reducible first | exact HB.out | apply below_alloc | apply pw_below_drewN | apply below_drew1) | exact HB.out)⟩⟩
        case rest =>
          clear HC13
          try clear c1
          try clear c2
          try clear p2
          try clear c3
          try clear c7
          try clear c8
          try clear c9
          try clear c15
          try clear c16
          try clear c16b0
          try clear c16b1
          try clear c17
          try clear c17b0
          try clear c17b1
          try clear c17b2
          try clear p2
          obtain ⟨kq, x53_12, rfl, HA, HJ12, HB⟩ := hcut
          cases kq with
          | zero => exact absurd HA.out (by simp [trishawlaw03_BranchIs.j1])
          | succ kj12 =>
            have H := HA.out
            clear HA
            simp only [trishawlaw03_BranchIs.j1] at H
            by_cases c18 : x53_12 = true
            · subst c18
              have H1 : (some false) = some r := by rw [if_pos rfl] at H; exact H
              clear H
              have H := H1
              clear H1
              obtain rfl := Option.some.inj H
              go_wp2
              go_ret
              exact ⟨by first | rfl | (simp [errW_none, errW_some] <;> rfl) | (simp [*, errW_none, errW_some] <;> rfl), by repeat (first | (with_reducible first | exact HB.out | apply below_alloc | apply pw_below_drewN | apply below_drew1) | exact HB.out)⟩
            · replace c18 := Bool.eq_false_iff.mpr c18
              subst c18
              have H1 : ((branch_Proves.f kj12 a0 l1 l3).bind fun bt109 => ((trishawref03_Proves.f kj12 a0 l1 l3).bind fun bt112 => (if bt109.1 = bt112.1 then (if (bt109.2.1 == bt112.2.1) = true then (if bt109.2.2 = bt112.2.2 then ((trishawlaw03_alive.f kj12).bind fun t115 => (some t115)) else (some false)) else (some false)) else (some false)))) = some r := by rw [if_neg (show ¬ (false = true) by decide)] at H; exact H
              clear H
              have H := H1
              clear H1
              replace H := Option.bind_eq_some_iff.mp H
              obtain ⟨⟨t109, t110, t111⟩, A190, H⟩ := H
              replace H : ((trishawref03_Proves.f kj12 a0 l1 l3).bind fun bt112 => (if t109 = bt112.1 then (if (t110 == bt112.2.1) = true then (if t111 = bt112.2.2 then ((trishawlaw03_alive.f kj12).bind fun t115 => (some t115)) else (some false)) else (some false)) else (some false))) = some r := H
              have A19 := Aside0.mk A190
              clear A190
              replace H := Option.bind_eq_some_iff.mp H
              obtain ⟨⟨t112, t113, t114⟩, A200, H⟩ := H
              replace H : (if t109 = t112 then (if (t110 == t113) = true then (if t111 = t114 then ((trishawlaw03_alive.f kj12).bind fun t115 => (some t115)) else (some false)) else (some false)) else (some false)) = some r := H
              have A20 := Aside0.mk A200
              clear A200
              by_cases c21 : t109 = t112
              · rw [if_pos c21] at H
                have c21b0 : (t109 == t112) = true := beq_iff_eq.mpr c21
                have c21b1 : (t109 != t112) = false := bne_eq_false_iff_eq.mpr c21
                clear c21
                by_cases c22 : (t110 == t113) = true
                · rw [if_pos c22] at H
                  have c22b0 : (t110 == t113) = true := c22
                  (try (have c22b1 : decide (t110 = t113) = true := by simpa using c22))
                  (try (have c22b2 : (t110 == t113) = true := by simpa using c22))
                  clear c22
                  by_cases c23 : t111 = t114
                  · rw [if_pos c23] at H
                    have c23b0 : (t111 == t114) = true := beq_iff_eq.mpr c23
                    have c23b1 : (t111 != t114) = false := bne_eq_false_iff_eq.mpr c23
                    clear c23
                    replace H := Option.bind_eq_some_iff.mp H
                    obtain ⟨t115, A240, H⟩ := H
                    replace H : (some t115) = some r := H
                    have A24 := Aside0.mk A240
                    clear A240
                    obtain rfl := Option.some.inj H
                    go_wp2_with (first | ((with_reducible refine gate_callee (f := 37) rfl ?_); refine goesL_ (some 58) rfl rfl Try.func37 (by kernel_rfl) rfl #[.int .i64 a0, .slice A1 l1.length c1, .slice A3 l3.length c3] rfl (by (try simp only [List.map_toArray, List.map_cons, List.map_nil]); first | done | rfl | (simp only [List.length_drop, List.length_take]; rfl)) ?_; (with_reducible refine (branch_Proves.calls kj12 a0 _ _ l1 _ _ l3 t109 t110 t111 _ ?side1 ?side2 ?side3 ?side4 A19.out).mono ?_); (case side1 => repeat (first | exact (Kd.C_below HR1.out HB.out) | (with_reducible refine Kd.C_alloc ?_ _) | (with_reducible refine Kd.C_drewN ?_ _) | (with_reducible refine Kd.C_drew ?_))); (case side2 => exact HC1.out); (case side3 => repeat (first | exact (Kd.C_below HR3.out HB.out) | (with_reducible refine Kd.C_alloc ?_ _) | (with_reducible refine Kd.C_drewN ?_ _) | (with_reducible refine Kd.C_drew ?_))); (case side4 => exact HC3.out); rintro e w25 ⟨rfl, hb⟩; refine ⟨_, rfl, ?_⟩; have n0_ := Aside0.mk (below_step (by repeat (first | (with_reducible first | exact HB.out | apply below_alloc | apply pw_below_drewN | apply below_drew1) | exact HB.out)) hb); clear HB; have HB := n0_; clear n0_; (try clear hb); (try clear hb2); (try clear hk); (try clear hi)) | ((with_reducible refine gate_callee (f := 23) rfl ?_); refine goesL_ (some 66) rfl rfl Try.func23 (by kernel_rfl) rfl #[.int .i64 a0, .slice A1 l1.length c1, .slice A3 l3.length c3] rfl (by (try simp only [List.map_toArray, List.map_cons, List.map_nil]); first | done | rfl | (simp only [List.length_drop, List.length_take]; rfl)) ?_; (with_reducible refine (trishawref03_Proves.calls kj12 a0 _ _ l1 _ _ l3 t112 t113 t114 _ ?side1 ?side2 ?side3 ?side4 A20.out).mono ?_); (case side1 => repeat (first | exact (Kd.C_below HR1.out HB.out) | (with_reducible refine Kd.C_alloc ?_ _) | (with_reducible refine Kd.C_drewN ?_ _) | (with_reducible refine Kd.C_drew ?_))); (case side2 => exact HC1.out); (case side3 => repeat (first | exact (Kd.C_below HR3.out HB.out) | (with_reducible refine Kd.C_alloc ?_ _) | (with_reducible refine Kd.C_drewN ?_ _) | (with_reducible refine Kd.C_drew ?_))); (case side4 => exact HC3.out); rintro e w26 ⟨rfl, hb⟩; refine ⟨_, rfl, ?_⟩; have n0_ := Aside0.mk (below_step (by repeat (first | (with_reducible first | exact HB.out | apply below_alloc | apply pw_below_drewN | apply below_drew1) | exact HB.out)) hb); clear HB; have HB := n0_; clear n0_; (try clear hb); (try clear hb2); (try clear hk); (try clear hi)) | (go_at_call 17; (with_reducible refine (trishawlaw03_alive.calls kj12  t115 _ A24.out).mono ?_); rintro e w27 ⟨rfl, hb⟩; have n0_ := Aside0.mk (below_step (by repeat (first | (with_reducible first | exact HB.out | apply below_alloc | apply pw_below_drewN | apply below_drew1) | exact HB.out)) hb); clear HB; have HB := n0_; clear n0_; (try clear hb); (try clear hb2); (try clear hk); (try clear hi)))
                    go_ret
                    exact ⟨by first | rfl | (simp [errW_none, errW_some] <;> rfl) | (simp [*, errW_none, errW_some] <;> rfl), by repeat (first | (with_reducible first | exact HB.out | apply below_alloc | apply pw_below_drewN | apply below_drew1) | exact HB.out)⟩
                  · rw [if_neg c23] at H
                    have c23b0 : (t111 == t114) = false := beq_eq_false_iff_ne.mpr c23
                    have c23b1 : (t111 != t114) = true := bne_iff_ne.mpr c23
                    obtain rfl := Option.some.inj H
                    go_wp2_with (first | ((with_reducible refine gate_callee (f := 37) rfl ?_); refine goesL_ (some 58) rfl rfl Try.func37 (by kernel_rfl) rfl #[.int .i64 a0, .slice A1 l1.length c1, .slice A3 l3.length c3] rfl (by (try simp only [List.map_toArray, List.map_cons, List.map_nil]); first | done | rfl | (simp only [List.length_drop, List.length_take]; rfl)) ?_; (with_reducible refine (branch_Proves.calls kj12 a0 _ _ l1 _ _ l3 t109 t110 t111 _ ?side1 ?side2 ?side3 ?side4 A19.out).mono ?_); (case side1 => repeat (first | exact (Kd.C_below HR1.out HB.out) | (with_reducible refine Kd.C_alloc ?_ _) | (with_reducible refine Kd.C_drewN ?_ _) | (with_reducible refine Kd.C_drew ?_))); (case side2 => exact HC1.out); (case side3 => repeat (first | exact (Kd.C_below HR3.out HB.out) | (with_reducible refine Kd.C_alloc ?_ _) | (with_reducible refine Kd.C_drewN ?_ _) | (with_reducible refine Kd.C_drew ?_))); (case side4 => exact HC3.out); rintro e w28 ⟨rfl, hb⟩; refine ⟨_, rfl, ?_⟩; have n0_ := Aside0.mk (below_step (by repeat (first | (with_reducible first | exact HB.out | apply below_alloc | apply pw_below_drewN | apply below_drew1) | exact HB.out)) hb); clear HB; have HB := n0_; clear n0_; (try clear hb); (try clear hb2); (try clear hk); (try clear hi)) | ((with_reducible refine gate_callee (f := 23) rfl ?_); refine goesL_ (some 66) rfl rfl Try.func23 (by kernel_rfl) rfl #[.int .i64 a0, .slice A1 l1.length c1, .slice A3 l3.length c3] rfl (by (try simp only [List.map_toArray, List.map_cons, List.map_nil]); first | done | rfl | (simp only [List.length_drop, List.length_take]; rfl)) ?_; (with_reducible refine (trishawref03_Proves.calls kj12 a0 _ _ l1 _ _ l3 t112 t113 t114 _ ?side1 ?side2 ?side3 ?side4 A20.out).mono ?_); (case side1 => repeat (first | exact (Kd.C_below HR1.out HB.out) | (with_reducible refine Kd.C_alloc ?_ _) | (with_reducible refine Kd.C_drewN ?_ _) | (with_reducible refine Kd.C_drew ?_))); (case side2 => exact HC1.out); (case side3 => repeat (first | exact (Kd.C_below HR3.out HB.out) | (with_reducible refine Kd.C_alloc ?_ _) | (with_reducible refine Kd.C_drewN ?_ _) | (with_reducible refine Kd.C_drew ?_))); (case side4 => exact HC3.out); rintro e w29 ⟨rfl, hb⟩; refine ⟨_, rfl, ?_⟩; have n0_ := Aside0.mk (below_step (by repeat (first | (with_reducible first | exact HB.out | apply below_alloc | apply pw_below_drewN | apply below_drew1) | exact HB.out)) hb); clear HB; have HB := n0_; clear n0_; (try clear hb); (try clear hb2); (try clear hk); (try clear hi)))
                    go_ret
                    exact ⟨by first | rfl | (simp [errW_none, errW_some] <;> rfl) | (simp [*, errW_none, errW_some] <;> rfl), by repeat (first | (with_reducible first | exact HB.out | apply below_alloc | apply pw_below_drewN | apply below_drew1) | exact HB.out)⟩
                · rw [if_neg c22] at H
                  have c22b0 : (t110 == t113) = false := by simpa using c22
                  (try (have c22b1 : decide (t110 = t113) = false := by simpa using c22))
                  (try (have c22b2 : (t110 == t113) = false := by simpa using c22))
                  (try (have c22b3 : ¬ (t110 = t113) := by simpa using c22))
                  clear c22
                  obtain rfl := Option.some.inj H
                  go_wp2_with (first | ((with_reducible refine gate_callee (f := 37) rfl ?_); refine goesL_ (some 58) rfl rfl Try.func37 (by kernel_rfl) rfl #[.int .i64 a0, .slice A1 l1.length c1, .slice A3 l3.length c3] rfl (by (try simp only [List.map_toArray, List.map_cons, List.map_nil]); first | done | rfl | (simp only [List.length_drop, List.length_take]; rfl)) ?_; (with_reducible refine (branch_Proves.calls kj12 a0 _ _ l1 _ _ l3 t109 t110 t111 _ ?side1 ?side2 ?side3 ?side4 A19.out).mono ?_); (case side1 => repeat (first | exact (Kd.C_below HR1.out HB.out) | (with_reducible refine Kd.C_alloc ?_ _) | (with_reducible refine Kd.C_drewN ?_ _) | (with_reducible refine Kd.C_drew ?_))); (case side2 => exact HC1.out); (case side3 => repeat (first | exact (Kd.C_below HR3.out HB.out) | (with_reducible refine Kd.C_alloc ?_ _) | (with_reducible refine Kd.C_drewN ?_ _) | (with_reducible refine Kd.C_drew ?_))); (case side4 => exact HC3.out); rintro e w30 ⟨rfl, hb⟩; refine ⟨_, rfl, ?_⟩; have n0_ := Aside0.mk (below_step (by repeat (first | (with_reducible first | exact HB.out | apply below_alloc | apply pw_below_drewN | apply below_drew1) | exact HB.out)) hb); clear HB; have HB := n0_; clear n0_; (try clear hb); (try clear hb2); (try clear hk); (try clear hi)) | ((with_reducible refine gate_callee (f := 23) rfl ?_); refine goesL_ (some 66) rfl rfl Try.func23 (by kernel_rfl) rfl #[.int .i64 a0, .slice A1 l1.length c1, .slice A3 l3.length c3] rfl (by (try simp only [List.map_toArray, List.map_cons, List.map_nil]); first | done | rfl | (simp only [List.length_drop, List.length_take]; rfl)) ?_; (with_reducible refine (trishawref03_Proves.calls kj12 a0 _ _ l1 _ _ l3 t112 t113 t114 _ ?side1 ?side2 ?side3 ?side4 A20.out).mono ?_); (case side1 => repeat (first | exact (Kd.C_below HR1.out HB.out) | (with_reducible refine Kd.C_alloc ?_ _) | (with_reducible refine Kd.C_drewN ?_ _) | (with_reducible refine Kd.C_drew ?_))); (case side2 => exact HC1.out); (case side3 => repeat (first | exact (Kd.C_below HR3.out HB.out) | (with_reducible refine Kd.C_alloc ?_ _) | (with_reducible refine Kd.C_drewN ?_ _) | (with_reducible refine Kd.C_drew ?_))); (case side4 => exact HC3.out); rintro e w31 ⟨rfl, hb⟩; refine ⟨_, rfl, ?_⟩; have n0_ := Aside0.mk (below_step (by repeat (first | (with_reducible first | exact HB.out | apply below_alloc | apply pw_below_drewN | apply below_drew1) | exact HB.out)) hb); clear HB; have HB := n0_; clear n0_; (try clear hb); (try clear hb2); (try clear hk); (try clear hi)))
                  go_ret
                  exact ⟨by first | rfl | (simp [errW_none, errW_some] <;> rfl) | (simp [*, errW_none, errW_some] <;> rfl), by repeat (first | (with_reducible first | exact HB.out | apply below_alloc | apply pw_below_drewN | apply below_drew1) | exact HB.out)⟩
              · rw [if_neg c21] at H
                have c21b0 : (t109 == t112) = false := beq_eq_false_iff_ne.mpr c21
                have c21b1 : (t109 != t112) = true := bne_iff_ne.mpr c21
                obtain rfl := Option.some.inj H
                go_wp2_with (first | ((with_reducible refine gate_callee (f := 37) rfl ?_); refine goesL_ (some 58) rfl rfl Try.func37 (by kernel_rfl) rfl #[.int .i64 a0, .slice A1 l1.length c1, .slice A3 l3.length c3] rfl (by (try simp only [List.map_toArray, List.map_cons, List.map_nil]); first | done | rfl | (simp only [List.length_drop, List.length_take]; rfl)) ?_; (with_reducible refine (branch_Proves.calls kj12 a0 _ _ l1 _ _ l3 t109 t110 t111 _ ?side1 ?side2 ?side3 ?side4 A19.out).mono ?_); (case side1 => repeat (first | exact (Kd.C_below HR1.out HB.out) | (with_reducible refine Kd.C_alloc ?_ _) | (with_reducible refine Kd.C_drewN ?_ _) | (with_reducible refine Kd.C_drew ?_))); (case side2 => exact HC1.out); (case side3 => repeat (first | exact (Kd.C_below HR3.out HB.out) | (with_reducible refine Kd.C_alloc ?_ _) | (with_reducible refine Kd.C_drewN ?_ _) | (with_reducible refine Kd.C_drew ?_))); (case side4 => exact HC3.out); rintro e w32 ⟨rfl, hb⟩; refine ⟨_, rfl, ?_⟩; have n0_ := Aside0.mk (below_step (by repeat (first | (with_reducible first | exact HB.out | apply below_alloc | apply pw_below_drewN | apply below_drew1) | exact HB.out)) hb); clear HB; have HB := n0_; clear n0_; (try clear hb); (try clear hb2); (try clear hk); (try clear hi)) | ((with_reducible refine gate_callee (f := 23) rfl ?_); refine goesL_ (some 66) rfl rfl Try.func23 (by kernel_rfl) rfl #[.int .i64 a0, .slice A1 l1.length c1, .slice A3 l3.length c3] rfl (by (try simp only [List.map_toArray, List.map_cons, List.map_nil]); first | done | rfl | (simp only [List.length_drop, List.length_take]; rfl)) ?_; (with_reducible refine (trishawref03_Proves.calls kj12 a0 _ _ l1 _ _ l3 t112 t113 t114 _ ?side1 ?side2 ?side3 ?side4 A20.out).mono ?_); (case side1 => repeat (first | exact (Kd.C_below HR1.out HB.out) | (with_reducible refine Kd.C_alloc ?_ _) | (with_reducible refine Kd.C_drewN ?_ _) | (with_reducible refine Kd.C_drew ?_))); (case side2 => exact HC1.out); (case side3 => repeat (first | exact (Kd.C_below HR3.out HB.out) | (with_reducible refine Kd.C_alloc ?_ _) | (with_reducible refine Kd.C_drewN ?_ _) | (with_reducible refine Kd.C_drew ?_))); (case side4 => exact HC3.out); rintro e w33 ⟨rfl, hb⟩; refine ⟨_, rfl, ?_⟩; have n0_ := Aside0.mk (below_step (by repeat (first | (with_reducible first | exact HB.out | apply below_alloc | apply pw_below_drewN | apply below_drew1) | exact HB.out)) hb); clear HB; have HB := n0_; clear n0_; (try clear hb); (try clear hb2); (try clear hk); (try clear hi)))
                go_ret
                exact ⟨by first | rfl | (simp [errW_none, errW_some] <;> rfl) | (simp [*, errW_none, errW_some] <;> rfl), by repeat (first | (with_reducible first | exact HB.out | apply below_alloc | apply pw_below_drewN | apply below_drew1) | exact HB.out)⟩
end Go.Proofs.Ytpmadffgdfholaa.B
namespace Go.Proofs.Ytpmadffgdfholaa.B
open Go.RowKit Go.ChangeShapes Go.WideShapes Go.Deep Go.Proofs.YtpmadffgdfholaaW.PrintWords Go.Proofs.YtpmadffgdfholaaW.PrintLast Go.Proofs.YtpmadffgdfholaaW.PrintMore
/-- A street's three numbers are whole numbers of 64 bits. -/
def okS30 (x : S30) : Prop := (Lit.int .i64 x.f0).wf = true ∧ (Lit.int .i64 x.f1).wf = true ∧ (Lit.int .i64 x.f2).wf = true
section
variable {H : Type} {enc : TypeId × Value → H} {w : World} {spare : Nat → Bool} {held : Bool}
set_option maxRecDepth 100000 in
theorem open_way {fuel : Nat} {cs : List Value} {x : DataW H × List MemPlace} (h : DataW.trod enc Try.prog w 0 spare held fuel 30 cs = some x) : ∃ s : S30, cs = [.int .i64 s.f0, .int .i64 s.f1, .int .i64 s.f2] ∧ okS30 s := by
  obtain ⟨xs, n, _, _, hlen, hxl, hf⟩ := DataW.trod_struct Try.underlying30 h
  have h30 : Try.prog.cellsOf 30 = 3 := by kernel_rfl
  have h3 : Try.prog.cellsOf 3 = 1 := by kernel_rfl
  rw [h30] at hlen
  match cs, hlen with
  | [c0, c1, c2], _ =>
    have hsz : xs.length = 3 := hxl
    match xs, hsz with
    | [y0, y1, y2], _ =>
      have g0 : DataW.trod enc Try.prog w 0 spare held n 3 (([c0, c1, c2].drop 0).take (Try.prog.cellsOf 3)) = some y0 := hf 0 _ rfl
      have g1 : DataW.trod enc Try.prog w 0 spare held n 3 (([c0, c1, c2].drop 1).take (Try.prog.cellsOf 3)) = some y1 := hf 1 _ rfl
      have g2 : DataW.trod enc Try.prog w 0 spare held n 3 (([c0, c1, c2].drop 2).take (Try.prog.cellsOf 3)) = some y2 := hf 2 _ rfl
      rw [h3] at g0 g1 g2
      obtain ⟨n0, e0, _, w0⟩ := DataW.trod_int Try.underlying3 g0
      obtain ⟨n1, e1, _, w1⟩ := DataW.trod_int Try.underlying3 g1
      obtain ⟨n2, e2, _, w2⟩ := DataW.trod_int Try.underlying3 g2
      obtain rfl : c0 = .int .i64 n0 := by injection e0
      obtain rfl : c1 = .int .i64 n1 := by injection e1
      obtain rfl : c2 = .int .i64 n2 := by injection e2
      exact ⟨⟨n0, n1, n2⟩, rfl, w0, w1, w2⟩
theorem open_ways {a : Option Addr} {len cap : Nat} {d : DataW H} {p : List MemPlace} (h : DataW.Trod enc Try.prog w 0 spare held 22 (.slice a len cap) d p) :
    ∃ l : List S30, Kd.C k30 w a l.length l ∧ l.length = len ∧ len ≤ cap ∧ cap ≤ maxLen ∧ ∀ x ∈ l, okS30 x := by
  obtain ⟨fuel, hf⟩ := h
  rcases open_slice Try.underlying22 hf with ⟨hcs, _⟩ | ⟨x, l, c, m, n, D, Pl, hcs, _, hl, hm, hmm, _, hi⟩
  · simp [Value.cells] at hcs
    obtain ⟨rfl, rfl, rfl⟩ := hcs
    exact ⟨[], ⟨rfl, by simp, fun h => absurd h (by simp)⟩, rfl, Nat.le_refl _, by simp, by simp⟩
  · simp [Value.cells] at hcs
    obtain ⟨rfl, rfl, rfl⟩ := hcs
    have hlm : len ≤ m := by rw [hmm]; split <;> omega
    have h30 : Try.prog.cellsOf 30 = 3 := by kernel_rfl
    rw [h30] at hi
    have hex : ∀ i : Nat, ∃ s : S30, i < len → okS30 s ∧ w.cells? 0 (x.add (i * 3)) 3 = some [.int .i64 s.f0, .int .i64 s.f1, .int .i64 s.f2] := by
      intro i
      by_cases h : i < len
      · obtain ⟨cs', hc, ht⟩ := hi i (by omega)
        obtain ⟨s, rfl, hs⟩ := open_way ht
        exact ⟨s, fun _ => ⟨hs, hc⟩⟩
      · exact ⟨z30, fun h' => absurd h' h⟩
    obtain ⟨f, hf⟩ := Classical.axiomOfChoice hex
    have hll : ((List.range len).map f).length = len := by simp
    refine ⟨(List.range len).map f, ⟨rfl, by rw [hll]; simp only [maxLen] at hm; omega, fun _ => ⟨x, rfl, fun j p hj => ?_⟩⟩, hll, hl, hm, fun y hy => ?_⟩
    · have hjl : j < len := by have := (List.getElem?_eq_some_iff.1 hj).1; rw [hll] at this; exact this
      rw [List.getElem?_map, List.getElem?_range hjl] at hj
      injection hj with hj
      subst hj
      obtain ⟨hs, hc⟩ := hf j hjl
      obtain ⟨_, _, hat⟩ := World.cells?_some hc
      refine ⟨[.int .i64 (f j).f0, .int .i64 (f j).f1, .int .i64 (f j).f2], rfl, k30_mk w (f j), fun i u hu => ?_⟩
      have hi3 : i < 3 := (List.getElem?_eq_some_iff.1 hu).1
      show w.cell? (x.add (j * 3 + i)) = some u
      rw [← Go.Deep.add_add, hat i hi3, hu]
    · obtain ⟨j, hj, rfl⟩ := List.mem_map.1 hy
      exact (hf j (List.mem_range.1 hj)).1
end
end Go.Proofs.Ytpmadffgdfholaa.B
namespace Go.Proofs.Ytpmadffgdfholaa.B
open Go.RowKit Go.ChangeShapes Go.WideShapes Go.Deep Go.Proofs.YtpmadffgdfholaaW.PrintWords Go.Proofs.YtpmadffgdfholaaW.PrintLast Go.Proofs.YtpmadffgdfholaaW.PrintMore
/-- A price's two numbers are whole numbers of 64 bits. -/
def okS41 (x : S41) : Prop := (Lit.int .i64 x.f0).wf = true ∧ (Lit.int .i64 x.f1).wf = true
section
variable {H : Type} {enc : TypeId × Value → H} {w : World} {spare : Nat → Bool} {held : Bool}
theorem open_numbers {a : Option Addr} {len cap : Nat} {d : DataW H} {p : List MemPlace} (h : DataW.Trod enc Try.prog w 0 (fun _ => true) held 28 (.slice a len cap) d p) :
    ∃ l : List Int, Kd.C (Kd.int .i64) w a l.length l ∧ l.length = len ∧ len ≤ cap ∧ cap ≤ maxLen ∧ ∀ x ∈ l, (Lit.int .i64 x).wf = true := by
  have hrow : ∃ zs : List Int, cap ≤ maxLen ∧ ((a = none ∧ len = 0 ∧ cap = 0 ∧ zs = []) ∨ ∃ x, a = some x ∧ len ≤ cap ∧ cap ≤ maxLen ∧ zs.length = cap ∧ (∀ i, i < zs.length → w.cell? (x.add i) = some (.int .i64 (zs.getD i 0))) ∧ ∀ n ∈ zs, (Lit.int .i64 n).wf = true) := by
    obtain ⟨fuel, hf⟩ := h
    rcases open_ints Try.underlying28 Try.underlying3 (by kernel_rfl) hf with ⟨hcs, _⟩ | ⟨x, l, c, zs, hcs, _, hl, hm, hz, _, hcell, hwz⟩
    · simp [Value.cells] at hcs
      obtain ⟨rfl, rfl, rfl⟩ := hcs
      exact ⟨[], by simp, .inl ⟨rfl, rfl, rfl, rfl⟩⟩
    · simp [Value.cells] at hcs
      obtain ⟨rfl, rfl, rfl⟩ := hcs
      exact ⟨zs, hm, .inr ⟨_, rfl, hl, hm, by simpa using hz, hcell, hwz⟩⟩
  obtain ⟨zs, hm, hrow⟩ := hrow
  obtain ⟨l0, rfl, hr0, hm0, hw0, hc0⟩ := ReadsInt.ofRowC hrow
  exact ⟨l0, Kd.C_of_reads (d := (0 : Int)) (h1 := fun _ => rfl) hr0, rfl, hc0, hm, hw0⟩
set_option maxRecDepth 100000 in
theorem open_price {fuel : Nat} {cs : List Value} {x : DataW H × List MemPlace} (h : DataW.trod enc Try.prog w 0 spare held fuel 41 cs = some x) : ∃ s : S41, cs = [.int .i64 s.f0, .int .i64 s.f1] ∧ okS41 s := by
  obtain ⟨xs, n, _, _, hlen, hxl, hf⟩ := DataW.trod_struct Try.underlying41 h
  have h41 : Try.prog.cellsOf 41 = 2 := by kernel_rfl
  have h3 : Try.prog.cellsOf 3 = 1 := by kernel_rfl
  rw [h41] at hlen
  match cs, hlen with
  | [c0, c1], _ =>
    have hsz : xs.length = 2 := hxl
    match xs, hsz with
    | [y0, y1], _ =>
      have g0 : DataW.trod enc Try.prog w 0 spare held n 3 (([c0, c1].drop 0).take (Try.prog.cellsOf 3)) = some y0 := hf 0 _ rfl
      have g1 : DataW.trod enc Try.prog w 0 spare held n 3 (([c0, c1].drop 1).take (Try.prog.cellsOf 3)) = some y1 := hf 1 _ rfl
      rw [h3] at g0 g1
      obtain ⟨n0, e0, _, w0⟩ := DataW.trod_int Try.underlying3 g0
      obtain ⟨n1, e1, _, w1⟩ := DataW.trod_int Try.underlying3 g1
      obtain rfl : c0 = .int .i64 n0 := by injection e0
      obtain rfl : c1 = .int .i64 n1 := by injection e1
      exact ⟨⟨n0, n1⟩, rfl, w0, w1⟩
theorem open_prices {a : Option Addr} {len cap : Nat} {d : DataW H} {p : List MemPlace} (h : DataW.Trod enc Try.prog w 0 spare held 35 (.slice a len cap) d p) :
    ∃ l : List S41, Kd.C k41 w a l.length l ∧ l.length = len ∧ len ≤ cap ∧ cap ≤ maxLen ∧ ∀ x ∈ l, okS41 x := by
  obtain ⟨fuel, hf⟩ := h
  rcases open_slice Try.underlying35 hf with ⟨hcs, _⟩ | ⟨x, l, c, m, n, D, Pl, hcs, _, hl, hm, hmm, _, hi⟩
  · simp [Value.cells] at hcs
    obtain ⟨rfl, rfl, rfl⟩ := hcs
    exact ⟨[], ⟨rfl, by simp, fun h => absurd h (by simp)⟩, rfl, Nat.le_refl _, by simp, by simp⟩
  · simp [Value.cells] at hcs
    obtain ⟨rfl, rfl, rfl⟩ := hcs
    have hlm : len ≤ m := by rw [hmm]; split <;> omega
    have h41 : Try.prog.cellsOf 41 = 2 := by kernel_rfl
    rw [h41] at hi
    have hex : ∀ i : Nat, ∃ s : S41, i < len → okS41 s ∧ w.cells? 0 (x.add (i * 2)) 2 = some [.int .i64 s.f0, .int .i64 s.f1] := by
      intro i
      by_cases h : i < len
      · obtain ⟨cs', hc, ht⟩ := hi i (by omega)
        obtain ⟨s, rfl, hs⟩ := open_price ht
        exact ⟨s, fun _ => ⟨hs, hc⟩⟩
      · exact ⟨z41, fun h' => absurd h' h⟩
    obtain ⟨f, hf⟩ := Classical.axiomOfChoice hex
    have hll : ((List.range len).map f).length = len := by simp
    refine ⟨(List.range len).map f, ⟨rfl, by rw [hll]; simp only [maxLen] at hm; omega, fun _ => ⟨x, rfl, fun j p hj => ?_⟩⟩, hll, hl, hm, fun y hy => ?_⟩
    · have hjl : j < len := by have := (List.getElem?_eq_some_iff.1 hj).1; rw [hll] at this; exact this
      rw [List.getElem?_map, List.getElem?_range hjl] at hj
      injection hj with hj
      subst hj
      obtain ⟨hs, hc⟩ := hf j hjl
      obtain ⟨_, _, hat⟩ := World.cells?_some hc
      refine ⟨[.int .i64 (f j).f0, .int .i64 (f j).f1], rfl, k41_mk w (f j), fun i u hu => ?_⟩
      have hi2 : i < 2 := (List.getElem?_eq_some_iff.1 hu).1
      show w.cell? (x.add (j * 2 + i)) = some u
      rw [← Go.Deep.add_add, hat i hi2, hu]
    · obtain ⟨j, hj, rfl⟩ := List.mem_map.1 hy
      exact (hf j (List.mem_range.1 hj)).1
end
end Go.Proofs.Ytpmadffgdfholaa.B
namespace Go.Proofs.Ytpmadffgdfholaa.B
open Go.RowKit Go.Proofs.YtpmadffgdfholaaW.PrintWords Go.Proofs.YtpmadffgdfholaaW.PrintLast Go.Proofs.YtpmadffgdfholaaW.PrintMore
def trishawlaw03_BranchIs.Pure : Prop := ∀ (a0 : Int) (l1 : List S30) (l2 : List Int) (l3 : List S41), (Lit.int .i64 a0).wf = true → l1.length ≤ maxLen → (∀ x ∈ l1, okS30 x) → l2.length ≤ maxLen → (∀ x ∈ l2, (fun x : Int => (Lit.int .i64 x).wf = true) x) → l3.length ≤ maxLen → (∀ x ∈ l3, okS41 x) → ∃ k, trishawlaw03_BranchIs.f k a0 l1 l2 l3 = some true
theorem trishawlaw03_BranchIs.walk (P : trishawlaw03_BranchIs.Pure) (w : World) (a0 : Int) (A1 : Option Addr) (c1 : Nat) (l1 : List S30) (hr1 : Kd.C k30 w A1 l1.length l1) (hc1 : l1.length ≤ c1) (A2 : Option Addr) (c2 : Nat) (l2 : List Int) (hr2 : Kd.C (Kd.int .i64) w A2 l2.length l2) (hc2 : l2.length ≤ c2) (A3 : Option Addr) (c3 : Nat) (l3 : List S41) (hr3 : Kd.C k41 w A3 l3.length l3) (hc3 : l3.length ≤ c3) (h0_0 : (Lit.int .i64 a0).wf = true) (h1_0 : l1.length ≤ maxLen) (h2_0 : (∀ x ∈ l1, okS30 x)) (h3_0 : l2.length ≤ maxLen) (h4_0 : (∀ x ∈ l2, (fun x : Int => (Lit.int .i64 x).wf = true) x)) (h5_0 : l3.length ≤ maxLen) (h6_0 : (∀ x ∈ l3, okS41 x)) :
    Calls Try.prog 9 #[.int .i64 a0, .slice A1 l1.length c1, .slice A2 l2.length c2, .slice A3 l3.length c3] w fun e w' => e = .returned (.bool true) ∧ Below w.heap.size w w' := by
  obtain ⟨k, h⟩ := P a0 l1 l2 l3 h0_0 h1_0 h2_0 h3_0 h4_0 h5_0 h6_0
  refine (trishawlaw03_BranchIs.calls k a0 A1 c1 l1 A2 c2 l2 A3 c3 l3 true w hr1 hc1 hr2 hc2 hr3 hc3 h).mono ?_
  rintro e w' ⟨rfl, hd⟩
  exact ⟨rfl, hd⟩
end Go.Proofs.Ytpmadffgdfholaa.B
namespace Go.Proofs.Ytpmadffgdfholaa.B
open Go.RowKit Go.Proofs.YtpmadffgdfholaaW.PrintWords Go.Proofs.YtpmadffgdfholaaW.PrintLast Go.Proofs.YtpmadffgdfholaaW.PrintMore
theorem wrap_nat (i : Nat) (h : i < 4611686018427387904) : wrap64 ((i : Int) + 1) = ((i + 1 : Nat) : Int) := by unfold wrap64; omega
theorem drop_rd30 (l : List S30) (i : Nat) (h : i < l.length) : l.drop i = rd_T30 l (i : Int) :: l.drop (i + 1) := by
  rw [List.drop_eq_getElem_cons h]
  simp [rd_T30, List.getD, List.getElem?_eq_getElem h]
theorem wayOk_iff (n : Int) (x : S30) : wayOk n x = true ↔ 0 ≤ x.f0 ∧ x.f0 < n ∧ 0 ≤ x.f1 ∧ x.f1 < n ∧ x.f0 ≠ x.f1 ∧ 0 ≤ x.f2 ∧ x.f2 ≤ 1000 := by
  unfold wayOk mn mx
  simp only [Bool.not_eq_true', Bool.or_eq_false_iff, decide_eq_false_iff_not, beq_eq_false_iff_ne]
  constructor
  · rintro ⟨⟨⟨⟨h1, h2⟩, h3⟩, h4⟩, h5⟩
    split at h1 <;> split at h2 <;> refine ⟨?_, ?_, ?_, ?_, h3, ?_, ?_⟩ <;> omega
  · rintro ⟨h1, h2, h3, h4, h5, h6, h7⟩
    refine ⟨⟨⟨⟨?_, ?_⟩, h5⟩, ?_⟩, ?_⟩
    · split <;> omega
    · split <;> omega
    · omega
    · omega
theorem town_l0 (n : Int) (l : List S30) (hl : l.length < 1000000) : ∀ d i k : Nat, i + d = l.length → trishawref03_Town.l0 (k + 2 * d + 1) n l (i : Int) = some (if (l.drop i).all (wayOk n) then 0 else 2)
  | 0, i, k, h => by
    simp only [trishawref03_Town.l0]
    rw [if_neg (by omega), List.drop_eq_nil_of_le (by omega)]
    simp
  | d + 1, i, k, h => by
    have hi : i < l.length := by omega
    rw [show k + 2 * (d + 1) + 1 = (k + 2 * d + 1 + 1) + 1 from by omega, drop_rd30 l i hi]
    simp only [trishawref03_Town.l0, List.all_cons]
    rw [if_pos (by omega), if_pos (by omega)]
    have ih := town_l0 n l hl d (i + 1) k (by omega)
    have hw := wrap_nat i (by omega)
    have j2t : trishawref03_Town.j2 (k + 2 * d + 1 + 1) n l (i : Int) true = some 2 := by simp [trishawref03_Town.j2]
    have j2f : trishawref03_Town.j2 (k + 2 * d + 1 + 1) n l (i : Int) false = some (if (l.drop (i + 1)).all (wayOk n) then 0 else 2) := by
      simp only [trishawref03_Town.j2, Bool.false_eq_true, if_false, hw]
      exact ih
    generalize rd_T30 l (i : Int) = x
    have hx := wayOk_iff n x
    by_cases hok : wayOk n x = true
    · obtain ⟨h1, h2, h3, h4, h5, h6, h7⟩ := hx.1 hok
      rw [if_neg (by omega), if_neg (by omega), if_neg (by omega), if_neg (by omega), if_neg h5, if_neg (by omega), show decide (x.f2 > 1000) = false from decide_eq_false (by omega), j2f]
      simp [hok]
    · have hb : wayOk n x = false := Bool.eq_false_iff.mpr hok
      simp only [hb, Bool.false_and, Bool.false_eq_true, if_false]
      by_cases t1 : x.f0 < 0
      · rw [if_pos t1, j2t]
      rw [if_neg t1]
      by_cases t2 : x.f0 ≥ n
      · rw [if_pos t2, j2t]
      rw [if_neg t2]
      by_cases t3 : x.f1 < 0
      · rw [if_pos t3, j2t]
      rw [if_neg t3]
      by_cases t4 : x.f1 ≥ n
      · rw [if_pos t4, j2t]
      rw [if_neg t4]
      by_cases t5 : x.f0 = x.f1
      · rw [if_pos t5, j2t]
      rw [if_neg t5]
      by_cases t6 : x.f2 < 0
      · rw [if_pos t6, j2t]
      rw [if_neg t6]
      by_cases t7 : x.f2 > 1000
      · rw [show decide (x.f2 > 1000) = true from decide_eq_true t7, j2t]
      · exact absurd (hx.2 ⟨by omega, by omega, by omega, by omega, t5, by omega, by omega⟩) hok
theorem town_eq (n : Int) (l : List S30) (k : Nat) (hk : 2 * l.length + 2 ≤ k ∨ 62 ≤ k) : trishawref03_Town.f k n l = some (readB n l) := by
  have key : ∀ k, (2 * l.length + 2 ≤ k ∨ 62 ≤ k) → ∀ b : Bool, trishawref03_Town.j0 k n l b = some (if b = true then 2 else if 30 < l.length then 3 else if l.all (wayOk n) then 0 else 2) := by
    intro k hk b
    obtain ⟨k, rfl⟩ : ∃ k', k = k' + 1 := ⟨k - 1, by omega⟩
    simp only [trishawref03_Town.j0]
    cases b with
    | true => simp
    | false =>
      simp only [Bool.false_eq_true, if_false]
      by_cases h3 : 30 < l.length
      · rw [if_pos (by omega), if_pos h3]
      · rw [if_neg (by omega), if_neg h3]
        have := town_l0 n l (by omega) l.length 0 (k - 2 * l.length - 1) (by omega)
        rw [show k - 2 * l.length - 1 + 2 * l.length + 1 = k from by omega] at this
        simpa using this
  unfold trishawref03_Town.f readB
  by_cases h1 : n < 2
  · rw [if_pos h1, key k hk, if_pos rfl, if_pos (Or.inl h1)]
  · rw [if_neg h1, key k hk]
    by_cases h2 : n > 7
    · rw [show decide (n > 7) = true from decide_eq_true h2, if_pos rfl, if_pos (Or.inr h2)]
    · rw [show decide (n > 7) = false from decide_eq_false h2, if_neg (show ¬ (false = true) by decide), if_neg (show ¬ (n < 2 ∨ 7 < n) by omega)]
/-- A town that is taken. -/
theorem readB_ok {n : Int} {l : List S30} (h : readB n l = 0) : 2 ≤ n ∧ n ≤ 7 ∧ l.length ≤ 30 ∧ ∀ x ∈ l, wayOk n x = true := by
  unfold readB at h
  split at h
  · exact absurd h (by decide)
  split at h
  · exact absurd h (by decide)
  split at h
  · rename_i h1 h2 h3
    exact ⟨by omega, by omega, by omega, List.all_eq_true.1 h3⟩
  · exact absurd h (by decide)
end Go.Proofs.Ytpmadffgdfholaa.B
namespace Go.Proofs.Ytpmadffgdfholaa.B
open Go.RowKit Go.Proofs.YtpmadffgdfholaaW.PrintWords Go.Proofs.YtpmadffgdfholaaW.PrintLast Go.Proofs.YtpmadffgdfholaaW.PrintMore
def cnt (s : Nat) : Nat := ((List.range 7).filter fun b => s.testBit b).length
theorem fin_and : ∀ s : Fin 128, ∀ a : Fin 7, (Go.bits .and .i64 (shr .i64 ((s.val : Nat) : Int) ((a.val : Nat) : Int)) 1 = 1) ↔ s.val.testBit a.val = true := by decide +kernel
theorem fin_or : ∀ s : Fin 128, ∀ a : Fin 7, Go.bits .or .i64 ((s.val : Nat) : Int) (shl .i64 1 ((a.val : Nat) : Int)) = ((s.val ||| (1 <<< a.val) : Nat) : Int) := by decide +kernel
theorem fin_mod : ∀ s : Fin 128, ∀ a : Fin 7, Int.tmod (shr .i64 ((s.val : Nat) : Int) ((a.val : Nat) : Int)) 2 = if s.val.testBit a.val then 1 else 0 := by decide +kernel
theorem fin_add : ∀ s : Fin 128, ∀ a : Fin 7, s.val.testBit a.val = false → wrap64 (((s.val : Nat) : Int) + shl .i64 1 ((a.val : Nat) : Int)) = ((s.val ||| (1 <<< a.val) : Nat) : Int) := by decide +kernel
theorem fin_lt : ∀ n : Fin 8, ∀ s : Fin 128, ∀ a : Fin 7, s.val < 2 ^ n.val → a.val < n.val → s.val ||| (1 <<< a.val) < 2 ^ n.val := by decide +kernel
theorem fin_cnt : ∀ s : Fin 128, ∀ a : Fin 7, s.val.testBit a.val = false → cnt (s.val ||| (1 <<< a.val)) = cnt s.val + 1 := by decide +kernel
theorem fin_same : ∀ s : Fin 128, ∀ a : Fin 7, s.val.testBit a.val = true → s.val ||| (1 <<< a.val) = s.val := by decide +kernel
theorem fin_le : ∀ n : Fin 8, ∀ s : Fin 128, s.val < 2 ^ n.val → cnt s.val ≤ n.val := by decide +kernel
/-- A set that a street has been gone along. -/
def stepS (s : Nat) (x : S30) : Nat := if s.testBit x.f0.toNat then s ||| (1 <<< x.f1.toNat) else s
def passS (l : List S30) (L : List Int) (s : Nat) : Nat := L.foldl (fun s i => stepS s (rd_T30 l i)) s
def itS (l : List S30) (L : List Int) : Nat → Nat → Nat
  | 0, s => s
  | d + 1, s => itS l L d (passS l L s)
theorem it_fix {l : List S30} {L : List Int} {s : Nat} (h : passS l L s = s) : ∀ d, itS l L d s = s
  | 0 => rfl
  | d + 1 => by rw [itS, h]; exact it_fix h d
section
variable {n : Nat} {l : List S30} {L : List Int}
theorem step_facts (hn : n ≤ 7) {s : Nat} (hs : s < 2 ^ n) {x : S30} (hx : wayOk n x = true) : stepS s x < 2 ^ n ∧ (stepS s x = s ∨ cnt (stepS s x) = cnt s + 1) := by
  obtain ⟨h1, h2, h3, h4, _⟩ := (wayOk_iff n x).1 hx
  have h128 : s < 128 := Nat.lt_of_lt_of_le hs (show 2 ^ n ≤ 2 ^ 7 from Nat.pow_le_pow_right (by decide) hn)
  unfold stepS
  split
  · refine ⟨fin_lt ⟨n, by omega⟩ ⟨s, h128⟩ ⟨x.f1.toNat, by omega⟩ hs (by simp only []; omega), ?_⟩
    cases hb : s.testBit x.f1.toNat with
    | true => exact .inl (fin_same ⟨s, h128⟩ ⟨x.f1.toNat, by omega⟩ hb)
    | false => exact .inr (fin_cnt ⟨s, h128⟩ ⟨x.f1.toNat, by omega⟩ hb)
  · exact ⟨hs, .inl rfl⟩
/-- The indices of a list are streets, and the streets are streets of the town. -/
def InL (n : Nat) (l : List S30) (L : List Int) : Prop := ∀ i ∈ L, 0 ≤ i ∧ i < (l.length : Int) ∧ wayOk n (rd_T30 l i) = true
theorem pass_facts (hn : n ≤ 7) : ∀ (L : List Int), InL n l L → ∀ s, s < 2 ^ n → passS l L s < 2 ^ n ∧ (passS l L s = s ∨ cnt s < cnt (passS l L s))
  | [], _, s, hs => ⟨hs, .inl rfl⟩
  | i :: L, hL, s, hs => by
    obtain ⟨a1, a2⟩ := step_facts hn hs (hL i List.mem_cons_self).2.2
    obtain ⟨b1, b2⟩ := pass_facts hn L (fun j hj => hL j (List.mem_cons_of_mem _ hj)) _ a1
    refine ⟨b1, ?_⟩
    show passS l L (stepS s (rd_T30 l i)) = s ∨ cnt s < cnt (passS l L (stepS s (rd_T30 l i)))
    rcases a2 with a2 | a2
    · rw [a2] at b2 ⊢
      exact b2
    · rcases b2 with b2 | b2
      · rw [b2]; exact .inr (by omega)
      · exact .inr (by omega)
theorem it_lt (hn : n ≤ 7) (hL : InL n l L) : ∀ d s, s < 2 ^ n → itS l L d s < 2 ^ n
  | 0, _, h => h
  | d + 1, s, h => it_lt hn hL d _ (pass_facts hn L hL s h).1
/-- Enough rounds are enough. -/
theorem it_stop (hn : n ≤ 7) (hL : InL n l L) : ∀ c s, s < 2 ^ n → n ≤ cnt s + c → itS l L (c + 1) s = itS l L c s
  | 0, s, hs, h => by
    rcases (pass_facts hn L hL s hs).2 with e | e
    · exact it_fix e 1
    · have := fin_le ⟨n, by omega⟩ ⟨passS l L s, Nat.lt_of_lt_of_le (pass_facts hn L hL s hs).1 (show 2 ^ n ≤ 2 ^ 7 from Nat.pow_le_pow_right (by decide) hn)⟩ (pass_facts hn L hL s hs).1
      simp only [] at this
      omega
  | c + 1, s, hs, h => by
    rcases (pass_facts hn L hL s hs).2 with e | e
    · rw [it_fix e, it_fix e]
    · show itS l L (c + 1) (passS l L s) = itS l L c (passS l L s)
      exact it_stop hn hL c _ (pass_facts hn L hL s hs).1 (by omega)
theorem drop_rdI4 (ps : List Int) (i : Nat) (h : i < ps.length) : ps.drop i = rd ps (i : Int) :: ps.drop (i + 1) := by
  rw [List.drop_eq_getElem_cons h]
  simp [rd, List.getD, List.getElem?_eq_getElem h]
theorem rd_mem4 (cols : List Int) (p : Nat) (h : p < cols.length) : rd cols (p : Int) ∈ cols := by
  simp [rd, List.getD, List.getElem?_eq_getElem h]
theorem int_nat {a : Int} (h : 0 ≤ a) : a = ((a.toNat : Nat) : Int) := by omega
/-- One round of the code's. -/
theorem reach_l1 (hn : n ≤ 7) (hL : InL n l L) (hl : L.length < 1000) (N j : Int) : ∀ (d q k s : Nat), q + d = L.length → s < 2 ^ n →
    branch_town_reach.l1 (k + d + 1) L (s : Int) N j L (L.length : Int) (q : Int) (n : Int) l = branch_town_reach.l0 k L ((passS l (L.drop q) s : Nat) : Int) N (wrap64 (j + 1)) (n : Int) l
  | 0, q, k, s, h, _ => by
    simp only [branch_town_reach.l1]
    rw [if_neg (by omega), List.drop_eq_nil_of_le (by omega)]
    rfl
  | d + 1, q, k, s, h, hs => by
    have hq : q < L.length := by omega
    have hw := wrap_nat q (by omega)
    obtain ⟨i0, i1, hx⟩ := hL _ (rd_mem4 L q hq)
    have ih := reach_l1 hn hL hl N j d (q + 1) k (stepS s (rd_T30 l (rd L (q : Int)))) (by omega) (step_facts hn hs hx).1
    have h128 : s < 128 := Nat.lt_of_lt_of_le hs (show 2 ^ n ≤ 2 ^ 7 from Nat.pow_le_pow_right (by decide) hn)
    rw [drop_rdI4 L q hq]
    show _ = branch_town_reach.l0 k L ((passS l (L.drop (q + 1)) (stepS s (rd_T30 l (rd L (q : Int)))) : Nat) : Int) N (wrap64 (j + 1)) (n : Int) l
    rw [← ih, show k + (d + 1) + 1 = (k + d + 1) + 1 from by omega]
    clear ih
    generalize k + d + 1 = qq
    simp only [branch_town_reach.l1, hw]
    rw [if_pos (by omega), if_pos (by omega), if_pos (by omega), if_pos i0, if_pos i1]
    generalize rd_T30 l (rd L (q : Int)) = x at hx
    obtain ⟨h1, h2, h3, h4, _⟩ := (wayOk_iff n x).1 hx
    have f1 := fin_and ⟨s, h128⟩ ⟨x.f0.toNat, by omega⟩
    have f2 := fin_or ⟨s, h128⟩ ⟨x.f1.toNat, by omega⟩
    simp only [← int_nat h1, ← int_nat h3] at f1 f2
    rw [if_pos h1]
    unfold stepS
    by_cases t : s.testBit x.f0.toNat = true
    · rw [if_pos (f1.2 t), if_pos h3, if_pos t, f2]
    · rw [if_neg (fun hh => t (f1.1 hh)), if_neg t]
theorem reach_l0 (hn : n ≤ 7) (hL : InL n l L) (hl : L.length < 1000) : ∀ (d j k s : Nat), j + d = n → s < 2 ^ n →
    branch_town_reach.l0 (k + (L.length + 2) * d + 1) L (s : Int) (n : Int) (j : Int) (n : Int) l = some ((itS l L d s : Nat) : Int)
  | 0, j, k, s, h, _ => by
    simp only [branch_town_reach.l0, Nat.mul_zero, Nat.add_zero]
    rw [if_neg (by omega)]
    rfl
  | d + 1, j, k, s, h, hs => by
    have hw := wrap_nat j (by omega)
    have ih := reach_l0 hn hL hl d (j + 1) k (passS l L s) (by omega) (pass_facts hn L hL s hs).1
    have h1 := reach_l1 hn hL hl (n : Int) (j : Int) L.length 0 (k + (L.length + 2) * d + 1) s (by omega) hs
    rw [show k + (L.length + 2) * (d + 1) + 1 = (k + (L.length + 2) * d + 1 + L.length + 1) + 1 from by rw [Nat.mul_succ]; omega]
    generalize hq : k + (L.length + 2) * d + 1 + L.length + 1 = qq at h1
    simp only [branch_town_reach.l0]
    rw [if_pos (by omega)]
    rw [List.drop_zero, hw] at h1
    exact h1.trans ih
/-- One round of the reference's. -/
theorem reached_l1 (hn : n ≤ 7) (hL : InL n l L) (hl : L.length < 1000) : ∀ (d q k s : Nat) (g : Bool), q + d = L.length → s < 2 ^ n →
    trishawref03_reached.l1 (k + d + 1) l L (s : Int) g (q : Int) = trishawref03_reached.l0 k l L ((passS l (L.drop q) s : Nat) : Int) (g || decide (passS l (L.drop q) s ≠ s))
  | 0, q, k, s, g, h, _ => by
    simp only [trishawref03_reached.l1]
    rw [if_neg (by omega), List.drop_eq_nil_of_le (by omega)]
    simp [passS]
  | d + 1, q, k, s, g, h, hs => by
    have hq : q < L.length := by omega
    have hw := wrap_nat q (by omega)
    obtain ⟨i0, i1, hx⟩ := hL _ (rd_mem4 L q hq)
    have sf := step_facts hn hs hx
    have ih := fun g => reached_l1 hn hL hl d (q + 1) k (stepS s (rd_T30 l (rd L (q : Int)))) g (by omega) sf.1
    have pf := pass_facts (l := l) hn (L.drop (q + 1)) (fun i hi => hL i (List.mem_of_mem_drop hi)) _ sf.1
    have h128 : s < 128 := Nat.lt_of_lt_of_le hs (show 2 ^ n ≤ 2 ^ 7 from Nat.pow_le_pow_right (by decide) hn)
    rw [drop_rdI4 L q hq]
    show _ = trishawref03_reached.l0 k l L ((passS l (L.drop (q + 1)) (stepS s (rd_T30 l (rd L (q : Int)))) : Nat) : Int) (g || decide (passS l (L.drop (q + 1)) (stepS s (rd_T30 l (rd L (q : Int)))) ≠ s))
    rw [show k + (d + 1) + 1 = (k + d + 1) + 1 from by omega]
    generalize k + d + 1 = qq at ih
    simp only [trishawref03_reached.l1, hw]
    rw [if_pos (by omega), if_pos (by omega), if_pos i0, if_pos i1]
    generalize rd_T30 l (rd L (q : Int)) = x at hx ih sf pf
    obtain ⟨h1, h2, h3, h4, _⟩ := (wayOk_iff n x).1 hx
    have f1 := fin_mod ⟨s, h128⟩ ⟨x.f0.toNat, by omega⟩
    have f2 := fin_mod ⟨s, h128⟩ ⟨x.f1.toNat, by omega⟩
    have f3 := fin_add ⟨s, h128⟩ ⟨x.f1.toNat, by omega⟩
    have f4 := fin_same ⟨s, h128⟩ ⟨x.f1.toNat, by omega⟩
    have f5 := fin_cnt ⟨s, h128⟩ ⟨x.f1.toNat, by omega⟩
    simp only [← int_nat h1, ← int_nat h3] at f1 f2 f3 f4 f5
    rw [if_pos h1, f1]
    unfold stepS at ih sf pf ⊢
    by_cases t : s.testBit x.f0.toNat = true
    · simp only [t, if_true] at ih sf pf ⊢
      rw [if_pos h3, f2]
      cases tb : s.testBit x.f1.toNat with
      | true =>
        rw [f4 tb] at ih ⊢
        rw [if_neg (by decide)]
        exact ih g
      | false =>
        rw [if_pos (by decide), f3 tb, ih true]
        have hne : passS l (L.drop (q + 1)) (s ||| 1 <<< x.f1.toNat) ≠ s := by
          intro hh
          have := f5 tb
          rcases pf.2 with e | e
          · rw [e] at hh; rw [hh] at this; omega
          · rw [hh] at e; omega
        simp [hne]
    · simp only [t, if_false, Bool.false_eq_true] at ih sf pf ⊢
      rw [if_neg (by decide)]
      exact ih g
theorem reached_l0 (hn : n ≤ 7) (hL : InL n l L) (hl : L.length < 1000) : ∀ (c k s : Nat), s < 2 ^ n → n ≤ cnt s + c →
    trishawref03_reached.l0 (k + (L.length + 2) * (c + 1) + 1) l L (s : Int) true = some ((itS l L c s : Nat) : Int)
  | c, k, s, hs, h => by
    have h1 := reached_l1 hn hL hl L.length 0 (k + (L.length + 2) * c + 1) s false (by omega) hs
    rw [show k + (L.length + 2) * (c + 1) + 1 = (k + (L.length + 2) * c + 1 + L.length + 1) + 1 from by rw [Nat.mul_succ]; omega]
    generalize hq : k + (L.length + 2) * c + 1 + L.length + 1 = qq at h1
    simp only [trishawref03_reached.l0, if_true]
    rw [List.drop_zero] at h1
    refine h1.trans ?_
    have pf := pass_facts hn L hL s hs
    by_cases e : passS l L s = s
    · rw [e, it_fix e]
      simp only [ne_eq, not_true_eq_false, decide_false, Bool.or_false]
      simp only [trishawref03_reached.l0]
      rfl
    · simp only [ne_eq, e, not_false_eq_true, decide_true, Bool.or_true]
      cases c with
      | zero =>
        have := it_stop hn hL 0 s hs (by omega)
        exact absurd this e
      | succ c =>
        have := reached_l0 hn hL hl c k (passS l L s) pf.1 (by rcases pf.2 with e2 | e2; exact absurd e2 e; omega)
        exact this
end
/-- Both closures. -/
theorem reach_both {n : Nat} {l : List S30} {L : List Int} (hn2 : 1 ≤ n) (hn : n ≤ 7) (hL : InL n l L) (hl : L.length < 1000) :
    ∃ r : Nat, r < 2 ^ n ∧ ∃ K, ∀ k, K ≤ k → branch_town_reach.f k (n : Int) l L = some (r : Int) ∧ trishawref03_reached.f k l L = some (r : Int) := by
  have h1 : (1 : Nat) < 2 ^ n := Nat.one_lt_two_pow (by omega)
  have hc : cnt 1 = 1 := by decide +kernel
  refine ⟨itS l L n 1, it_lt hn hL n 1 h1, (L.length + 2) * (n + 1) + 1, fun k hk => ⟨?_, ?_⟩⟩
  · have := reach_l0 hn hL hl n 0 (k - (L.length + 2) * n - 1) 1 (by omega) h1
    rw [show k - (L.length + 2) * n - 1 + (L.length + 2) * n + 1 = k from by have : (L.length + 2) * (n + 1) = (L.length + 2) * n + (L.length + 2) := Nat.mul_succ _ _; omega] at this
    exact this
  · have := reached_l0 hn hL hl n (k - (L.length + 2) * (n + 1) - 1) 1 h1 (by omega)
    rw [show k - (L.length + 2) * (n + 1) - 1 + (L.length + 2) * (n + 1) + 1 = k from by omega] at this
    exact this
end Go.Proofs.Ytpmadffgdfholaa.B
namespace Go.Proofs.Ytpmadffgdfholaa.B
open Go.RowKit Go.Proofs.YtpmadffgdfholaaW.PrintWords Go.Proofs.YtpmadffgdfholaaW.PrintLast Go.Proofs.YtpmadffgdfholaaW.PrintMore
def idx (l : List S30) : List Int := (List.range l.length).map fun q : Nat => (q : Int)
theorem idx_length (l : List S30) : (idx l).length = l.length := by simp [idx]
theorem all_code (l : List S30) (hl : l.length < 1000) : ∀ (d i k : Nat), i + d = l.length → branch_town_all.l0 (k + d + 1) ((List.range i).map fun q : Nat => (q : Int)) (l.length : Int) (i : Int) = some (idx l)
  | 0, i, k, h => by
    obtain rfl : i = l.length := by omega
    simp only [branch_town_all.l0]
    rw [if_neg (by omega)]
    rfl
  | d + 1, i, k, h => by
    have ih := all_code l hl d (i + 1) k (by omega)
    have hw := wrap_nat i (by omega)
    rw [← ih, show k + (d + 1) + 1 = (k + d + 1) + 1 from by omega]
    clear ih
    generalize k + d + 1 = qq
    simp only [branch_town_all.l0, hw]
    rw [if_pos (by omega), if_pos (by simp; omega), List.range_succ, List.map_append]
    rfl
theorem all_ref (l : List S30) (hl : l.length < 1000) : ∀ (d i k : Nat), i + d = l.length → trishawref03_all.l0 (k + d + 1) l ((List.range i).map fun q : Nat => (q : Int)) (i : Int) = some (idx l)
  | 0, i, k, h => by
    obtain rfl : i = l.length := by omega
    simp only [trishawref03_all.l0]
    rw [if_neg (by omega)]
    rfl
  | d + 1, i, k, h => by
    have ih := all_ref l hl d (i + 1) k (by omega)
    have hw := wrap_nat i (by omega)
    rw [← ih, show k + (d + 1) + 1 = (k + d + 1) + 1 from by omega]
    clear ih
    generalize k + d + 1 = qq
    simp only [trishawref03_all.l0, hw]
    rw [if_pos (by omega), if_pos (by simp; omega), List.range_succ, List.map_append]
    rfl
theorem rd_T30_mem (l : List S30) (i : Nat) (h : i < l.length) : rd_T30 l (i : Int) ∈ l := by
  simp [rd_T30, List.getD, List.getElem?_eq_getElem h]
theorem idx_in {n : Nat} {l : List S30} (hx : ∀ x ∈ l, wayOk n x = true) : InL n l (idx l) := by
  intro i hi
  obtain ⟨q, hq, rfl⟩ := List.mem_map.1 hi
  have := List.mem_range.1 hq
  exact ⟨by omega, by omega, hx _ (rd_T30_mem l q this)⟩
theorem reach_eq (n : Int) (l : List S30) : ∃ r t : Int, ∃ K, ∀ k, K ≤ k → branch_Reach.f k n l = some (r, t) ∧ trishawref03_Reach.f k n l = some (r, t) := by
  by_cases hr : readB n l = 0
  · obtain ⟨h2, h7, h30, hx⟩ := readB_ok hr
    obtain ⟨m, rfl⟩ := Int.eq_ofNat_of_zero_le (show 0 ≤ n by omega)
    obtain ⟨r, _, K, hK⟩ := reach_both (n := m) (l := l) (L := idx l) (by omega) (by omega) (idx_in hx) (by rw [idx_length]; omega)
    refine ⟨r, 0, K + l.length + 100, fun k hk => ?_⟩
    obtain ⟨a, b⟩ := hK k (by omega)
    have c1 := all_code l (by omega) l.length 0 (k - l.length - 1) (by omega)
    have c2 := all_ref l (by omega) l.length 0 (k - l.length - 1) (by omega)
    rw [show k - l.length - 1 + l.length + 1 = k from by omega] at c1 c2
    replace c1 : branch_town_all.l0 k [] (l.length : Int) 0 = some (idx l) := c1
    replace c2 : trishawref03_all.l0 k l [] 0 = some (idx l) := c2
    unfold branch_Reach.f trishawref03_Reach.f branch_read.f branch_town_all.f trishawref03_all.f
    rw [town_eq _ _ k (.inr (by omega)), hr]
    simp only [Option.bind_some, if_true]
    rw [c1, c2, Option.bind_some, Option.bind_some, a, b]
    exact ⟨rfl, rfl⟩
  · refine ⟨0, readB n l, 100, fun k hk => ?_⟩
    unfold branch_Reach.f trishawref03_Reach.f branch_read.f
    rw [town_eq _ _ k (.inr (by omega)), Option.bind_some, Option.bind_some]
    exact ⟨by rw [if_neg hr], by rw [if_neg hr]⟩
theorem fin_par : ∀ s : Fin 128, (Go.bits .and .i64 ((s.val : Nat) : Int) 1 == 0) = (Int.tmod ((s.val : Nat) : Int) 2 == 0) := by decide +kernel
theorem fin_and0 : ∀ s : Fin 128, ∀ a : Fin 7, (Go.bits .and .i64 (shr .i64 ((s.val : Nat) : Int) ((a.val : Nat) : Int)) 1 = 0) ↔ s.val.testBit a.val = false := by decide +kernel
theorem fin_shl : ∀ n : Fin 8, shl .i64 1 ((n.val : Nat) : Int) = ((2 ^ n.val : Nat) : Int) := by decide +kernel
theorem isSet_eq {m : Nat} (hm : m ≤ 7) (l : List S30) (s : Int) : branch_town_isSet.f (m : Int) l s = trishawref03_IsSet.f (m : Int) s ∧ ∃ b, trishawref03_IsSet.f (m : Int) s = some b ∧ (b = true → 0 < s ∧ s < 128) := by
  have e1 := fin_shl ⟨m, by omega⟩
  simp only [] at e1
  have hp : 2 ^ m ≤ 2 ^ 7 := Nat.pow_le_pow_right (by decide) hm
  have hp1 : 1 ≤ 2 ^ m := Nat.one_le_two_pow
  unfold branch_town_isSet.f trishawref03_IsSet.f branch_town_everybody.f
  rw [e1]
  generalize 2 ^ m = p at hp hp1
  have e2 : wrap64 (((p : Nat) : Int) - 1) = (p : Int) - 1 := by unfold wrap64; omega
  rw [e2]
  by_cases h0 : s > 0
  · rw [if_pos h0, if_pos h0, if_pos (by omega), if_pos (by omega), Option.bind_some]
    by_cases h1 : s < (p : Int)
    · rw [if_pos (by omega), if_pos h1]
      have := fin_par ⟨s.toNat, by omega⟩
      simp only [← int_nat (show 0 ≤ s by omega)] at this
      exact ⟨by rw [this], _, rfl, fun _ => ⟨by omega, by omega⟩⟩
    · rw [if_neg (by omega), if_neg h1]
      exact ⟨rfl, false, rfl, fun h => absurd h (by decide)⟩
  · rw [if_neg h0, if_neg h0]
    exact ⟨rfl, false, rfl, fun h => absurd h (by decide)⟩
/-- The streets that enter, from street i on. -/
def entR (l : List S30) (s : Nat) : Nat → Nat → List Int → List Int
  | 0, _, acc => acc
  | d + 1, i, acc => entR l s d (i + 1) (if s.testBit (rd_T30 l (i : Int)).f0.toNat = false ∧ s.testBit (rd_T30 l (i : Int)).f1.toNat = true then acc ++ [(i : Int)] else acc)
section
variable {n : Int} {l : List S30} {s : Nat}
theorem ent_code (hn : n ≤ 7) (hl : l.length < 1000) (hx : ∀ x ∈ l, wayOk n x = true) (hs : s < 128) : ∀ (d i k : Nat) (acc : List Int), i + d = l.length → acc.length ≤ i →
    branch_town_entering.l0 (k + d + 1) (s : Int) acc l (l.length : Int) (i : Int) = some (entR l s d i acc)
  | 0, i, k, acc, h, _ => by
    simp only [branch_town_entering.l0]
    rw [if_neg (by omega)]
    rfl
  | d + 1, i, k, acc, h, ha => by
    have hi : i < l.length := by omega
    have hw := wrap_nat i (by omega)
    have hok := hx _ (rd_T30_mem l i hi)
    have ih := fun acc ha => ent_code hn hl hx hs d (i + 1) k acc (by omega) ha
    rw [show k + (d + 1) + 1 = (k + d + 1) + 1 from by omega]
    generalize k + d + 1 = qq at ih
    simp only [branch_town_entering.l0, hw, entR]
    rw [if_pos (by omega), if_pos (by omega), if_pos (by omega)]
    generalize rd_T30 l (i : Int) = x at hok
    obtain ⟨h1, h2, h3, h4, _⟩ := (wayOk_iff n x).1 hok
    have f1 := fin_and0 ⟨s, hs⟩ ⟨x.f0.toNat, by omega⟩
    have f2 := fin_and ⟨s, hs⟩ ⟨x.f1.toNat, by omega⟩
    simp only [← int_nat h1, ← int_nat h3] at f1 f2
    rw [if_pos h1]
    by_cases t0 : s.testBit x.f0.toNat = false
    · rw [if_pos (f1.2 t0), if_pos h3]
      by_cases t1 : s.testBit x.f1.toNat = true
      · rw [if_pos (f2.2 t1), if_pos (by omega), if_pos ⟨t0, t1⟩]
        exact ih _ (by simp; omega)
      · rw [if_neg (fun hh => t1 (f2.1 hh)), if_neg (fun hh => t1 hh.2)]
        exact ih _ (by omega)
    · rw [if_neg (fun hh => t0 (f1.1 hh)), if_neg (fun hh => t0 hh.1)]
      exact ih _ (by omega)
end
end Go.Proofs.Ytpmadffgdfholaa.B
namespace Go.Proofs.Ytpmadffgdfholaa.B
/-- Corners that are reached from s along streets of T. -/
inductive Rc (a b : Nat → Nat) (T : Nat → Prop) (s : Nat) : Nat → Prop
  | refl : Rc a b T s s
  | step {i : Nat} : T i → Rc a b T s (a i) → Rc a b T s (b i)
section
variable {n : Nat} {a b : Nat → Nat} {T U : Nat → Prop} {s c d : Nat}
theorem Rc.mono (h : ∀ i, T i → U i) (r : Rc a b T s c) : Rc a b U s c := by
  induction r with
  | refl => exact .refl
  | step t _ ih => exact .step (h _ t) ih
theorem Rc.trans (r : Rc a b T s c) (q : Rc a b T c d) : Rc a b T s d := by
  induction q with
  | refl => exact r
  | step t _ ih => exact .step t ih
theorem Rc.one {i : Nat} (t : T i) : Rc a b T (a i) (b i) := .step t .refl
/-- What is closed under the streets and has s has all that is reached. -/
theorem Rc.closed {S : Nat → Prop} (hs : S s) (h : ∀ i, T i → S (a i) → S (b i)) (r : Rc a b T s c) : S c := by
  induction r with
  | refl => exact hs
  | step t _ ih => exact h _ t ih
/-- A branching: the street that leads to each corner but 0. -/
structure IsB (n : Nat) (a b : Nat → Nat) (T : Nat → Prop) (f : Nat → Nat) : Prop where
  on : ∀ c, 0 < c → c < n → T (f c) ∧ b (f c) = c
  all : ∀ c, c < n → Rc a b (fun i => ∃ c, 0 < c ∧ c < n ∧ i = f c) 0 c
theorem IsB.mono {f : Nat → Nat} (h : IsB n a b T f) (hT : ∀ i, T i → U i) : IsB n a b U f :=
  ⟨fun c h0 h1 => ⟨hT _ (h.on c h0 h1).1, (h.on c h0 h1).2⟩, h.all⟩
theorem IsB.within {f : Nat → Nat} (h : IsB n a b T f) (hU : ∀ c, 0 < c → c < n → U (f c)) : IsB n a b U f :=
  ⟨fun c h0 h1 => ⟨hU c h0 h1, (h.on c h0 h1).2⟩, h.all⟩
theorem IsB.congr {f g : Nat → Nat} (h : IsB n a b T f) (e : ∀ c, 0 < c → c < n → f c = g c) : IsB n a b T g :=
  ⟨fun c h0 h1 => e c h0 h1 ▸ h.on c h0 h1, fun c hc => (h.all c hc).mono fun _ ⟨c, h0, h1, q⟩ => ⟨c, h0, h1, q.trans (e c h0 h1)⟩⟩
def sumZ (g : Nat → Int) : Nat → Int
  | 0 => 0
  | k + 1 => sumZ g k + g k
theorem sumZ_congr {g h : Nat → Int} : ∀ k, (∀ i, i < k → g i = h i) → sumZ g k = sumZ h k
  | 0, _ => rfl
  | k + 1, e => by simp only [sumZ]; rw [sumZ_congr k (fun i hi => e i (by omega)), e k (by omega)]
theorem sumZ_add (g h : Nat → Int) : ∀ k, sumZ (fun i => g i + h i) k = sumZ g k + sumZ h k
  | 0 => rfl
  | k + 1 => by simp only [sumZ]; rw [sumZ_add g h k]; omega
theorem sumZ_zero : ∀ k, sumZ (fun _ => 0) k = 0
  | 0 => rfl
  | k + 1 => by simp only [sumZ]; rw [sumZ_zero k]; rfl
/-- What a branching costs. -/
def costF (n : Nat) (p : Nat → Int) (f : Nat → Nat) : Int := sumZ (fun c => if c = 0 then 0 else p (f c)) n
theorem costF_congr {p q : Nat → Int} {f g : Nat → Nat} (h : ∀ c, 0 < c → c < n → p (f c) = q (g c)) : costF n p f = costF n q g := by
  refine sumZ_congr n fun c hc => ?_
  split
  · rfl
  · exact h c (by omega) hc
end
end Go.Proofs.Ytpmadffgdfholaa.B
