/- Texts behind the row of BranchEdmonds, part 2: contracts of the functions it reaches, words that their walks use, and lemmas in plain Lean. -/
import Derived.Below
import Derived.Deep.Draws
import Derived.Deep.AppendLies
import Derived.Maps.AppendAt
import Derived.OwnWalk
import Derived.Laws.BytesArg
import Derived.Laws.MakeOwn
import Derived.Laws.OwnMore
import Derived.Deep.OwnRows
import Derived.Tactics
import Derived.Lib.ConvBytes
import Derived.Laws.Slices
import Derived.WalkKit
import Derived.KernelRfl
import Derived.RowKit3
import Derived.Deep.LoopGhost
import Derived.Deep.QuietTactic
import Derived.BigQuiet
import Derived.WideLaws
import Derived.Deep.DeepCutAuto
import Derived.Deep.CutBlock
import Derived.Deep.RegionHeld3
import Derived.Laws.Rows
import Derived.Lib.AppendStr
import Derived.ArgAppend
import Derived.Laws.IdiomCopy
import Derived.RowKit
import Derived.OrdersHeld
import Derived.Laws.BitsLemmas
import Derived.Test.YtpmadffgdfholaaProg
import Derived.Laws.StructEq
import Derived.MapKept
import Derived.WalkSpells
import Derived.Deep.DrawnRows
import Derived.Laws.EntriesVeiled
import Derived.Test.YtpmadffgdfholaaF1
namespace Go.Proofs.Ytpmadffgdfholaa.B
open Go.RowKit Go.Proofs.YtpmadffgdfholaaW.PrintWords Go.Proofs.YtpmadffgdfholaaW.PrintLast Go.Proofs.YtpmadffgdfholaaW.PrintMore
attribute [local go_sem] max2_int min2_int max_two min_two max_three min_three max_four min_four   -- for this text's walks alone
set_option linter.unusedVariables false
set_option linter.unusedSimpArgs false
mutual
def branch_town_is.l0 : Nat → List Int → Int → Int → List Int → Int → Int → Int → List (S30) → Option (Int × Bool)
  | 0, _, _, _, _, _, _, _, _ => none
  | k + 1, x1, x6, x7, x18, x19, x20, x1000, x1001 => if x20 < x19 then (if 0 ≤ x20 then (if x20 < (x18.length : Int) then (if (rd x18 x20) < 0 then (branch_town_is.j1 k x1 x6 x7 (rd x18 x20) x18 x19 x20 true x1000 x1001) else (if (rd x18 x20) ≥ (x1001.length : Int) then (branch_town_is.j1 k x1 x6 x7 (rd x18 x20) x18 x19 x20 true x1000 x1001) else (if x20 > 0 then (if 0 ≤ (wrap64 (x20 - 1)) then (if (wrap64 (x20 - 1)) < (x1.length : Int) then (if (rd x18 x20) ≤ (rd x1 (wrap64 (x20 - 1))) then (branch_town_is.j1 k x1 x6 x7 (rd x18 x20) x18 x19 x20 true x1000 x1001) else (if 0 ≤ (rd x18 x20) then (if (rd x18 x20) < (x1001.length : Int) then (if 0 ≤ ((rd_T30 x1001 (rd x18 x20)).f1) then (branch_town_is.j1 k x1 x6 x7 (rd x18 x20) x18 x19 x20 ((Go.bits .and .i64 (shr .i64 x7 ((rd_T30 x1001 (rd x18 x20)).f1)) 1) == 1) x1000 x1001) else (none)) else (none)) else (none))) else (none)) else (none)) else (if 0 ≤ (rd x18 x20) then (if (rd x18 x20) < (x1001.length : Int) then (if 0 ≤ ((rd_T30 x1001 (rd x18 x20)).f1) then (branch_town_is.j1 k x1 x6 x7 (rd x18 x20) x18 x19 x20 ((Go.bits .and .i64 (shr .i64 x7 ((rd_T30 x1001 (rd x18 x20)).f1)) 1) == 1) x1000 x1001) else (none)) else (none)) else (none))))) else (none)) else (none)) else ((branch_town_reach.f k x1000 x1001 x1).bind fun t243 => ((branch_town_everybody.f x1000 x1001).bind fun t244 => (if t243 = t244 then (some (x6, true)) else (some (0, false)))))
def branch_town_is.j1 : Nat → List Int → Int → Int → Int → List Int → Int → Int → Bool → Int → List (S30) → Option (Int × Bool)
  | 0, _, _, _, _, _, _, _, _, _, _ => none
  | k + 1, x1, x6, x7, x9, x18, x19, x20, x62, x1000, x1001 => if x62 = true then (some (0, false)) else (if 0 ≤ x9 then (if x9 < (x1001.length : Int) then (if 0 ≤ ((rd_T30 x1001 x9).f1) then (branch_town_is.l0 k x1 (wrap64 (x6 + ((rd_T30 x1001 x9).f2))) (Go.bits .or .i64 x7 (shl .i64 1 ((rd_T30 x1001 x9).f1))) x18 x19 (wrap64 (x20 + 1)) x1000 x1001) else (none)) else (none)) else (none))
end
def branch_town_is.f (k : Nat) (a0_0 : Int) (l0_1 : List (S30)) (l1 : List Int) : Option (Int × Bool) := if (l1.length : Int) = (wrap64 (a0_0 - 1)) then (branch_town_is.l0 k l1 0 1 l1 (l1.length : Int) 0 a0_0 l0_1) else (some (0, false))
set_option maxHeartbeats 8000000 in
set_option maxRecDepth 100000 in
theorem branch_town_is.calls (k : Nat) (g0 : Nat) (a0_0 : Int) (A0_1 : Option Addr) (c0_1 : Nat) (l0_1 : List (S30)) (a0_2 : Option Nat) (A1 : Option Addr) (c1 : Nat) (l1 : List Int) (r1 : Int) (r2 : Bool) (w : World) (hP0 : w.heap[g0]? = some (.cells #[.int .i64 a0_0, .slice A0_1 l0_1.length c0_1, .map a0_2] 70 (0, 0))) (hr0_1 : Kd.C k30 w A0_1 l0_1.length l0_1) (hc0_1 : l0_1.length ≤ c0_1) (hr1 : Kd.C (Kd.int .i64) w A1 l1.length l1) (hc1 : l1.length ≤ c1) (h : branch_town_is.f k a0_0 l0_1 l1 = some (r1, r2)) :
    Calls Try.prog 61 #[.pointer (some ⟨g0, 0, none⟩), .slice A1 l1.length c1] w fun e w' => e = .returned (.tuple #[.int .i64 r1, .bool r2]) ∧ Below w.heap.size w w' := by
  have HP0 := Aside0.mk hP0
  clear hP0
  have HR0_1 := Aside0.mk hr0_1
  have HC0_1 := Aside0.mk hc0_1
  clear hr0_1 hc0_1
  have HR1 := Aside0.mk hr1
  have HC1 := Aside0.mk hc1
  clear hr1 hc1
  have HB := Aside0.mk (Below.refl w.heap.size w)
  have H : (if (l1.length : Int) = (wrap64 (a0_0 - 1)) then (branch_town_is.l0 k l1 0 1 l1 (l1.length : Int) 0 a0_0 l0_1) else (some (0, false))) = some (r1, r2) := h
  clear h
  by_cases c3 : (l1.length : Int) = (wrap64 (a0_0 - 1))
  · rw [if_pos c3] at H
    have c3b0 : ((l1.length : Int) == (wrap64 (a0_0 - 1))) = true := beq_iff_eq.mpr c3
    have c3b1 : ((l1.length : Int) != (wrap64 (a0_0 - 1))) = false := bne_eq_false_iff_eq.mpr c3
    clear c3
    have H' := Aside0.mk H
    clear H
    have hx231_0 := blk_cell HP0.out 0
    replace hx231_0 := hx231_0.trans rfl
    have hx231_1 := blk_cell HP0.out 1
    replace hx231_1 := hx231_1.trans rfl
    have hx231_2 := blk_cell HP0.out 2
    replace hx231_2 := hx231_2.trans rfl
    go_enter Try.func61, Try.ntmps61
    go_wp2
    go_loopg [6, 7, 20] k (fun kq v6 v7 v20 w' => ∃ (x6_1 : Int) (x7_1 : Int) (x20_1 : Int), v6 = .int .i64 x6_1 ∧ v7 = .int .i64 x7_1 ∧ v20 = .int .i64 x20_1 ∧ Aside0 (branch_town_is.l0 kq l1 x6_1 x7_1 l1 (l1.length : Int) x20_1 a0_0 l0_1 = some (r1, r2)) ∧ Aside0 (kq ≤ k) ∧ Aside0 (Below w.heap.size w w'))
    case atStart => exact ⟨(0), (1), (0), (by first | rfl | (simp; done) | (simp [*]; done)), (by first | rfl | (simp; done) | (simp [*]; done)), (by first | rfl | (simp; done) | (simp [*]; done)), H', ⟨Nat.le_refl _⟩, ⟨by repeat (first | (with_reducible first | exact HB.out | apply below_alloc | apply pw_below_drewN | apply below_drew1) | exact HB.out)⟩⟩
    case round =>
      clear H'
      try clear c1
      try clear p2
      try clear hx2
      try clear c3
      try clear c3b0
      try clear c3b1
      try clear hx231_0
      try clear hx231_1
      try clear hx231_2
      obtain ⟨x6_1, x7_1, x20_1, rfl, rfl, rfl, HA, HK1, HB⟩ := hrel
      cases gk with
      | zero => exact absurd HA.out (by simp [branch_town_is.l0])
      | succ k1 =>
        have H := HA.out
        clear HA
        simp only [branch_town_is.l0] at H
        by_cases c4 : x20_1 < (l1.length : Int)
        · rw [if_pos c4] at H
          have c4b0 : decide (x20_1 < (l1.length : Int)) = true := decide_eq_true c4
          clear c4
          by_cases c5 : 0 ≤ x20_1
          · rw [if_pos c5] at H
            have c5b0 : decide (0 ≤ x20_1) = true := decide_eq_true c5
            clear c5
            by_cases c6 : x20_1 < (l1.length : Int)
            · rw [if_pos c6] at H
              have c6b0 : decide (x20_1 < (l1.length : Int)) = true := decide_eq_true c6
              clear c6
              have HC7 := Aside0.mk H
              clear H
              have p232 : 0 ≤ (x20_1 : Int) := of_decide_eq_true (by first | (with_reducible assumption) | assumption)
              have q232 : x20_1 < (l1.length : Int) := of_decide_eq_true (by first | (with_reducible assumption) | assumption)
              obtain ⟨ad232, e232, hx232_0⟩ := Kd.at_int HR1.out x20_1 p232 q232
              cases e232
              replace hx232_0 := (HB.out.cell (World.block_lt_of_cell? w _ hx232_0)).trans hx232_0
              replace p232 := eq_true p232
              replace q232 := eq_true q232
              go_upto_region 7 with (fail)
              go_cut [62] (fun v62 wc => ∃ (kq : Nat) (x62_6 : Bool), v62 = .bool x62_6 ∧ Aside0 (branch_town_is.j1 kq l1 x6_1 x7_1 (rd l1 x20_1) l1 (l1.length : Int) x20_1 x62_6 a0_0 l0_1 = some (r1, r2)) ∧ Aside0 (kq ≤ k1) ∧ Aside0 (Below w.heap.size w wc))
              case first =>
                have H := HC7.out
                clear HC7
                by_cases c8 : (rd l1 x20_1) < 0
                · rw [if_pos c8] at H
                  have c8b0 : decide ((rd l1 x20_1) < 0) = true := decide_eq_true c8
                  clear c8
                  (first | rw [c8b0] | (simp only [i64_w, i32_w]; rw [c8b0]) | skip)
                  have H' := Aside0.mk H
                  clear H
                  go_wp2
                  go_meet
                  case rel => exact ⟨_, (true), (by first | rfl | (simp; done) | (simp [*]; done)), H', ⟨by have := HK1.out; first | omega | exact Nat.le_refl _⟩, ⟨by repeat (first | (with_reducible first | exact HB.out | apply below_alloc | apply pw_below_drewN | apply below_drew1) | exact HB.out)⟩⟩
                · rw [if_neg c8] at H
                  have c8b0 : decide ((rd l1 x20_1) < 0) = false := decide_eq_false c8
                  clear c8
                  (first | rw [c8b0] | (simp only [i64_w, i32_w]; rw [c8b0]) | skip)
                  by_cases c9 : (rd l1 x20_1) ≥ (l0_1.length : Int)
                  · rw [if_pos c9] at H
                    have c9b0 : decide ((l0_1.length : Int) ≤ (rd l1 x20_1)) = true := decide_eq_true c9
                    clear c9
                    have H' := Aside0.mk H
                    clear H
                    have hx233_0 := blk_cell HP0.out 0
                    replace hx233_0 := hx233_0.trans rfl
                    replace hx233_0 := (HB.out.cell (World.block_lt_of_cell? w _ hx233_0)).trans hx233_0
                    have hx233_1 := blk_cell HP0.out 1
                    replace hx233_1 := hx233_1.trans rfl
                    replace hx233_1 := (HB.out.cell (World.block_lt_of_cell? w _ hx233_1)).trans hx233_1
                    have hx233_2 := blk_cell HP0.out 2
                    replace hx233_2 := hx233_2.trans rfl
                    replace hx233_2 := (HB.out.cell (World.block_lt_of_cell? w _ hx233_2)).trans hx233_2
                    go_wp2
                    go_meet
                    case rel => exact ⟨_, (true), (by first | rfl | (simp; done) | (simp [*]; done)), H', ⟨by have := HK1.out; first | omega | exact Nat.le_refl _⟩, ⟨by repeat (first | (with_reducible first | exact HB.out | apply below_alloc | apply pw_below_drewN | apply below_drew1) | exact HB.out)⟩⟩
                  · rw [if_neg c9] at H
                    have c9b0 : decide ((l0_1.length : Int) ≤ (rd l1 x20_1)) = false := decide_eq_false c9
                    clear c9
                    by_cases c10 : x20_1 > 0
                    · rw [if_pos c10] at H
                      have c10b0 : decide (0 < x20_1) = true := decide_eq_true c10
                      clear c10
                      obtain ⟨ji11, hji11⟩ : ∃ j_ : Int, (wrap64 (x20_1 - 1)) = j_ := ⟨_, rfl⟩
                      replace H : (if 0 ≤ (ji11) then (if (ji11) < (l1.length : Int) then (if (rd l1 x20_1) ≤ (rd l1 (ji11)) then (branch_town_is.j1 k1 l1 x6_1 x7_1 (rd l1 x20_1) l1 (l1.length : Int) x20_1 true a0_0 l0_1) else (if 0 ≤ (rd l1 x20_1) then (if (rd l1 x20_1) < (l0_1.length : Int) then (if 0 ≤ ((rd_T30 l0_1 (rd l1 x20_1)).f1) then (branch_town_is.j1 k1 l1 x6_1 x7_1 (rd l1 x20_1) l1 (l1.length : Int) x20_1 ((Go.bits .and .i64 (shr .i64 x7_1 ((rd_T30 l0_1 (rd l1 x20_1)).f1)) 1) == 1) a0_0 l0_1) else (none)) else (none)) else (none))) else (none)) else (none)) = some (r1, r2) := by first | (rw [hji11] at H; exact H) | (simp only [hji11] at H ⊢; exact H)
                      have hji11w : (IntKind.i64.wrap (x20_1 - 1)) = ji11 := (i64_w _).trans hji11
                      by_cases c12 : 0 ≤ (ji11)
                      · rw [if_pos c12] at H
                        have c12b0 : decide (0 ≤ (ji11)) = true := decide_eq_true c12
                        clear c12
                        by_cases c13 : (ji11) < (l1.length : Int)
                        · rw [if_pos c13] at H
                          have c13b0 : decide ((ji11) < (l1.length : Int)) = true := decide_eq_true c13
                          clear c13
                          by_cases c14 : (rd l1 x20_1) ≤ (rd l1 (ji11))
                          · rw [if_pos c14] at H
                            have c14b0 : decide ((rd l1 x20_1) ≤ (rd l1 (ji11))) = true := decide_eq_true c14
                            clear c14
                            have H' := Aside0.mk H
                            clear H
                            have hx233_0 := blk_cell HP0.out 0
                            replace hx233_0 := hx233_0.trans rfl
                            replace hx233_0 := (HB.out.cell (World.block_lt_of_cell? w _ hx233_0)).trans hx233_0
                            have hx233_1 := blk_cell HP0.out 1
                            replace hx233_1 := hx233_1.trans rfl
                            replace hx233_1 := (HB.out.cell (World.block_lt_of_cell? w _ hx233_1)).trans hx233_1
                            have hx233_2 := blk_cell HP0.out 2
                            replace hx233_2 := hx233_2.trans rfl
                            replace hx233_2 := (HB.out.cell (World.block_lt_of_cell? w _ hx233_2)).trans hx233_2
                            have p234 : 0 ≤ ((ji11) : Int) := of_decide_eq_true (by first | (with_reducible assumption) | assumption)
                            have q234 : (ji11) < (l1.length : Int) := of_decide_eq_true (by first | (with_reducible assumption) | assumption)
                            obtain ⟨ad234, e234, hx234_0⟩ := Kd.at_int HR1.out (ji11) p234 q234
                            obtain rfl : ad232 = ad234 := (by injection e234)
                            replace hx234_0 := (HB.out.cell (World.block_lt_of_cell? w _ hx234_0)).trans hx234_0
                            replace p234 := eq_true p234
                            replace q234 := eq_true q234
                            go_wp2
                            go_meet
                            case rel => exact ⟨_, (true), (by first | rfl | (simp; done) | (simp [*]; done)), H', ⟨by have := HK1.out; first | omega | exact Nat.le_refl _⟩, ⟨by repeat (first | (with_reducible first | exact HB.out | apply below_alloc | apply pw_below_drewN | apply below_drew1) | exact HB.out)⟩⟩
                          · rw [if_neg c14] at H
                            have c14b0 : decide ((rd l1 x20_1) ≤ (rd l1 (ji11))) = false := decide_eq_false c14
                            clear c14
                            by_cases c15 : 0 ≤ (rd l1 x20_1)
                            · rw [if_pos c15] at H
                              have c15b0 : decide (0 ≤ (rd l1 x20_1)) = true := decide_eq_true c15
                              clear c15
                              by_cases c16 : (rd l1 x20_1) < (l0_1.length : Int)
                              · rw [if_pos c16] at H
                                have c16b0 : decide ((rd l1 x20_1) < (l0_1.length : Int)) = true := decide_eq_true c16
                                clear c16
                                by_cases c17 : 0 ≤ ((rd_T30 l0_1 (rd l1 x20_1)).f1)
                                · rw [if_pos c17] at H
                                  have c17b0 := eq_true c17
                                  have c17b1 : decide (0 ≤ ((rd_T30 l0_1 (rd l1 x20_1)).f1)) = true := decide_eq_true c17
                                  clear c17
                                  obtain ⟨ji18, hji18⟩ : ∃ j_ : Int, (shr .i64 x7_1 ((rd_T30 l0_1 (rd l1 x20_1)).f1)) = j_ := ⟨_, rfl⟩
                                  replace H : (branch_town_is.j1 k1 l1 x6_1 x7_1 (rd l1 x20_1) l1 (l1.length : Int) x20_1 ((Go.bits .and .i64 (ji18) 1) == 1) a0_0 l0_1) = some (r1, r2) := by first | (rw [hji18] at H; exact H) | (simp only [hji18] at H ⊢; exact H)
                                  have hji18_ : (x7_1 / 2 ^ min ((rd_T30 l0_1 (rd l1 x20_1)).f1).toNat 64) = ji18 := hji18
                                  have hji18z : ((rd_T30 l0_1 (rd l1 x20_1)).f1) ≤ 64 → (x7_1 / 2 ^ ((rd_T30 l0_1 (rd l1 x20_1)).f1).toNat) = ji18 := shr_small hji18
                                  have H' := Aside0.mk H
                                  clear H
                                  have hx233_0 := blk_cell HP0.out 0
                                  replace hx233_0 := hx233_0.trans rfl
                                  replace hx233_0 := (HB.out.cell (World.block_lt_of_cell? w _ hx233_0)).trans hx233_0
                                  have hx233_1 := blk_cell HP0.out 1
                                  replace hx233_1 := hx233_1.trans rfl
                                  replace hx233_1 := (HB.out.cell (World.block_lt_of_cell? w _ hx233_1)).trans hx233_1
                                  have hx233_2 := blk_cell HP0.out 2
                                  replace hx233_2 := hx233_2.trans rfl
                                  replace hx233_2 := (HB.out.cell (World.block_lt_of_cell? w _ hx233_2)).trans hx233_2
                                  have p234 : 0 ≤ ((ji11) : Int) := of_decide_eq_true (by first | (with_reducible assumption) | assumption)
                                  have q234 : (ji11) < (l1.length : Int) := of_decide_eq_true (by first | (with_reducible assumption) | assumption)
                                  obtain ⟨ad234, e234, hx234_0⟩ := Kd.at_int HR1.out (ji11) p234 q234
                                  obtain rfl : ad232 = ad234 := (by injection e234)
                                  replace hx234_0 := (HB.out.cell (World.block_lt_of_cell? w _ hx234_0)).trans hx234_0
                                  replace p234 := eq_true p234
                                  replace q234 := eq_true q234
                                  have hx235_0 := blk_cell HP0.out 0
                                  replace hx235_0 := hx235_0.trans rfl
                                  replace hx235_0 := (HB.out.cell (World.block_lt_of_cell? w _ hx235_0)).trans hx235_0
                                  have hx235_1 := blk_cell HP0.out 1
                                  replace hx235_1 := hx235_1.trans rfl
                                  replace hx235_1 := (HB.out.cell (World.block_lt_of_cell? w _ hx235_1)).trans hx235_1
                                  have hx235_2 := blk_cell HP0.out 2
                                  replace hx235_2 := hx235_2.trans rfl
                                  replace hx235_2 := (HB.out.cell (World.block_lt_of_cell? w _ hx235_2)).trans hx235_2
                                  have p236 : 0 ≤ ((rd l1 x20_1) : Int) := of_decide_eq_true (by first | (with_reducible assumption) | assumption)
                                  have q236 : (rd l1 x20_1) < (l0_1.length : Int) := of_decide_eq_true (by first | (with_reducible assumption) | assumption)
                                  obtain ⟨ad236, e236, hx236_0, hx236_1, hx236_2⟩ := at_T30 HR0_1.out (rd l1 x20_1) p236 q236
                                  cases e236
                                  replace hx236_0 := (HB.out.cell (World.block_lt_of_cell? w _ hx236_0)).trans hx236_0
                                  replace hx236_1 := (HB.out.cell (World.block_lt_of_cell? w _ hx236_1)).trans hx236_1
                                  replace hx236_2 := (HB.out.cell (World.block_lt_of_cell? w _ hx236_2)).trans hx236_2
                                  replace p236 := eq_true p236
                                  replace q236 := eq_true q236
                                  go_wp2
                                  go_meet
                                  case rel => exact ⟨_, (((Go.bits .and .i64 (ji18) 1) == 1)), (by first | rfl | (simp; done) | (simp only [← hji18] <;> (first | rfl | simp)) | (simp [*]; done)), H', ⟨by have := HK1.out; first | omega | exact Nat.le_refl _⟩, ⟨by repeat (first | (with_reducible first | exact HB.out | apply below_alloc | apply pw_below_drewN | apply below_drew1) | exact HB.out)⟩⟩
                                · rw [if_neg c17] at H
                                  exact absurd H (by simp)
                              · rw [if_neg c16] at H
                                exact absurd H (by simp)
                            · rw [if_neg c15] at H
                              exact absurd H (by simp)
                        · rw [if_neg c13] at H
                          exact absurd H (by simp)
                      · rw [if_neg c12] at H
                        exact absurd H (by simp)
                    · rw [if_neg c10] at H
                      have c10b0 : decide (0 < x20_1) = false := decide_eq_false c10
                      clear c10
                      by_cases c19 : 0 ≤ (rd l1 x20_1)
                      · rw [if_pos c19] at H
                        have c19b0 : decide (0 ≤ (rd l1 x20_1)) = true := decide_eq_true c19
                        clear c19
                        by_cases c20 : (rd l1 x20_1) < (l0_1.length : Int)
                        · rw [if_pos c20] at H
                          have c20b0 : decide ((rd l1 x20_1) < (l0_1.length : Int)) = true := decide_eq_true c20
                          clear c20
                          by_cases c21 : 0 ≤ ((rd_T30 l0_1 (rd l1 x20_1)).f1)
                          · rw [if_pos c21] at H
                            have c21b0 := eq_true c21
                            have c21b1 : decide (0 ≤ ((rd_T30 l0_1 (rd l1 x20_1)).f1)) = true := decide_eq_true c21
                            clear c21
                            obtain ⟨ji22, hji22⟩ : ∃ j_ : Int, (shr .i64 x7_1 ((rd_T30 l0_1 (rd l1 x20_1)).f1)) = j_ := ⟨_, rfl⟩
                            replace H : (branch_town_is.j1 k1 l1 x6_1 x7_1 (rd l1 x20_1) l1 (l1.length : Int) x20_1 ((Go.bits .and .i64 (ji22) 1) == 1) a0_0 l0_1) = some (r1, r2) := by first | (rw [hji22] at H; exact H) | (simp only [hji22] at H ⊢; exact H)
                            have hji22_ : (x7_1 / 2 ^ min ((rd_T30 l0_1 (rd l1 x20_1)).f1).toNat 64) = ji22 := hji22
                            have hji22z : ((rd_T30 l0_1 (rd l1 x20_1)).f1) ≤ 64 → (x7_1 / 2 ^ ((rd_T30 l0_1 (rd l1 x20_1)).f1).toNat) = ji22 := shr_small hji22
                            have H' := Aside0.mk H
                            clear H
                            have hx233_0 := blk_cell HP0.out 0
                            replace hx233_0 := hx233_0.trans rfl
                            replace hx233_0 := (HB.out.cell (World.block_lt_of_cell? w _ hx233_0)).trans hx233_0
                            have hx233_1 := blk_cell HP0.out 1
                            replace hx233_1 := hx233_1.trans rfl
                            replace hx233_1 := (HB.out.cell (World.block_lt_of_cell? w _ hx233_1)).trans hx233_1
                            have hx233_2 := blk_cell HP0.out 2
                            replace hx233_2 := hx233_2.trans rfl
                            replace hx233_2 := (HB.out.cell (World.block_lt_of_cell? w _ hx233_2)).trans hx233_2
                            have hx237_0 := blk_cell HP0.out 0
                            replace hx237_0 := hx237_0.trans rfl
                            replace hx237_0 := (HB.out.cell (World.block_lt_of_cell? w _ hx237_0)).trans hx237_0
                            have hx237_1 := blk_cell HP0.out 1
                            replace hx237_1 := hx237_1.trans rfl
                            replace hx237_1 := (HB.out.cell (World.block_lt_of_cell? w _ hx237_1)).trans hx237_1
                            have hx237_2 := blk_cell HP0.out 2
                            replace hx237_2 := hx237_2.trans rfl
                            replace hx237_2 := (HB.out.cell (World.block_lt_of_cell? w _ hx237_2)).trans hx237_2
                            have p238 : 0 ≤ ((rd l1 x20_1) : Int) := of_decide_eq_true (by first | (with_reducible assumption) | assumption)
                            have q238 : (rd l1 x20_1) < (l0_1.length : Int) := of_decide_eq_true (by first | (with_reducible assumption) | assumption)
                            obtain ⟨ad238, e238, hx238_0, hx238_1, hx238_2⟩ := at_T30 HR0_1.out (rd l1 x20_1) p238 q238
                            cases e238
                            replace hx238_0 := (HB.out.cell (World.block_lt_of_cell? w _ hx238_0)).trans hx238_0
                            replace hx238_1 := (HB.out.cell (World.block_lt_of_cell? w _ hx238_1)).trans hx238_1
                            replace hx238_2 := (HB.out.cell (World.block_lt_of_cell? w _ hx238_2)).trans hx238_2
                            replace p238 := eq_true p238
                            replace q238 := eq_true q238
                            go_wp2
                            go_meet
                            case rel => exact ⟨_, (((Go.bits .and .i64 (ji22) 1) == 1)), (by first | rfl | (simp; done) | (simp only [← hji22] <;> (first | rfl | simp)) | (simp [*]; done)), H', ⟨by have := HK1.out; first | omega | exact Nat.le_refl _⟩, ⟨by repeat (first | (with_reducible first | exact HB.out | apply below_alloc | apply pw_below_drewN | apply below_drew1) | exact HB.out)⟩⟩
                          · rw [if_neg c21] at H
                            exact absurd H (by simp)
                        · rw [if_neg c20] at H
                          exact absurd H (by simp)
                      · rw [if_neg c19] at H
                        exact absurd H (by simp)
              case rest =>
                clear HC7
                try clear c1
                try clear c2
                try clear p2
                try clear q2
                try clear hx2
                try clear c3
                try clear c3b0
                try clear c3b1
                try clear c4
                try clear c4b0
                try clear c5
                try clear c5b0
                try clear c6
                try clear c6b0
                try clear p6
                try clear c8
                try clear c8b0
                try clear c9
                try clear c9b0
                try clear c10
                try clear c10b0
                try clear c12
                try clear c12b0
                try clear c13
                try clear c13b0
                try clear c14
                try clear c14b0
                try clear c15
                try clear c15b0
                try clear c16
                try clear c16b0
                try clear c17
                try clear c17b0
                try clear c17b1
                try clear c19
                try clear c19b0
                try clear c20
                try clear c20b0
                try clear c21
                try clear c21b0
                try clear c21b1
                try clear hx231_0
                try clear hx231_1
                try clear hx231_2
                try clear hx232_0
                try clear hx233_0
                try clear hx233_1
                try clear hx233_2
                try clear hx234_0
                try clear hx235_0
                try clear hx235_1
                try clear hx235_2
                try clear hx236_0
                try clear hx236_1
                try clear hx236_2
                try clear hx237_0
                try clear hx237_1
                try clear hx237_2
                try clear hx238_0
                try clear hx238_1
                try clear hx238_2
                try clear p2
                try clear p232
                try clear p234
                try clear p236
                try clear p238
                try clear q232
                try clear q234
                try clear q236
                try clear q238
                obtain ⟨kq, x62_6, rfl, HA, HJ6, HB⟩ := hcut
                cases kq with
                | zero => exact absurd HA.out (by simp [branch_town_is.j1])
                | succ kj6 =>
                  have H := HA.out
                  clear HA
                  simp only [branch_town_is.j1] at H
                  by_cases c23 : x62_6 = true
                  · subst c23
                    have H1 : (some (0, false)) = some (r1, r2) := by rw [if_pos rfl] at H; exact H
                    clear H
                    have H := H1
                    clear H1
                    simp only [Option.some.injEq, Prod.mk.injEq] at H
                    obtain ⟨rfl, rfl⟩ := H
                    go_wp2
                    go_ret2
                    exact ⟨by first | rfl | (simp [errW_none, errW_some] <;> rfl) | (simp [*, errW_none, errW_some] <;> rfl), by repeat (first | (with_reducible first | exact HB.out | apply below_alloc | apply pw_below_drewN | apply below_drew1) | exact HB.out)⟩
                  · replace c23 := Bool.eq_false_iff.mpr c23
                    subst c23
                    have H1 : (if 0 ≤ (rd l1 x20_1) then (if (rd l1 x20_1) < (l0_1.length : Int) then (if 0 ≤ ((rd_T30 l0_1 (rd l1 x20_1)).f1) then (branch_town_is.l0 kj6 l1 (wrap64 (x6_1 + ((rd_T30 l0_1 (rd l1 x20_1)).f2))) (Go.bits .or .i64 x7_1 (shl .i64 1 ((rd_T30 l0_1 (rd l1 x20_1)).f1))) l1 (l1.length : Int) (wrap64 (x20_1 + 1)) a0_0 l0_1) else (none)) else (none)) else (none)) = some (r1, r2) := by rw [if_neg (show ¬ (false = true) by decide)] at H; exact H
                    clear H
                    have H := H1
                    clear H1
                    by_cases c24 : 0 ≤ (rd l1 x20_1)
                    · rw [if_pos c24] at H
                      have c24b0 : decide (0 ≤ (rd l1 x20_1)) = true := decide_eq_true c24
                      clear c24
                      by_cases c25 : (rd l1 x20_1) < (l0_1.length : Int)
                      · rw [if_pos c25] at H
                        have c25b0 : decide ((rd l1 x20_1) < (l0_1.length : Int)) = true := decide_eq_true c25
                        clear c25
                        by_cases c26 : 0 ≤ ((rd_T30 l0_1 (rd l1 x20_1)).f1)
                        · rw [if_pos c26] at H
                          have c26b0 := eq_true c26
                          have c26b1 : decide (0 ≤ ((rd_T30 l0_1 (rd l1 x20_1)).f1)) = true := decide_eq_true c26
                          clear c26
                          obtain ⟨ji27, hji27⟩ : ∃ j_ : Int, (shl .i64 1 ((rd_T30 l0_1 (rd l1 x20_1)).f1)) = j_ := ⟨_, rfl⟩
                          replace H : (branch_town_is.l0 kj6 l1 (wrap64 (x6_1 + ((rd_T30 l0_1 (rd l1 x20_1)).f2))) (Go.bits .or .i64 x7_1 (ji27)) l1 (l1.length : Int) (wrap64 (x20_1 + 1)) a0_0 l0_1) = some (r1, r2) := by first | (rw [hji27] at H; exact H) | (simp only [hji27] at H ⊢; exact H)
                          have hji27_ : (IntKind.i64.wrap (1 * 2 ^ min ((rd_T30 l0_1 (rd l1 x20_1)).f1).toNat 64)) = ji27 := hji27
                          have hji27z : ((rd_T30 l0_1 (rd l1 x20_1)).f1) ≤ 64 → (IntKind.i64.wrap (1 * 2 ^ ((rd_T30 l0_1 (rd l1 x20_1)).f1).toNat)) = ji27 := shl_small hji27
                          have hji27u : (IntKind.i64.wrap (2 ^ min ((rd_T30 l0_1 (rd l1 x20_1)).f1).toNat 64)) = ji27 := by have h_ := hji27_; rw [Int.one_mul] at h_; exact h_
                          have hji27v : ((rd_T30 l0_1 (rd l1 x20_1)).f1) ≤ 64 → (IntKind.i64.wrap (2 ^ ((rd_T30 l0_1 (rd l1 x20_1)).f1).toNat)) = ji27 := fun hle_ => by have h_ := hji27z hle_; rw [Int.one_mul] at h_; exact h_
                          have hji27y : (wrap64 (1 * 2 ^ min ((rd_T30 l0_1 (rd l1 x20_1)).f1).toNat 64)) = ji27 := (i64_w _).symm.trans hji27_
                          have hji27x : ((rd_T30 l0_1 (rd l1 x20_1)).f1) ≤ 64 → (wrap64 (1 * 2 ^ ((rd_T30 l0_1 (rd l1 x20_1)).f1).toNat)) = ji27 := fun h_ => (i64_w _).symm.trans (hji27z h_)
                          have H' := Aside0.mk H
                          clear H
                          have hx239_0 := blk_cell HP0.out 0
                          replace hx239_0 := hx239_0.trans rfl
                          replace hx239_0 := (HB.out.cell (World.block_lt_of_cell? w _ hx239_0)).trans hx239_0
                          have hx239_1 := blk_cell HP0.out 1
                          replace hx239_1 := hx239_1.trans rfl
                          replace hx239_1 := (HB.out.cell (World.block_lt_of_cell? w _ hx239_1)).trans hx239_1
                          have hx239_2 := blk_cell HP0.out 2
                          replace hx239_2 := hx239_2.trans rfl
                          replace hx239_2 := (HB.out.cell (World.block_lt_of_cell? w _ hx239_2)).trans hx239_2
                          have p240 : 0 ≤ ((rd l1 x20_1) : Int) := of_decide_eq_true (by first | (with_reducible assumption) | assumption)
                          have q240 : (rd l1 x20_1) < (l0_1.length : Int) := of_decide_eq_true (by first | (with_reducible assumption) | assumption)
                          obtain ⟨ad240, e240, hx240_0, hx240_1, hx240_2⟩ := at_T30 HR0_1.out (rd l1 x20_1) p240 q240
                          cases e240
                          replace hx240_0 := (HB.out.cell (World.block_lt_of_cell? w _ hx240_0)).trans hx240_0
                          replace hx240_1 := (HB.out.cell (World.block_lt_of_cell? w _ hx240_1)).trans hx240_1
                          replace hx240_2 := (HB.out.cell (World.block_lt_of_cell? w _ hx240_2)).trans hx240_2
                          replace p240 := eq_true p240
                          replace q240 := eq_true q240
                          have hx241_0 := blk_cell HP0.out 0
                          replace hx241_0 := hx241_0.trans rfl
                          replace hx241_0 := (HB.out.cell (World.block_lt_of_cell? w _ hx241_0)).trans hx241_0
                          have hx241_1 := blk_cell HP0.out 1
                          replace hx241_1 := hx241_1.trans rfl
                          replace hx241_1 := (HB.out.cell (World.block_lt_of_cell? w _ hx241_1)).trans hx241_1
                          have hx241_2 := blk_cell HP0.out 2
                          replace hx241_2 := hx241_2.trans rfl
                          replace hx241_2 := (HB.out.cell (World.block_lt_of_cell? w _ hx241_2)).trans hx241_2
                          have p242 : 0 ≤ ((rd l1 x20_1) : Int) := of_decide_eq_true (by first | (with_reducible assumption) | assumption)
                          have q242 : (rd l1 x20_1) < (l0_1.length : Int) := of_decide_eq_true (by first | (with_reducible assumption) | assumption)
                          obtain ⟨ad242, e242, hx242_0, hx242_1, hx242_2⟩ := at_T30 HR0_1.out (rd l1 x20_1) p242 q242
                          obtain rfl : ad240 = ad242 := (by injection e242)
                          replace hx242_0 := (HB.out.cell (World.block_lt_of_cell? w _ hx242_0)).trans hx242_0
                          replace hx242_1 := (HB.out.cell (World.block_lt_of_cell? w _ hx242_1)).trans hx242_1
                          replace hx242_2 := (HB.out.cell (World.block_lt_of_cell? w _ hx242_2)).trans hx242_2
                          replace p242 := eq_true p242
                          replace q242 := eq_true q242
                          go_wp2
                          go_roundg kj6
                          case measure => have := HK1.out; have := HJ6.out; omega
                          case rel => exact ⟨(wrap64 (x6_1 + ((rd_T30 l0_1 (rd l1 x20_1)).f2))), (Go.bits .or .i64 x7_1 (ji27)), (wrap64 (x20_1 + 1)), (by first | rfl | (simp; done) | (simp [*]; done)), (by first | rfl | (simp; done) | (simp only [← hji27] <;> (first | rfl | simp)) | (simp [*]; done)), (by first | rfl | (simp; done) | (simp [*]; done)), H', ⟨by have := HK1.out; have := HJ6.out; omega⟩, ⟨by repeat (first | (with_reducible first | exact HB.out | apply below_alloc | apply pw_below_drewN | apply below_drew1) | exact HB.out)⟩⟩
                        · rw [if_neg c26] at H
                          exact absurd H (by simp)
                      · rw [if_neg c25] at H
                        exact absurd H (by simp)
                    · rw [if_neg c24] at H
                      exact absurd H (by simp)
            · rw [if_neg c6] at H
              exact absurd H (by simp)
          · rw [if_neg c5] at H
            exact absurd H (by simp)
        · rw [if_neg c4] at H
          have c4b0 : decide (x20_1 < (l1.length : Int)) = false := decide_eq_false c4
          clear c4
          replace H := Option.bind_eq_some_iff.mp H
          obtain ⟨t243, A280, H⟩ := H
          replace H : ((branch_town_everybody.f a0_0 l0_1).bind fun t244 => (if t243 = t244 then (some (x6_1, true)) else (some (0, false)))) = some (r1, r2) := H
          have A28 := Aside0.mk A280
          clear A280
          replace H := Option.bind_eq_some_iff.mp H
          obtain ⟨t244, A290, H⟩ := H
          replace H : (if t243 = t244 then (some (x6_1, true)) else (some (0, false))) = some (r1, r2) := H
          have A29 := Aside0.mk A290
          clear A290
          by_cases c30 : t243 = t244
          · rw [if_pos c30] at H
            have c30b0 : (t243 == t244) = true := beq_iff_eq.mpr c30
            have c30b1 : (t243 != t244) = false := bne_eq_false_iff_eq.mpr c30
            clear c30
            simp only [Option.some.injEq, Prod.mk.injEq] at H
            obtain ⟨rfl, rfl⟩ := H
            go_wp2_with (first | ((with_reducible refine gate_callee (f := 54) rfl ?_); refine goesL_ (some 87) rfl rfl Try.func54 (by kernel_rfl) rfl #[.pointer (some ⟨g0, 0, none⟩), .slice A1 l1.length c1] rfl (by (try simp only [List.map_toArray, List.map_cons, List.map_nil]); first | done | rfl | (simp only [List.length_drop, List.length_take]; rfl)) ?_; (with_reducible refine (branch_town_reach.calls k1 g0 a0_0 A0_1 c0_1 l0_1 a0_2 _ _ l1 t243 _ ?side1 ?side2 ?side3 ?side4 ?side5 A28.out).mono ?_); (case side1 => exact ((show Below _ _ _ from by repeat (first | (with_reducible first | exact HB.out | apply below_alloc | apply pw_below_drewN | apply below_drew1) | exact HB.out)).block _ (blk_lt HP0.out)).trans HP0.out); (case side2 => repeat (first | exact (Kd.C_below HR0_1.out HB.out) | (with_reducible refine Kd.C_alloc ?_ _) | (with_reducible refine Kd.C_drewN ?_ _) | (with_reducible refine Kd.C_drew ?_))); (case side3 => exact HC0_1.out); (case side4 => repeat (first | exact (Kd.C_below HR1.out HB.out) | (with_reducible refine Kd.C_alloc ?_ _) | (with_reducible refine Kd.C_drewN ?_ _) | (with_reducible refine Kd.C_drew ?_))); (case side5 => exact HC1.out); rintro e w31 ⟨rfl, hb⟩; refine ⟨_, rfl, ?_⟩; have n0_ := Aside0.mk (below_step (by repeat (first | (with_reducible first | exact HB.out | apply below_alloc | apply pw_below_drewN | apply below_drew1) | exact HB.out)) hb); clear HB; have HB := n0_; clear n0_; (try clear hb); (try clear hb2); (try clear hk); (try clear hi)) | ((with_reducible refine gate_callee (f := 74) rfl ?_); refine goesL_ (some 89) rfl rfl Try.func74 (by kernel_rfl) rfl #[.pointer (some ⟨g0, 0, none⟩)] rfl (by (try simp only [List.map_toArray, List.map_cons, List.map_nil]); first | done | rfl | (simp only [List.length_drop, List.length_take]; rfl)) ?_; (with_reducible refine (branch_town_everybody.calls g0 a0_0 A0_1 c0_1 l0_1 a0_2 t244 _ ?side1 ?side2 ?side3 A29.out).mono ?_); (case side1 => exact ((show Below _ _ _ from by repeat (first | (with_reducible first | exact HB.out | apply below_alloc | apply pw_below_drewN | apply below_drew1) | exact HB.out)).block _ (blk_lt HP0.out)).trans HP0.out); (case side2 => repeat (first | exact (Kd.C_below HR0_1.out HB.out) | (with_reducible refine Kd.C_alloc ?_ _) | (with_reducible refine Kd.C_drewN ?_ _) | (with_reducible refine Kd.C_drew ?_))); (case side3 => exact HC0_1.out); rintro e w' ⟨rfl, ⟨nd, rfl⟩⟩; refine ⟨_, rfl, ?_⟩))
            go_ret2
            exact ⟨by first | rfl | (simp [errW_none, errW_some] <;> rfl) | (simp [*, errW_none, errW_some] <;> rfl), by repeat (first | (with_reducible first | exact HB.out | apply below_alloc | apply pw_below_drewN | apply below_drew1) | exact HB.out)⟩
          · rw [if_neg c30] at H
            have c30b0 : (t243 == t244) = false := beq_eq_false_iff_ne.mpr c30
            have c30b1 : (t243 != t244) = true := bne_iff_ne.mpr c30
            simp only [Option.some.injEq, Prod.mk.injEq] at H
            obtain ⟨rfl, rfl⟩ := H
            go_wp2_with (first | ((with_reducible refine gate_callee (f := 54) rfl ?_); refine goesL_ (some 87) rfl rfl Try.func54 (by kernel_rfl) rfl #[.pointer (some ⟨g0, 0, none⟩), .slice A1 l1.length c1] rfl (by (try simp only [List.map_toArray, List.map_cons, List.map_nil]); first | done | rfl | (simp only [List.length_drop, List.length_take]; rfl)) ?_; (with_reducible refine (branch_town_reach.calls k1 g0 a0_0 A0_1 c0_1 l0_1 a0_2 _ _ l1 t243 _ ?side1 ?side2 ?side3 ?side4 ?side5 A28.out).mono ?_); (case side1 => exact ((show Below _ _ _ from by repeat (first | (with_reducible first | exact HB.out | apply below_alloc | apply pw_below_drewN | apply below_drew1) | exact HB.out)).block _ (blk_lt HP0.out)).trans HP0.out); (case side2 => repeat (first | exact (Kd.C_below HR0_1.out HB.out) | (with_reducible refine Kd.C_alloc ?_ _) | (with_reducible refine Kd.C_drewN ?_ _) | (with_reducible refine Kd.C_drew ?_))); (case side3 => exact HC0_1.out); (case side4 => repeat (first | exact (Kd.C_below HR1.out HB.out) | (with_reducible refine Kd.C_alloc ?_ _) | (with_reducible refine Kd.C_drewN ?_ _) | (with_reducible refine Kd.C_drew ?_))); (case side5 => exact HC1.out); rintro e w32 ⟨rfl, hb⟩; refine ⟨_, rfl, ?_⟩; have n0_ := Aside0.mk (below_step (by repeat (first | (with_reducible first | exact HB.out | apply below_alloc | apply pw_below_drewN | apply below_drew1) | exact HB.out)) hb); clear HB; have HB := n0_; clear n0_; (try clear hb); (try clear hb2); (try clear hk); (try clear hi)) | ((with_reducible refine gate_callee (f := 74) rfl ?_); refine goesL_ (some 89) rfl rfl Try.func74 (by kernel_rfl) rfl #[.pointer (some ⟨g0, 0, none⟩)] rfl (by (try simp only [List.map_toArray, List.map_cons, List.map_nil]); first | done | rfl | (simp only [List.length_drop, List.length_take]; rfl)) ?_; (with_reducible refine (branch_town_everybody.calls g0 a0_0 A0_1 c0_1 l0_1 a0_2 t244 _ ?side1 ?side2 ?side3 A29.out).mono ?_); (case side1 => exact ((show Below _ _ _ from by repeat (first | (with_reducible first | exact HB.out | apply below_alloc | apply pw_below_drewN | apply below_drew1) | exact HB.out)).block _ (blk_lt HP0.out)).trans HP0.out); (case side2 => repeat (first | exact (Kd.C_below HR0_1.out HB.out) | (with_reducible refine Kd.C_alloc ?_ _) | (with_reducible refine Kd.C_drewN ?_ _) | (with_reducible refine Kd.C_drew ?_))); (case side3 => exact HC0_1.out); rintro e w' ⟨rfl, ⟨nd, rfl⟩⟩; refine ⟨_, rfl, ?_⟩))
            go_ret2
            exact ⟨by first | rfl | (simp [errW_none, errW_some] <;> rfl) | (simp [*, errW_none, errW_some] <;> rfl), by repeat (first | (with_reducible first | exact HB.out | apply below_alloc | apply pw_below_drewN | apply below_drew1) | exact HB.out)⟩
  · rw [if_neg c3] at H
    have c3b0 : ((l1.length : Int) == (wrap64 (a0_0 - 1))) = false := beq_eq_false_iff_ne.mpr c3
    have c3b1 : ((l1.length : Int) != (wrap64 (a0_0 - 1))) = true := bne_iff_ne.mpr c3
    simp only [Option.some.injEq, Prod.mk.injEq] at H
    obtain ⟨rfl, rfl⟩ := H
    have hx231_0 := blk_cell HP0.out 0
    replace hx231_0 := hx231_0.trans rfl
    have hx231_1 := blk_cell HP0.out 1
    replace hx231_1 := hx231_1.trans rfl
    have hx231_2 := blk_cell HP0.out 2
    replace hx231_2 := hx231_2.trans rfl
    go_enter Try.func61, Try.ntmps61
    go_wp2
    go_ret2
    exact ⟨by first | rfl | (simp [errW_none, errW_some] <;> rfl) | (simp [*, errW_none, errW_some] <;> rfl), by repeat (first | (with_reducible first | exact HB.out | apply below_alloc | apply pw_below_drewN | apply below_drew1) | exact HB.out)⟩
def branch_town_isSet.f (a0_0 : Int) (l0_1 : List (S30)) (a1 : Int) : Option (Bool) := if a1 > 0 then ((branch_town_everybody.f a0_0 l0_1).bind fun t245 => (if a1 ≤ t245 then (some ((Go.bits .and .i64 a1 1) == 0)) else (some false))) else (some false)
set_option maxHeartbeats 8000000 in
set_option maxRecDepth 100000 in
theorem branch_town_isSet.calls (g0 : Nat) (a0_0 : Int) (A0_1 : Option Addr) (c0_1 : Nat) (l0_1 : List (S30)) (a0_2 : Option Nat) (a1 : Int) (r : Bool) (w : World) (hP0 : w.heap[g0]? = some (.cells #[.int .i64 a0_0, .slice A0_1 l0_1.length c0_1, .map a0_2] 70 (0, 0))) (hr0_1 : Kd.C k30 w A0_1 l0_1.length l0_1) (hc0_1 : l0_1.length ≤ c0_1) (h : branch_town_isSet.f a0_0 l0_1 a1 = some r) :
    Calls Try.prog 58 #[.pointer (some ⟨g0, 0, none⟩), .int .i64 a1] w fun e w' => e = .returned (.bool r) ∧ Drawn0 w w' := by
  have HP0 := Aside0.mk hP0
  clear hP0
  have HR0_1 := Aside0.mk hr0_1
  have HC0_1 := Aside0.mk hc0_1
  clear hr0_1 hc0_1
  have H : (if a1 > 0 then ((branch_town_everybody.f a0_0 l0_1).bind fun t245 => (if a1 ≤ t245 then (some ((Go.bits .and .i64 a1 1) == 0)) else (some false))) else (some false)) = some r := h
  clear h
  by_cases c3 : a1 > 0
  · rw [if_pos c3] at H
    have c3b0 : decide (0 < a1) = true := decide_eq_true c3
    clear c3
    replace H := Option.bind_eq_some_iff.mp H
    obtain ⟨t245, A40, H⟩ := H
    replace H : (if a1 ≤ t245 then (some ((Go.bits .and .i64 a1 1) == 0)) else (some false)) = some r := H
    have A4 := Aside0.mk A40
    clear A40
    by_cases c5 : a1 ≤ t245
    · rw [if_pos c5] at H
      have c5b0 : decide (a1 ≤ t245) = true := decide_eq_true c5
      clear c5
      obtain rfl := Option.some.inj H
      go_enter Try.func58, Try.ntmps58
      go_wp2_with (first | (go_at_call 74; (with_reducible refine (branch_town_everybody.calls g0 a0_0 A0_1 c0_1 l0_1 a0_2 t245 _ ?side1 ?side2 ?side3 A4.out).mono ?_); (case side1 => exact HP0.out); (case side2 => repeat (first | exact HR0_1.out | (with_reducible refine Kd.C_alloc ?_ _) | (with_reducible refine Kd.C_drewN ?_ _) | (with_reducible refine Kd.C_drew ?_))); (case side3 => exact HC0_1.out); rintro e w' ⟨rfl, ⟨nd, rfl⟩⟩))
      go_ret
      exact ⟨by first | rfl | (simp; done) | (simp [*]; done), by repeat (first | exact Drawn0.refl _ | apply Drawn0.step)⟩
    · rw [if_neg c5] at H
      have c5b0 : decide (a1 ≤ t245) = false := decide_eq_false c5
      clear c5
      obtain rfl := Option.some.inj H
      go_enter Try.func58, Try.ntmps58
      go_wp2_with (first | (go_at_call 74; (with_reducible refine (branch_town_everybody.calls g0 a0_0 A0_1 c0_1 l0_1 a0_2 t245 _ ?side1 ?side2 ?side3 A4.out).mono ?_); (case side1 => exact HP0.out); (case side2 => repeat (first | exact HR0_1.out | (with_reducible refine Kd.C_alloc ?_ _) | (with_reducible refine Kd.C_drewN ?_ _) | (with_reducible refine Kd.C_drew ?_))); (case side3 => exact HC0_1.out); rintro e w' ⟨rfl, ⟨nd, rfl⟩⟩))
      go_ret
      exact ⟨by first | rfl | (simp; done) | (simp [*]; done), by repeat (first | exact Drawn0.refl _ | apply Drawn0.step)⟩
  · rw [if_neg c3] at H
    have c3b0 : decide (0 < a1) = false := decide_eq_false c3
    clear c3
    obtain rfl := Option.some.inj H
    go_enter Try.func58, Try.ntmps58
    go_wp2
    go_ret
    exact ⟨by first | rfl | (simp; done) | (simp [*]; done), by repeat (first | exact Drawn0.refl _ | apply Drawn0.step)⟩
end Go.Proofs.Ytpmadffgdfholaa.B
namespace Go.Proofs.Ytpmadffgdfholaa.B
open Go.RowKit Go.MapKept Go.Proofs.YtpmadffgdfholaaW.PrintWords Go.Proofs.YtpmadffgdfholaaW.PrintLast Go.Proofs.YtpmadffgdfholaaW.PrintMore
/-- Entries whose keys are whole numbers, each once, with stamps of their own. -/
structure Good (es : Array MapEntry) (clock : Nat) : Prop where
  keys : ∀ e ∈ es.toList, ∃ i, e.key = .int .i64 i
  once : (es.toList.map (·.key)).Nodup
  born : (es.toList.map (·.born)).Nodup
  old : ∀ e ∈ es.toList, e.born < clock
theorem Good.isKey {es : Array MapEntry} {clock : Nat} (h : Good es clock) : ∀ x ∈ es.toList, IsKey (.int .i64) x.key := by
  intro x hx
  obtain ⟨i, hi⟩ := h.keys x hx
  rw [hi]; exact rfl
theorem Good.empty (clock : Nat) : Good #[] clock := ⟨by simp, by simp, by simp, by simp⟩
theorem Good.push {es : Array MapEntry} {clock : Nat} (h : Good es clock) (i : Int) (v : Value) (hn : ∀ e ∈ es.toList, e.key ≠ .int .i64 i) : Good (es.push { key := .int .i64 i, val := v, born := clock }) (clock + 1) := by
  refine ⟨?_, ?_, ?_, ?_⟩
  · intro e he
    simp only [Array.toList_push, List.mem_append, List.mem_singleton] at he
    rcases he with he | rfl
    · exact h.keys e he
    · exact ⟨i, rfl⟩
  · simp only [Array.toList_push, List.map_append, List.map_cons, List.map_nil]
    rw [List.nodup_append]
    refine ⟨h.once, by simp, ?_⟩
    intro a ha b hb
    simp only [List.mem_singleton] at hb
    subst hb
    obtain ⟨e, he, rfl⟩ := List.mem_map.1 ha
    exact hn e he
  · simp only [Array.toList_push, List.map_append, List.map_cons, List.map_nil]
    rw [List.nodup_append]
    refine ⟨h.born, by simp, ?_⟩
    intro a ha b hb
    simp only [List.mem_singleton] at hb
    subst hb
    obtain ⟨e, he, rfl⟩ := List.mem_map.1 ha
    have := h.old e he
    omega
  · intro e he
    simp only [Array.toList_push, List.mem_append, List.mem_singleton] at he
    rcases he with he | rfl
    · exact Nat.lt_succ_of_lt (h.old e he)
    · exact Nat.lt_succ_self _
theorem modify_toList (es : Array MapEntry) (j : Nat) (k v : Value) : (es.modify j fun e => { e with key := k, val := v }).toList = es.toList.modify j (fun e => { e with key := k, val := v }) := by simp
theorem map_modify_id {β : Type} (g : MapEntry → β) (f : MapEntry → MapEntry) (l : List MapEntry) (j : Nat) (h : ∀ e, l[j]? = some e → g (f e) = g e) : (l.modify j f).map g = l.map g := by
  apply List.ext_getElem?
  intro q
  simp only [List.getElem?_map, List.getElem?_modify]
  by_cases hq : j = q
  · subst hq
    cases e : l[j]? with
    | none => simp
    | some x => simp [h x e]
  · simp [hq]
theorem Good.modify {es : Array MapEntry} {clock : Nat} (h : Good es clock) (i : Int) (v : Value) (j : Nat) (hj : ∀ e, es.toList[j]? = some e → e.key = .int .i64 i) : Good (es.modify j fun e => { e with key := .int .i64 i, val := v }) clock := by
  have hk : (es.toList.modify j fun e => { e with key := .int .i64 i, val := v }).map (·.key) = es.toList.map (·.key) := map_modify_id _ _ _ _ fun e he => (hj e he).symm
  have hb : (es.toList.modify j fun e => { e with key := .int .i64 i, val := v }).map (·.born) = es.toList.map (·.born) := map_modify_id _ _ _ _ fun e he => rfl
  refine ⟨?_, ?_, ?_, ?_⟩
  · intro e he
    rw [modify_toList] at he
    have : e.key ∈ es.toList.map (·.key) := hk ▸ List.mem_map_of_mem he
    obtain ⟨x, hx, ex⟩ := List.mem_map.1 this
    obtain ⟨q, hq⟩ := h.keys x hx
    exact ⟨q, by rw [← ex, hq]⟩
  · rw [modify_toList, hk]; exact h.once
  · rw [modify_toList, hb]; exact h.born
  · intro e he
    rw [modify_toList] at he
    have : e.born ∈ es.toList.map (·.born) := hb ▸ List.mem_map_of_mem he
    obtain ⟨x, hx, ex⟩ := List.mem_map.1 this
    rw [← ex]; exact h.old x hx
section
variable {P : Program} {w : World} {m mt kt et : Nat} {es : Array MapEntry} {clock : Nat}
theorem run_lookup_in (ht : P.underlying mt = some (.map kt et)) (hk : P.underlying kt = some (.int .i64)) (hb : w.heap[m]? = some (.map es clock)) (hg : Good es clock) (i : Int) {e : MapEntry} (he : e ∈ es.toList) (hi : e.key = .int .i64 i) :
    (Instr.lookup mt (.map (some m)) (.int .i64 i) false).run P w = .ok e.val w := by
  rcases findNow_spec (d := .int .i64) (k := .int .i64 i) rfl es.toList 0 hg.isKey with ⟨_, h2⟩ | ⟨j, e', h1, h2, h3⟩
  · exact absurd hi (h2 e he)
  · have hee : e' = e := by
      have hm := List.mem_of_getElem? h2
      have := hg.once
      have inj : ∀ {l : List MapEntry}, (l.map (·.key)).Nodup → ∀ a ∈ l, ∀ b ∈ l, a.key = b.key → a = b := by
        intro l hl
        induction l with
        | nil => intro a ha; cases ha
        | cons x l ih =>
          simp only [List.map_cons, List.nodup_cons] at hl
          intro a ha b hb hab
          rcases List.mem_cons.1 ha with ea | ha <;> rcases List.mem_cons.1 hb with eb | hb
          · rw [ea, eb]
          · exact absurd (List.mem_map.2 ⟨b, hb, by rw [← hab, ea]⟩) hl.1
          · exact absurd (List.mem_map.2 ⟨a, ha, by rw [hab, eb]⟩) hl.1
          · exact ih hl.2 a ha b hb hab
      exact inj hg.once _ hm _ he (h3.trans hi.symm)
    subst hee
    simp only [Nat.zero_add] at h1
    simp [Instr.lookup, run_underlying ht, Result.andThen, MapKept.run_getObj_map hb, run_checkKey (e := es.isEmpty) (n := 9999) hk (show IsKey (.int .i64) (.int .i64 i) from rfl), run_findKey hk h1]
theorem run_lookup_out (ht : P.underlying mt = some (.map kt et)) (hk : P.underlying kt = some (.int .i64)) (hb : w.heap[m]? = some (.map es clock)) (hg : Good es clock) (i : Int) (hn : ∀ e ∈ es.toList, e.key ≠ .int .i64 i) {z : Value} (hz : (zeroValue et).run P w = .ok z w) :
    (Instr.lookup mt (.map (some m)) (.int .i64 i) false).run P w = .ok z w := by
  rcases findNow_spec (d := .int .i64) (k := .int .i64 i) rfl es.toList 0 hg.isKey with ⟨h1, _⟩ | ⟨j, e', _, h2, h3⟩
  · simp [Instr.lookup, run_underlying ht, Result.andThen, MapKept.run_getObj_map hb, run_checkKey (e := es.isEmpty) (n := 9999) hk (show IsKey (.int .i64) (.int .i64 i) from rfl), run_findKey hk h1, hz]
  · exact absurd h3 (hn e' (List.mem_of_getElem? h2))
theorem run_lookup_nil (ht : P.underlying mt = some (.map kt et)) (hk : P.underlying kt = some (.int .i64)) (i : Int) {z : Value} (hz : (zeroValue et).run P w = .ok z w) :
    (Instr.lookup mt (.map none) (.int .i64 i) false).run P w = .ok z w := by
  have h1 : Instr.findNow (.int .i64) (.int .i64 i) [] 0 = some none := rfl
  simp [Instr.lookup, run_underlying ht, Result.andThen, run_checkKey (e := true) (n := 9999) hk (show IsKey (.int .i64) (.int .i64 i) from rfl), run_findKey hk h1, hz]
/-- A store into a map: what its entries are behind it. -/
theorem run_update (ht : P.underlying mt = some (.map kt et)) (hk : P.underlying kt = some (.int .i64)) (hb : w.heap[m]? = some (.map es clock)) (hg : Good es clock) (i : Int) (v : Value) :
    ∃ es' clock', (Instr.mapUpdate mt (.map (some m)) (.int .i64 i) v).run P w = .ok () { w with heap := w.heap.setIfInBounds m (.map es' clock') } ∧ Good es' clock' ∧
      (∃ e ∈ es'.toList, e.key = .int .i64 i ∧ e.val = v) ∧ (∀ e ∈ es'.toList, e.key ≠ .int .i64 i → ∃ e0 ∈ es.toList, e0.key = e.key ∧ e0.val = e.val) ∧ (∀ e ∈ es.toList, e.key ≠ .int .i64 i → ∃ e0 ∈ es'.toList, e0.key = e.key ∧ e0.val = e.val) ∧ (∀ e ∈ es'.toList, e.key = .int .i64 i → e.val = v) := by
  rcases findNow_spec (d := .int .i64) (k := .int .i64 i) rfl es.toList 0 hg.isKey with ⟨h1, h2⟩ | ⟨j, e', h1, h2, h3⟩
  · refine ⟨es.push { key := .int .i64 i, val := v, born := clock }, clock + 1, ?_, hg.push i v h2, ⟨{ key := .int .i64 i, val := v, born := clock }, by simp, rfl, rfl⟩, ?_, ?_, ?_⟩
    · simp [Instr.mapUpdate, run_underlying ht, Result.andThen, MapKept.run_getObj_map hb, run_checkKey (e := false) (n := 9999) hk (show IsKey (.int .i64) (.int .i64 i) from rfl), run_findKey hk h1, MapKept.run_setObj_map _ hb]
    · intro e he hne
      simp only [Array.toList_push, List.mem_append, List.mem_singleton] at he
      rcases he with he | rfl
      · exact ⟨e, he, rfl, rfl⟩
      · exact absurd rfl hne
    · intro e he hne
      exact ⟨e, by simp; exact .inl (by simpa using he), rfl, rfl⟩
    · intro e he heq
      simp only [Array.toList_push, List.mem_append, List.mem_singleton] at he
      rcases he with he | rfl
      · exact absurd heq (h2 e he)
      · rfl
  · simp only [Nat.zero_add] at h1
    have hj : ∀ e, es.toList[j]? = some e → e.key = .int .i64 i := fun e he => by rw [h2] at he; injection he with he; rw [← he]; exact h3
    have hsame : Instr.sameBits 10000 (((es[j]?).map (·.key)).getD (.int .i64 i)) (.int .i64 i) = true := by
      have : es[j]? = some e' := by simpa using h2
      rw [this]
      simp [h3, Instr.sameBits]
    have hget : ∀ q, (es.toList.modify j fun e => { e with key := .int .i64 i, val := v })[q]? = if j = q then (es.toList[q]?).map (fun e => { e with key := .int .i64 i, val := v }) else es.toList[q]? := by
      intro q; rw [List.getElem?_modify]; split <;> simp
    refine ⟨es.modify j fun e => { e with key := .int .i64 i, val := v }, clock, ?_, hg.modify i v j hj, ?_, ?_, ?_, ?_⟩
    · simp [Instr.mapUpdate, run_underlying ht, Result.andThen, MapKept.run_getObj_map hb, run_checkKey (e := false) (n := 9999) hk (show IsKey (.int .i64) (.int .i64 i) from rfl), run_findKey hk h1, Instr.keyThatStays, hsame, MapKept.run_setObj_map _ hb]
    · refine ⟨{ e' with key := .int .i64 i, val := v }, ?_, rfl, rfl⟩
      rw [modify_toList]
      exact List.mem_of_getElem? (i := j) (by rw [hget, if_pos rfl, h2]; rfl)
    · intro e he hne
      rw [modify_toList] at he
      obtain ⟨q, hq⟩ := List.getElem?_of_mem he
      rw [hget] at hq
      split at hq
      · rename_i hjq
        subst hjq
        rw [h2] at hq
        injection hq with hq
        exact absurd (by rw [← hq]) hne
      · exact ⟨e, List.mem_of_getElem? hq, rfl, rfl⟩
    · intro e he hne
      obtain ⟨q, hq⟩ := List.getElem?_of_mem he
      have hjq : j ≠ q := fun h => hne (hj e (h ▸ hq))
      refine ⟨e, ?_, rfl, rfl⟩
      rw [modify_toList]
      exact List.mem_of_getElem? (i := q) (by rw [hget, if_neg hjq]; exact hq)
    · intro e he heq
      rw [modify_toList] at he
      obtain ⟨q, hq⟩ := List.getElem?_of_mem he
      rw [hget] at hq
      split at hq
      · rename_i hjq
        subst hjq
        rw [h2] at hq
        injection hq with hq
        rw [← hq]
      · rename_i hjq
        exfalso
        have hn := hg.once
        have hq1 : (es.toList.map (·.key))[q]? = some (.int .i64 i) := by rw [List.getElem?_map, hq]; simp [heq]
        have hq2 : (es.toList.map (·.key))[j]? = some (.int .i64 i) := by rw [List.getElem?_map, h2]; simp [h3]
        obtain ⟨l2, e2⟩ := List.getElem?_eq_some_iff.1 hq2
        exact hjq ((List.getElem?_inj l2 hn).1 (hq2.trans hq1.symm))
end
/-- Block m is a map whose keys are those at which g is true, and whose elements are all true. -/
def SetM (w : World) (m : Nat) (g : Int → Bool) : Prop :=
  ∃ es clock, w.heap[m]? = some (.map es clock) ∧ Good es clock ∧ (∀ e ∈ es.toList, e.val = .bool true) ∧ ∀ i, g i = true ↔ ∃ e ∈ es.toList, e.key = .int .i64 i
theorem SetM.lt {w : World} {m : Nat} {g : Int → Bool} (h : SetM w m g) : m < w.heap.size := by
  obtain ⟨es, clock, hb, _⟩ := h
  exact blk_lt hb
theorem SetM.of_block {w w1 : World} {m : Nat} {g : Int → Bool} (h : SetM w m g) (hm : w1.heap[m]? = w.heap[m]?) : SetM w1 m g := by
  obtain ⟨es, clock, hb, r⟩ := h
  exact ⟨es, clock, hm.trans hb, r⟩
theorem SetM.below {w w1 : World} {m : Nat} {g : Int → Bool} (h : SetM w m g) (hb : Below w.heap.size w w1) : SetM w1 m g := h.of_block (hb.block m h.lt)
theorem SetM.far {w : World} {m : Nat} {g : Int → Bool} (h : SetM w m g) {p : Addr} (hne : m ≠ p.block) (u : Value) : SetM (w.setCell p u) m g := h.of_block (Below.heap_setCell w p u m hne)
/-- What is no row of cells is no map. -/
theorem SetM.ne_cells {w : World} {m a : Nat} {g : Int → Bool} {cs : Array Value} {t : TypeId} {fr : Nat × Nat} (h : SetM w m g) (hb : w.heap[a]? = some (.cells cs t fr)) : m ≠ a := by
  rintro rfl
  obtain ⟨es, clock, hb2, _⟩ := h
  rw [hb] at hb2; injection hb2 with hb2; cases hb2
section
variable {P : Program} {w : World} {m mt kt et : Nat} {g : Int → Bool}
theorem SetM.lookup (h : SetM w m g) (ht : P.underlying mt = some (.map kt et)) (hk : P.underlying kt = some (.int .i64)) (i : Int) (hz : (zeroValue et).run P w = .ok (.bool false) w) :
    (Instr.lookup mt (.map (some m)) (.int .i64 i) false).run P w = .ok (.bool (g i)) w := by
  obtain ⟨es, clock, hb, hg, hv, hi⟩ := h
  cases hgi : g i with
  | true =>
    obtain ⟨e, he, hk2⟩ := (hi i).1 hgi
    rw [run_lookup_in ht hk hb hg i he hk2, hv e he]
  | false =>
    exact run_lookup_out ht hk hb hg i (fun e he hk2 => by rw [(hi i).2 ⟨e, he, hk2⟩] at hgi; cases hgi) hz
theorem SetM.update (h : SetM w m g) (ht : P.underlying mt = some (.map kt et)) (hk : P.underlying kt = some (.int .i64)) (i : Int) :
    ∃ w1, (Instr.mapUpdate mt (.map (some m)) (.int .i64 i) (.bool true)).run P w = .ok () w1 ∧ SetM w1 m (fun j => decide (j = i) || g j) ∧ w.grownBy w1 (some m) := by
  obtain ⟨es, clock, hb, hg, hv, hi⟩ := h
  obtain ⟨es', clock', hrun, hg', hin, hback, hforth, hval⟩ := run_update ht hk hb hg i (.bool true)
  have hs := heap_set (o' := Obj.map es' clock') hb
  refine ⟨_, hrun, ⟨es', clock', hs.1, hg', fun e he => ?_, fun j => ?_⟩, ⟨rfl, rfl, rfl, by simp, fun k hk hne => hs.2 k (fun h => hne (by rw [h]))⟩⟩
  · by_cases hek : e.key = .int .i64 i
    · exact hval e he hek
    · obtain ⟨e0, h0, _, h2⟩ := hback e he hek
      rw [← h2]; exact hv e0 h0
  · by_cases hji : j = i
    · subst hji
      simp only [decide_true, Bool.true_or, true_iff]
      obtain ⟨e, he, h1, _⟩ := hin
      exact ⟨e, he, h1⟩
    · simp only [hji, decide_false, Bool.false_or]
      rw [hi j]
      constructor
      · rintro ⟨e, he, hk2⟩
        obtain ⟨e0, h0, h1, _⟩ := hforth e he (by rw [hk2]; intro hh; injection hh with _ hh; exact hji hh)
        exact ⟨e0, h0, h1.trans hk2⟩
      · rintro ⟨e, he, hk2⟩
        obtain ⟨e0, h0, h1, _⟩ := hback e he (by rw [hk2]; intro hh; injection hh with _ hh; exact hji hh)
        exact ⟨e0, h0, h1.trans hk2⟩
end
/-- v is a map told as_ a set: a lookup of i gives what o says, in every world that stands above w. -/
def IsLook (P : Program) (mt : Nat) (w : World) (v : Value) (o : Int → Option Bool) : Prop :=
  ∀ W, Below w.heap.size w W → ∀ i r, o i = some r → (Instr.lookup mt v (.int .i64 i) false).run P W = .ok (.bool r) W
theorem IsLook.below {P : Program} {mt : Nat} {w W : World} {v : Value} {o : Int → Option Bool} (h : IsLook P mt w v o) (hB : Below w.heap.size w W) : IsLook P mt W v o :=
  fun W2 hW2 => h W2 (below_step hB hW2)
theorem IsLook.nil {P : Program} {mt kt et : Nat} (ht : P.underlying mt = some (.map kt et)) (hk : P.underlying kt = some (.int .i64)) (hz : ∀ w, (zeroValue et).run P w = .ok (.bool false) w) (w : World) : IsLook P mt w (.map none) (fun _ => some false) :=
  fun W _ i r h => by obtain rfl := Option.some.inj h; exact run_lookup_nil ht hk i (hz W)
section
variable {P : Program} {ops : Array Oper} {Q : Exit → Act → World → Prop}
/-- A lookup in such a map, as_ one step. -/
theorem goesK_ {rest : List Oper} {oi : Oper} {a : Act} {w0 w : World} (N : Option Tmp) (hd : oi.dst = N) (hg : oi.guard = none) {mt : Nat} {v : Value} {o : Int → Option Bool} (hF : IsLook P mt w0 v o) {x y : Operand}
    (hop : oi.op = .lookup mt x y false) (hx : a.eval x = v) {i : Int} (hy : a.eval y = .int .i64 i) (hB : Below w0.heap.size w0 w) {r : Bool} (ho : o i = some r)
    (h : ∀ w2, Below w.heap.size w w2 → wpList P ops Q rest (a.put N (.bool r)) w2) : wpList P ops Q (oi :: rest) a w := by
  refine wpList_plain hg fun K hK => ?_
  have hr := hF w hB i r ho
  unfold Oper.wp
  simp only [execOp, hop, hx, hy]
  simp [hr, Result.andThen]
  subst hd
  exact hK _ _ (h w (Below.refl _ _))
end
end Go.Proofs.Ytpmadffgdfholaa.B
namespace Go.Proofs.Ytpmadffgdfholaa.B
open Go.RowKit Go.MapKept Go.Proofs.YtpmadffgdfholaaW.PrintWords Go.Proofs.YtpmadffgdfholaaW.PrintLast Go.Proofs.YtpmadffgdfholaaW.PrintMore
/-- Block m is a map of rows: row i holds g i; rows of two keys lie apart. -/
def GrpM (w : World) (base m : Nat) (g : Int → List Int) : Prop :=
  ∃ es clock, w.heap[m]? = some (.map es clock) ∧ Good es clock ∧
    (∀ e ∈ es.toList, ∀ i, e.key = .int .i64 i → Kd.R (Kd.int .i64) 3 w base (fun _ => True) e.val (g i)) ∧
    (∀ i, g i ≠ [] → ∃ e ∈ es.toList, e.key = .int .i64 i) ∧
    (∀ x ∈ es.toList, ∀ y ∈ es.toList, x.key ≠ y.key → ∀ k, x.val.ownBlock = some k → y.val.ownBlock ≠ some k)
theorem GrpM.lt {w : World} {base m : Nat} {g : Int → List Int} (h : GrpM w base m g) : m < w.heap.size := by
  obtain ⟨es, clock, hb, _⟩ := h
  exact blk_lt hb
theorem GrpM.step {w w1 : World} {base m : Nat} {g : Int → List Int} (h : GrpM w base m g) (hk : ∀ k, k < w.heap.size → (k = m ∨ ∃ cells, w.heap[k]? = some (.cells cells 3 (0, 0))) → w1.heap[k]? = w.heap[k]?) : GrpM w1 base m g := by
  obtain ⟨es, clock, hb, hg, hr, hin, hap⟩ := h
  refine ⟨es, clock, (hk m (blk_lt hb) (.inl rfl)).trans hb, hg, fun e he i hi => ?_, hin, hap⟩
  refine Kd.R_mono (Kd.R_move (Kd.R_bound (hr e he i hi)) (fun k h => ?_)) (fun _ _ => trivial)
  obtain ⟨_, _, hlt, q, hq, cells, hc⟩ := h
  have : q = 3 := by
    rcases List.mem_cons.1 hq with h | h
    · exact h
    · exact absurd h (by simp [Kd.int, Kd.scalar])
  subst this
  exact hk k hlt (.inr ⟨cells, hc⟩)
theorem GrpM.below {w w1 : World} {base m : Nat} {g : Int → List Int} (h : GrpM w base m g) (hb : Below w.heap.size w w1) : GrpM w1 base m g := h.step fun k hk _ => hb.block k hk
theorem GrpM.drew {w : World} {base m : Nat} {g : Int → List Int} (h : GrpM w base m g) : GrpM w.drew base m g := h.step fun _ _ _ => rfl
theorem GrpM.far {w : World} {base m : Nat} {g : Int → List Int} (h : GrpM w base m g) {a i : Nat} {cs : Array Value} {t : TypeId} (hb : w.heap[a]? = some (.cells cs t (0, 0))) (ht : t ≠ 3) (u : Value) : GrpM (w.setCell ⟨a, i, none⟩ u) base m g := by
  refine h.step fun k hk hor => Below.heap_setCell w ⟨a, i, none⟩ u k ?_
  rintro rfl
  rcases hor with rfl | ⟨cells, hc⟩
  · obtain ⟨es, clock, hb2, _⟩ := h
    rw [hb] at hb2; injection hb2 with hb2; cases hb2
  · rw [hb] at hc; injection hc with hc; injection hc with _ hc; exact ht hc
theorem GrpM.ne_cells {w : World} {base m a : Nat} {g : Int → List Int} {cs : Array Value} {t : TypeId} {fr : Nat × Nat} (h : GrpM w base m g) (hb : w.heap[a]? = some (.cells cs t fr)) : m ≠ a := by
  rintro rfl
  obtain ⟨es, clock, hb2, _⟩ := h
  rw [hb] at hb2; injection hb2 with hb2; cases hb2
/-- A lookup, what it gives, and what a longer row in the same place makes of the map. -/
theorem GrpM.lookup {P : Program} {w : World} {base m mt kt et : Nat} {g : Int → List Int} (h : GrpM w base m g) (ht : P.underlying mt = some (.map kt et)) (hk : P.underlying kt = some (.int .i64)) (i : Int) (hz : ∀ w, (zeroValue et).run P w = .ok (.slice none 0 0) w) :
    ∃ v, (∀ w', w'.heap[m]? = w.heap[m]? → (Instr.lookup mt (.map (some m)) (.int .i64 i) false).run P w' = .ok v w') ∧
      Kd.R (Kd.int .i64) 3 w base (fun _ => True) v (g i) ∧ v.ownBlock ≠ some m ∧
      ∀ (w1 : World) (v' : Value) (zs : List Int), w.grownBy w1 v.ownBlock → Kd.R (Kd.int .i64) 3 w1 base (fun _ => True) v' zs → (v'.ownBlock = v.ownBlock ∨ ∃ b, v'.ownBlock = some b ∧ w.heap.size ≤ b) →
        ∃ w2, (Instr.mapUpdate mt (.map (some m)) (.int .i64 i) v').run P w1 = .ok () w2 ∧ GrpM w2 base m (fun j => if j = i then zs else g j) ∧ w1.grownBy w2 (some m) := by
  obtain ⟨es, clock, hb, hg, hr, hin, hap⟩ := h
  have hrow : ∀ {W : World} {v : Value} {zs : List Int}, W.heap[m]? = some (.map es clock) → Kd.R (Kd.int .i64) 3 W base (fun _ => True) v zs → v.ownBlock ≠ some m := by
    intro W v zs hB hR he
    obtain ⟨inner, ho⟩ := Kd.R_own hR
    obtain ⟨cells, hc⟩ := own_typed ho m he
    rw [hB] at hc; injection hc with hc; cases hc
  have back : ∀ (v : Value), v.ownBlock ≠ some m → (∀ x ∈ es.toList, x.key ≠ .int .i64 i → ∀ k, x.val.ownBlock = some k → v.ownBlock ≠ some k) →
      ∀ (w1 : World) (v' : Value) (zs : List Int), w.grownBy w1 v.ownBlock → Kd.R (Kd.int .i64) 3 w1 base (fun _ => True) v' zs → (v'.ownBlock = v.ownBlock ∨ ∃ b, v'.ownBlock = some b ∧ w.heap.size ≤ b) →
        ∃ w2, (Instr.mapUpdate mt (.map (some m)) (.int .i64 i) v').run P w1 = .ok () w2 ∧ GrpM w2 base m (fun j => if j = i then zs else g j) ∧ w1.grownBy w2 (some m) := by
    intro v hvm hvap w1 v' zs hgr hR' hloc
    have hb1 : w1.heap[m]? = some (.map es clock) := (hgr.block m (blk_lt hb) (fun h => hvm h.symm)).trans hb
    obtain ⟨es', clock', hrun, hg', hin', hback, hforth, hval⟩ := run_update ht hk hb1 hg i v'
    have hs := heap_set (o' := Obj.map es' clock') hb1
    have hgr2 : w1.grownBy { w1 with heap := w1.heap.setIfInBounds m (.map es' clock') } (some m) := ⟨rfl, rfl, rfl, by simp, fun k hk hne => hs.2 k (fun h => hne (by rw [h]))⟩
    refine ⟨_, hrun, ⟨es', clock', hs.1, hg', fun e he j hj => ?_, fun j hj => ?_, fun x hx y hy hne k hkx => ?_⟩, hgr2⟩
    · by_cases hji : j = i
      · subst hji
        simp only [↓reduceIte]
        rw [hval e he hj]
        have hR3 : Kd.R (Kd.int .i64) 3 w1 base (fun k => v'.ownBlock = some k) v' zs := Kd.R_of_own (Kd.own_of_R hR') (fun _ h => h)
        exact Kd.R_mono (Kd.R_step hR3 fun k hkk hlt => hgr2.block k hlt (fun h => by
          injection h with h; subst h
          exact hrow hb1 hR' hkk)) (fun _ _ => trivial)
      · simp only [if_neg hji]
        have hek : e.key ≠ .int .i64 i := by rw [hj]; intro hh; injection hh with _ hh; exact hji hh
        obtain ⟨e0, h0, h1, h2⟩ := hback e he hek
        rw [← h2]
        have hR0 := hr e0 h0 j (h1.trans hj)
        have hne0 : ∀ k, e0.val.ownBlock = some k → v.ownBlock ≠ some k := hvap e0 h0 (by rw [h1]; exact hek)
        have hR1 : Kd.R (Kd.int .i64) 3 w base (fun k => e0.val.ownBlock = some k) e0.val (g j) := Kd.R_of_own (Kd.own_of_R hR0) (fun _ h => h)
        have hR2 := Kd.R_grown hR1 hgr (fun k hk h => hne0 k hk h.symm)
        exact Kd.R_mono (Kd.R_step hR2 fun k hkk hlt => hgr2.block k hlt (fun h => by
          injection h with h; subst h
          exact hrow hb hR0 hkk)) (fun _ _ => trivial)
    · by_cases hji : j = i
      · obtain ⟨e, he, h1, _⟩ := hin'
        exact ⟨e, he, hji ▸ h1⟩
      · simp only [if_neg hji] at hj
        obtain ⟨e, he, h1⟩ := hin j hj
        obtain ⟨e0, h0, h2, _⟩ := hforth e he (by rw [h1]; intro hh; injection hh with _ hh; exact hji hh)
        exact ⟨e0, h0, h2.trans h1⟩
    · have old : ∀ z ∈ es'.toList, z.key ≠ .int .i64 i → ∃ z0 ∈ es.toList, z0.key = z.key ∧ z0.val = z.val := hback
      have lo : ∀ z ∈ es.toList, ∀ k, z.val.ownBlock = some k → k < w.heap.size := fun z hz k hk => by
        obtain ⟨j, hj⟩ := hg.keys z hz
        exact own_lt (Kd.own_of_R (hr z hz j hj)) k hk
      have new : ∀ z ∈ es.toList, z.key ≠ .int .i64 i → ∀ k, z.val.ownBlock = some k → v'.ownBlock ≠ some k := fun z hz hzk k hk h' => by
        rcases hloc with h | ⟨b, h, hge⟩
        · exact hvap z hz hzk k hk (h ▸ h')
        · have := lo z hz k hk
          rw [h] at h'; injection h' with h'; omega
      by_cases hxi : x.key = .int .i64 i
      · have hyi : y.key ≠ .int .i64 i := fun h => hne (hxi.trans h.symm)
        obtain ⟨y0, hy0, e1, e2⟩ := old y hy hyi
        rw [hval x hx hxi] at hkx
        rw [← e2]
        intro hyk
        exact new y0 hy0 (e1 ▸ hyi) k hyk hkx
      · obtain ⟨x0, hx0, e1, e2⟩ := old x hx hxi
        rw [← e2] at hkx
        by_cases hyi : y.key = .int .i64 i
        · rw [hval y hy hyi]
          exact new x0 hx0 (e1 ▸ hxi) k hkx
        · obtain ⟨y0, hy0, e3, e4⟩ := old y hy hyi
          rw [← e4]
          exact hap x0 hx0 y0 hy0 (by rw [e1, e3]; exact hne) k hkx
  by_cases hex : ∃ e ∈ es.toList, e.key = .int .i64 i
  · obtain ⟨e, he, hi⟩ := hex
    have hm := hrow hb (hr e he i hi)
    exact ⟨e.val, fun w' hw' => run_lookup_in ht hk (hw'.trans hb) hg i he hi, hr e he i hi, hm, back e.val hm (fun x hx hne k hkx => hap x hx e he (by rw [hi]; exact hne) k hkx)⟩
  · have hg0 : g i = [] := Classical.byContradiction fun h => hex (hin i h)
    refine ⟨.slice none 0 0, fun w' hw' => run_lookup_out ht hk (hw'.trans hb) hg i (fun e he h => hex ⟨e, he, h⟩) (hz w'), by rw [hg0]; exact Kd.R_nil _ _ _ _ _, by simp [Value.ownBlock], back _ (by simp [Value.ownBlock]) (fun x _ _ k _ => by simp [Value.ownBlock])⟩
end Go.Proofs.Ytpmadffgdfholaa.B
namespace Go.Proofs.Ytpmadffgdfholaa.B
open Go.RowKit Go.MapKept Go.Proofs.YtpmadffgdfholaaW.PrintWords Go.Proofs.YtpmadffgdfholaaW.PrintLast Go.Proofs.YtpmadffgdfholaaW.PrintMore
set_option linter.unusedVariables false
set_option linter.unusedSimpArgs false
attribute [local go_sem ↓] Go.wp_at_zero Go.wp_at_succ
/-- A street that read takes. -/
def wayOk (n : Int) (x : S30) : Bool := !(decide (mn x.f0 x.f1 < 0) || decide (n ≤ mx x.f0 x.f1) || (x.f0 == x.f1) || decide (x.f2 < 0) || decide (1000 < x.f2))
/-- What read answers: 0, 2 or 3. -/
def readB (n : Int) (l : List S30) : Int := if n < 2 ∨ 7 < n then 2 else if 30 < l.length then 3 else if l.all (wayOk n) then 0 else 2
/-- The numbers of the first j streets that lead to b. -/
def toB (l : List S30) (j : Nat) (b : Int) : List Int := ((List.range j).filter fun q : Nat => (rd_T30 l (q : Int)).f1 == b).map (fun q : Nat => (q : Int))
theorem toB_succ (l : List S30) (j : Nat) (b : Int) : toB l (j + 1) b = if (rd_T30 l (j : Int)).f1 = b then toB l j b ++ [(j : Int)] else toB l j b := by
  unfold toB
  rw [List.range_succ, List.filter_append, List.map_append]
  by_cases h : (rd_T30 l (j : Int)).f1 = b <;> simp [h]
theorem toB_len (l : List S30) (j : Nat) (b : Int) : (toB l j b).length ≤ j := by
  induction j with
  | zero => simp [toB]
  | succ j ih => rw [toB_succ]; split <;> (try simp) <;> omega
theorem all_upto (p : S30 → Bool) (l : List S30) (h : ∀ j : Nat, j < l.length → p (rd_T30 l (j : Int)) = true) : l.all p = true := by
  rw [List.all_eq_true]
  intro x hx
  obtain ⟨j, hj, rfl⟩ := List.getElem_of_mem hx
  have := h j hj
  simpa [rd_T30, List.getD, List.getElem?_eq_getElem hj] using this
theorem not_all (p : S30 → Bool) (l : List S30) (j : Nat) (hj : j < l.length) (h : p (rd_T30 l (j : Int)) = false) : l.all p = false := by
  rw [List.all_eq_false]
  refine ⟨l[j], List.getElem_mem hj, ?_⟩
  simpa [rd_T30, List.getD, List.getElem?_eq_getElem hj] using h
theorem map_event {P : Program} {ops : Array Oper} {rest : List Oper} {o : Oper} {a : Act} {Q : Exit → Act → World → Prop} {W : World} (hgd : o.guard = none) {N : Tmp} (_hd : o.dst = some N)
    (hrun : (execOp a.eval o).run P W = .ok (.value (.map (some W.heap.size))) (W.alloc (.map #[] 0)))
    (h : ∀ m, m = W.heap.size → ∀ w1, w1.heap[m]? = some (.map #[] 0) → Below W.heap.size W w1 → wpList P ops Q rest (a.put o.dst (.map (some m))) w1) : wpList P ops Q (o :: rest) a W :=
  Kd.event_run hgd hrun (h _ rfl _ (blk_new W _) (below_alloc (Below.refl _ _) _))
theorem GrpM.new {w : World} {base m : Nat} (h : w.heap[m]? = some (.map #[] 0)) : GrpM w base m (fun _ => []) :=
  ⟨#[], 0, h, Good.empty 0, by simp, fun _ h => absurd rfl h, by simp⟩
theorem SetM.new {w : World} {m : Nat} (h : w.heap[m]? = some (.map #[] 0)) : SetM w m (fun _ => false) := ⟨#[], 0, h, Good.empty 0, by simp, by simp⟩
theorem GrpM.self {w : World} {base m : Nat} {g : Int → List Int} (_ : GrpM w base m g) : Below w.heap.size w w := Below.refl _ _
theorem toB_step (l : List S30) (i : Nat) (b : Int) (hx : (rd_T30 l (i : Int)).f1 = b) : toB l (i + 1) = (fun j => if j = b then toB l i b ++ [(i : Int)] else toB l i j) := by
  funext j
  rw [toB_succ, hx]
  by_cases h : b = j
  · subst h; simp
  · rw [if_neg h, if_neg (fun h2 => h h2.symm)]
theorem val_succ (i : Nat) (h : i < 1000000) : Value.int .i64 (wrap64 ((i : Int) + 1)) = Value.int .i64 ((i + 1 : Nat) : Int) := by rw [show wrap64 ((i : Int) + 1) = ((i + 1 : Nat) : Int) from by unfold wrap64; omega]
theorem step_lookup {P : Program} {ops : Array Oper} {o : Oper} {a : Act} {w : World} {K : Act → World → Prop} {Q : Exit → Act → World → Prop} {E : Prop} (hgd : o.guard = none) (m x : Operand) (t : TypeId)
    (ho : o.op = Op.lookup t m x false) {mv kv v : Value} (hm : a.eval m = mv) (hx : a.eval x = kv) (hrun : (Instr.lookup t mv kv false).run P w = .ok v w) (h : K (a.put o.dst v) w) :
    if Region.wanted o (yielded ops a.tmps) = true then Oper.wp P o a w K Q else E := by
  have hw : Region.wanted o (yielded ops a.tmps) = true := by simp [Region.wanted, hgd]
  rw [if_pos hw]
  unfold Oper.wp
  simp [execOp, ho, hm, hx, hrun, Result.andThen]
  exact h
theorem grown_then {w w1 w2 : World} {row : Option Nat} (h : Below w.heap.size w w1) (hg : w1.grownBy w2 row) : w.grownBy w2 row :=
  ⟨hg.os.trans h.os, hg.tape.trans h.tape, hg.output.trans h.output, Nat.le_trans h.size hg.size, fun k hk hne => (hg.block k (Nat.lt_of_lt_of_le hk h.size) hne).trans (h.block k hk)⟩
set_option maxHeartbeats 8000000 in
set_option maxRecDepth 100000 in
theorem read_calls (n : Int) (A : Option Addr) (c : Nat) (l : List S30) (w : World) (hr1 : Kd.C k30 w A l.length l) (hc1 : l.length ≤ c) :
    Calls Try.prog 44 #[.int .i64 n, .slice A l.length c] w fun e w' => (readB n l = 0 ∧ ∃ g m, e = .returned (.tuple #[.pointer (some ⟨g, 0, none⟩), .int .i64 0]) ∧ w.heap.size ≤ g ∧ w.heap.size ≤ m ∧
      w'.heap[g]? = some (.cells #[.int .i64 n, .slice A l.length c, .map (some m)] 70 (0, 0)) ∧ GrpM w' w.heap.size m (toB l l.length) ∧ Below w.heap.size w w') ∨
      (readB n l ≠ 0 ∧ e = .returned (.tuple #[.pointer none, .int .i64 (readB n l)]) ∧ Below w.heap.size w w') := by
  have hu30 := Try.underlying30
  have HR1 := Aside0.mk hr1
  have HC1 := Aside0.mk hc1
  clear hr1 hc1
  have HB := Aside0.mk (Below.refl w.heap.size w)
  go_enter Try.func44, Try.ntmps44
  by_cases c1 : n < 2
  · have c1b : decide (n < 2) = true := decide_eq_true c1
    have hR : readB n l = 2 := by unfold readB; rw [if_pos (.inl c1)]
    have HRX := Aside0.mk hR
    clear hR
    go_wp2
    go_ret2
    exact .inr ⟨by rw [HRX.out]; decide, by rw [HRX.out]; rfl, HB.out⟩
  have c1b : decide (n < 2) = false := decide_eq_false c1
  by_cases c2 : 7 < n
  · have c2b : decide (7 < n) = true := decide_eq_true c2
    have hR : readB n l = 2 := by unfold readB; rw [if_pos (.inr c2)]
    have HRX := Aside0.mk hR
    clear hR
    go_wp2
    go_ret2
    exact .inr ⟨by rw [HRX.out]; decide, by rw [HRX.out]; rfl, HB.out⟩
  have c2b : decide (7 < n) = false := decide_eq_false c2
  by_cases c3 : 30 < (l.length : Int)
  · have c3b : decide (30 < (l.length : Int)) = true := decide_eq_true c3
    have c3b2 : decide (30 < l.length) = true := decide_eq_true (by omega)
    have hR : readB n l = 3 := by unfold readB; rw [if_neg (by omega), if_pos (by omega)]
    have HRX := Aside0.mk hR
    clear hR
    go_wp2
    go_ret2
    exact .inr ⟨by rw [HRX.out]; decide, by rw [HRX.out]; rfl, HB.out⟩
  have c3b : decide (30 < (l.length : Int)) = false := decide_eq_false c3
  have c3b2 : decide (30 < l.length) = false := decide_eq_false (by omega)
  have HL := Aside0.mk (show l.length ≤ 30 by omega)
  have hR : readB n l = if l.all (wayOk n) then 0 else 2 := by unfold readB; rw [if_neg (by omega), if_neg (by omega)]
  have HRB := Aside0.mk hR
  clear hR c1 c2 c3
  have h0 : (0 : Int) ≤ n := by have := of_decide_eq_false c1b; omega
  go_wp2_with (first | ((with_reducible refine gate_dst (N := 22) rfl ?_); refine map_event ?hg (N := 22) ?hd ?hr ?_; (case hd => rfl); (case hg => rfl); (case hr => rfl); intro m hm w1 hmap hb; have n0_ := Aside0.mk (GrpM.new (base := w.heap.size) hmap); have n1_ := Aside0.mk (below_step (by repeat (first | (with_reducible first | exact HB.out | apply below_alloc | apply pw_below_drewN | apply below_drew1) | exact HB.out)) hb); have GM := Aside0.mk ((by rw [hm]; exact (below_size (by repeat (first | (with_reducible first | exact HB.out | apply below_alloc | apply pw_below_drewN | apply below_drew1) | exact HB.out)))) : w.heap.size ≤ m); clear HB; have HG := n0_; have HB := n1_; clear n0_ n1_; clear hm hmap hb) | ((with_reducible refine gate_dst (N := 24) rfl ?_); refine box_event ?hg (N := 24) ?hd (cs := #[.int .i64 n, .slice A l.length c, .map (some m)]) (t := 70) ?hr ?_; (case hd => rfl); (case hg => rfl); (case hr => first | (go_simp; done) | (go_simp; rfl)); intro gt hg w2 hbox hb; have n0_ := Aside0.mk (GrpM.below (w1 := w2) (by repeat (first | exact HG.out | refine GrpM.drew ?_)) hb); have n1_ := Aside0.mk (below_step (by repeat (first | (with_reducible first | exact HB.out | apply below_alloc | apply pw_below_drewN | apply below_drew1) | exact HB.out)) hb); have HT := Aside0.mk hbox; have GT := Aside0.mk ((by rw [hg]; exact (below_size (by repeat (first | (with_reducible first | exact HB.out | apply below_alloc | apply pw_below_drewN | apply below_drew1) | exact HB.out)))) : w.heap.size ≤ gt); clear HG HB; have HG := n0_; have HB := n1_; clear n0_ n1_; clear hg hbox hb))
  go_loopg [27] l.length (fun kq v27 w' => ∃ i : Nat, v27 = .int .i64 (i : Int) ∧ Aside0 (i + kq = l.length) ∧ Aside0 (∀ j : Nat, j < i → wayOk n (rd_T30 l (j : Int)) = true) ∧ Aside0 (w'.heap[gt]? = some (.cells #[.int .i64 n, .slice A l.length c, .map (some m)] 70 (0, 0))) ∧ Aside0 (GrpM w' w.heap.size m (toB l i)) ∧ Aside0 (Below w.heap.size w w'))
  case atStart => exact ⟨0, rfl, ⟨by simp⟩, ⟨fun j h => absurd h (by omega)⟩, HT, ⟨HG.out⟩, HB⟩
  case round =>
    clear HT HG HB
    obtain ⟨i, rfl, HI, HA, HT, HG, HB⟩ := hrel
    cases gk with
    | zero =>
      have hi := HI.out
      have c4b : decide ((i : Int) < (l.length : Int)) = false := decide_eq_false (by omega)
      have c4b2 : decide (i < l.length) = false := decide_eq_false (by omega)
      have hl : i = l.length := by omega
      have HLI := Aside0.mk hl
      clear hl hi
      go_wp2
      go_ret2
      exact .inl ⟨by rw [HRB.out, if_pos (all_upto _ l (HLI.out ▸ HA.out))], gt, m, rfl, GT.out, GM.out, HT.out, HLI.out ▸ HG.out, HB.out⟩
    | succ k1 =>
      have hi0 : (0 : Int) ≤ (i : Int) := Int.natCast_nonneg _
      have hi1 : (i : Int) < (l.length : Int) := by have := HI.out; omega
      have c4b : decide ((i : Int) < (l.length : Int)) = true := decide_eq_true hi1
      have c4b2 : decide (i < l.length) = true := decide_eq_true (by omega)
      have hi2 : i < l.length := by omega
      replace hi2 := eq_true hi2
      have c4c : decide ((0 : Int) ≤ (i : Int)) = true := decide_eq_true hi0
      obtain ⟨ad, e, hx_0, hx_1, hx_2⟩ := at_T30 HR1.out (i : Int) hi0 hi1
      cases e
      obtain ⟨x, hx⟩ : ∃ x, rd_T30 l (i : Int) = x := ⟨_, rfl⟩
      have HX := Aside0.mk hx
      rw [hx] at hx_0 hx_1 hx_2
      clear hx
      simp only [Int.toNat_natCast] at hx_0 hx_1 hx_2
      replace hx_0 := (HB.out.cell (World.block_lt_of_cell? w _ hx_0)).trans hx_0
      replace hx_1 := (HB.out.cell (World.block_lt_of_cell? w _ hx_1)).trans hx_1
      replace hx_2 := (HB.out.cell (World.block_lt_of_cell? w _ hx_2)).trans hx_2
      replace hi0 := eq_true hi0
      replace hi1 := eq_true hi1
      have HB0 := Aside0.mk HG.out.self
      go_upto_region 9 with (fail)
      (try simp only [Act.put, List.setIfInBounds_toArray, List.set_cons_zero, List.set_cons_succ])
      obtain ⟨gb, hgb⟩ : ∃ gb, wr.heap.size = gb := ⟨_, rfl⟩
      rw [hgb]
      obtain ⟨wq, hwq⟩ : ∃ wq, wr.alloc (.cells #[.int .i64 x.f0, .int .i64 x.f1, .int .i64 x.f2] 30) = wq := ⟨_, rfl⟩
      rw [hwq]
      have HB1 := Aside0.mk (hwq ▸ below_alloc HB0.out _ : Below wr.heap.size wr wq)
      have BK := Aside0.mk (hgb ▸ hwq ▸ heap_alloc_new wr _ : wq.heap[gb]? = some (.cells #[.int .i64 x.f0, .int .i64 x.f1, .int .i64 x.f2] 30 (0, 0)))
      have GEB := Aside0.mk (hgb ▸ HB.out.size : w.heap.size ≤ gb)
      have HB2 := Aside0.mk (below_step HB.out HB1.out)
      have HT2 := Aside0.mk (blk_below HT.out HB1.out)
      have HG2 := Aside0.mk (GrpM.below HG.out HB1.out)
      clear hgb hwq HB HT HG HB0 HB1 hx_0 hx_1 hx_2
      have hb_0 : wq.cell? ⟨gb, 0, none⟩ = some (.int .i64 x.f0) := (blk_cell BK.out 0).trans rfl
      have hb_1 : wq.cell? ⟨gb, 1, none⟩ = some (.int .i64 x.f1) := (blk_cell BK.out 1).trans rfl
      have hb_2 : wq.cell? ⟨gb, 2, none⟩ = some (.int .i64 x.f2) := (blk_cell BK.out 2).trans rfl
      go_cut [63] (fun v63 wc => ∃ b, v63 = .bool b ∧ Aside0 (b = !wayOk n x) ∧ Aside0 (wc.heap[gb]? = some (.cells #[.int .i64 x.f0, .int .i64 x.f1, .int .i64 x.f2] 30 (0, 0))) ∧ Aside0 (wc.heap[gt]? = some (.cells #[.int .i64 n, .slice (some ad) l.length c, .map (some m)] 70 (0, 0))) ∧ Aside0 (GrpM wc w.heap.size m (toB l i)) ∧ Aside0 (Below w.heap.size w wc))
      case first =>
        obtain ⟨jm, hjm⟩ : ∃ j_ : Int, mn x.f0 x.f1 = j_ := ⟨_, rfl⟩
        have hjm_ : (if x.f1 < x.f0 then x.f1 else x.f0) = jm := hjm
        obtain ⟨jx, hjx⟩ : ∃ j_ : Int, mx x.f0 x.f1 = j_ := ⟨_, rfl⟩
        have hjx_ : (if x.f0 < x.f1 then x.f1 else x.f0) = jx := hjx
        have HW := Aside0.mk (show (!wayOk n x) = (decide (jm < 0) || decide (n ≤ jx) || (x.f0 == x.f1) || decide (x.f2 < 0) || decide (1000 < x.f2)) by rw [← hjm, ← hjx]; simp [wayOk])
        clear hjm hjx
        by_cases t0 : jm < 0
        · have s0 : decide (jm < 0) = true := decide_eq_true t0
          clear t0
          go_wp2
          go_meet
          case rel => exact ⟨_, rfl, ⟨by rw [HW.out]; simp only [s0, Bool.true_or, Bool.or_true]⟩, BK, HT2, HG2, HB2⟩
        have s0 : decide (jm < 0) = false := decide_eq_false t0
        clear t0
        by_cases t1 : n ≤ jx
        · have s1 : decide (n ≤ jx) = true := decide_eq_true t1
          clear t1
          go_wp2
          go_meet
          case rel => exact ⟨_, rfl, ⟨by rw [HW.out]; simp only [s0, s1, Bool.true_or, Bool.or_true]⟩, BK, HT2, HG2, HB2⟩
        have s1 : decide (n ≤ jx) = false := decide_eq_false t1
        clear t1
        by_cases t2 : x.f0 = x.f1
        · have s2 : (x.f0 == x.f1) = true := beq_iff_eq.mpr t2
          clear t2
          go_wp2
          go_meet
          case rel => exact ⟨_, rfl, ⟨by rw [HW.out]; simp only [s0, s1, s2, Bool.true_or, Bool.or_true]⟩, BK, HT2, HG2, HB2⟩
        have s2 : (x.f0 == x.f1) = false := beq_eq_false_iff_ne.mpr t2
        clear t2
        by_cases t3 : x.f2 < 0
        · have s3 : decide (x.f2 < 0) = true := decide_eq_true t3
          clear t3
          go_wp2
          go_meet
          case rel => exact ⟨_, rfl, ⟨by rw [HW.out]; simp only [s0, s1, s2, s3, Bool.true_or, Bool.or_true]⟩, BK, HT2, HG2, HB2⟩
        have s3 : decide (x.f2 < 0) = false := decide_eq_false t3
        clear t3
        by_cases t4 : 1000 < x.f2
        · have s4 : decide (1000 < x.f2) = true := decide_eq_true t4
          clear t4
          go_wp2
          go_meet
          case rel => exact ⟨_, rfl, ⟨by rw [HW.out]; simp only [s0, s1, s2, s3, s4, Bool.true_or, Bool.or_true]⟩, BK, HT2, HG2, HB2⟩
        have s4 : decide (1000 < x.f2) = false := decide_eq_false t4
        clear t4
        go_wp2
        go_meet
        case rel => exact ⟨_, rfl, ⟨by rw [HW.out]; simp only [s0, s1, s2, s3, s4, Bool.or_false]⟩, BK, HT2, HG2, HB2⟩
      case rest =>
        clear BK HT2 HG2 HB2 hb_0 hb_1 hb_2
        obtain ⟨b, rfl, HW, BK, HT, HG, HB⟩ := hcut
        cases b with
        | true =>
          go_wp2
          go_ret2
          have hz : readB n l = 2 := by rw [HRB.out, not_all _ l i (by have := HI.out; omega) (by rw [HX.out]; have := HW.out; cases hh : wayOk n x <;> simp [hh] at this ⊢)]; rfl
          exact .inr ⟨by rw [hz]; decide, by rw [hz]; rfl, HB.out⟩
        | false =>
          obtain ⟨i0, hi0_, hz0, hz1, hz2⟩ := info_parts info3
          have hm3 : Aside0 (∀ w, (zeroValue 28).run Try.prog w = .ok (.slice none 0 0) w) := ⟨fun w => by first | rfl | (go_simp; done)⟩
          obtain ⟨v, hlook, hRv, hvm, hback⟩ := GrpM.lookup HG.out Try.underlying68 Try.underlying3 x.f1 hm3.out
          have hown := Kd.own_of_R hRv
          have HBK := Aside0.mk hback
          have HLK := Aside0.mk hlook
          have hlk : (Instr.lookup 68 (.map (some m)) (.int .i64 x.f1) false).run Try.prog wc.drew = .ok v wc.drew := HLK.out wc.drew rfl
          have hlk2 : (Instr.lookup 68 (.map (some m)) (.int .i64 x.f1) false).run Try.prog (wc.alloc (.cells #[.int .i64 (i : Int)] 3)).drew = .ok v (wc.alloc (.cells #[.int .i64 (i : Int)] 3)).drew := HLK.out _ (Below.heap_alloc wc _ m HG.out.lt)
          clear hback hlook
          have hbx : wc.cell? ⟨gb, 1, none⟩ = some (.int .i64 x.f1) := (blk_cell BK.out 1).trans rfl
          have htx : wc.cell? ⟨gt, 2, none⟩ = some (.map (some m)) := (blk_cell HT.out 2).trans rfl
          have hvb : v.ownBlock ≠ some gb := fun h => (blk_ne ((own_typed hown gb h).choose_spec) BK.out (by decide)) rfl
          have hvt : v.ownBlock ≠ some gt := fun h => (blk_ne ((own_typed hown gt h).choose_spec) HT.out (by decide)) rfl
          have lb := blk_lt BK.out
          have lt := blk_lt HT.out
          have lm := HG.out.lt
          have hll : (toB l i x.f1).length ≤ 30 := Nat.le_trans (toB_len l i x.f1) (by have := HI.out; have := HL.out; omega)
          have hbase : w.heap.size ≤ wc.heap.size := HB.out.size
          have hmt : gt ≠ m := fun h => HG.out.ne_cells HT.out h.symm
          have hmb : gb ≠ m := fun h => HG.out.ne_cells BK.out h.symm
          go_wp2_with fail
          go_region_held3 (fun w' => w'.cell? ⟨gt, 2, none⟩ = some (.map (some m)) ∧ w'.cell? ⟨gb, 1, none⟩ = some (.int .i64 x.f1))
        (first
          | (go_split_ands
             refine ⟨by go_keep, by go_keep⟩)
          | (go_split_ands
             refine ⟨?_, ?_⟩
             · (rw [HGR2.out.cell_far _ (Nat.lt_of_lt_of_le lt HGR0.out.size) (by simpa using hmt)]; assumption)
             · (rw [HGR2.out.cell_far _ (Nat.lt_of_lt_of_le lb HGR0.out.size) (by simpa using hmb)]; assumption))
          | (go_split_ands
             refine ⟨?_, ?_⟩
             · (rw [hgrow.cell_far _ (by simp; omega) (Ne.symm hvt)]; assumption)
             · (rw [hgrow.cell_far _ (by simp; omega) (Ne.symm hvb)]; assumption)))
        (first | (refine step_lookup (by rfl) _ _ 68 (by rfl) (by rfl) (by rfl) (HLK.out _ (by first | rfl | exact Below.heap_alloc wc _ m lm)) ?_) | ((refine step_append_lies _ (by rfl) _ _ _ (by rfl) w.heap.size 3 i0 _ 1 8 Try.underlying28 hi0_ hz0 hz1 hz2 rfl (by omega) v (toB l i x.f1).length _ (by rfl) ((hown.alloc _).drew) ⟨wc.heap.size, 0, none⟩ 1 1 [.int .i64 (i : Int)] (by rfl) (by rfl) (World.news_of_block (cs := #[.int .i64 (i : Int)]) (t := 3) (fr := (0, 0)) (heap_alloc_new wc _)) (by simp [Value.oneCell']) (by omega) (by simp only [maxLen]; omega) (by omega) (by simp; omega) (wc.heap.size + 1) (by simp) ?_; intro gg cap w1 hown1 hgrow hat hlt; (have hgr0 : wc.grownBy w1 v.ownBlock := grown_then (below_drew1 (below_alloc (Below.refl _ _) _)) hgrow); (have hRn : Kd.R (Kd.int .i64) 3 w1 w.heap.size (fun _ => True) (.slice (some ⟨gg, 0, none⟩) ((toB l i x.f1).length + 1) cap) (toB l i x.f1 ++ [(i : Int)]) := Kd.R_of_own (by simpa [encs] using hown1) (fun _ _ => trivial)); (have hloc : (Value.slice (some ⟨gg, 0, none⟩) ((toB l i x.f1).length + 1) cap).ownBlock = v.ownBlock ∨ ∃ b, (Value.slice (some ⟨gg, 0, none⟩) ((toB l i x.f1).length + 1) cap).ownBlock = some b ∧ wc.heap.size ≤ b := by (rcases hat with h | h; exact .inl (by rw [h]; rfl); exact .inr ⟨gg, rfl, by omega⟩)); (obtain ⟨w2, hrun2, hG2, hgr2⟩ := HBK.out w1 _ _ hgr0 hRn hloc); have HG2 := Aside0.mk hG2; have HGR2 := Aside0.mk hgr2; have HGR0 := Aside0.mk hgr0; clear hRn hG2 hgr2 hgr0 hloc)))
          all_goals (go_wp2; go_roundg k1; (case measure => omega); (case rel => exact ⟨i + 1, val_succ i (by have := HI.out; have := HL.out; omega), ⟨by have := HI.out; omega⟩, ⟨fun j hj => by (rcases Nat.lt_or_ge j i with h | h; exact HA.out j h; (obtain rfl : j = i := by omega); rw [HX.out]; have := HW.out; cases hh : wayOk n x <;> simp [hh] at this ⊢)⟩, ⟨(HGR2.out.block gt (Nat.lt_of_lt_of_le lt HGR0.out.size) (by simpa using hmt)).trans ((HGR0.out.block gt lt (Ne.symm hvt)).trans HT.out)⟩, ⟨by have hh := HG2.out; have e := toB_step l i x.f1 (by rw [HX.out]); rw [e]; exact hh⟩, ⟨(HB.out.grown HGR0.out hbase (fun j hj => own_base hown j hj)).grown HGR2.out (Nat.le_trans hbase HGR0.out.size) (fun j hj => by cases hj; exact GM.out)⟩⟩))
def branch_read.f (a0 : Int) (l1 : List (S30)) : Option Int := some (readB a0 l1)
theorem branch_read.calls_ok (a0 : Int) (A1 : Option Addr) (c1 : Nat) (l1 : List (S30)) (r : Int) (w : World) (hr1 : Kd.C k30 w A1 l1.length l1) (hc1 : l1.length ≤ c1) (h : branch_read.f a0 l1 = some r) (hz : (r == 0) = true) :
    Calls Try.prog 44 #[.int .i64 a0, .slice A1 l1.length c1] w fun e w' => ∃ g m, e = .returned (.tuple #[.pointer (some ⟨g, 0, none⟩), .int .i64 r]) ∧ w.heap.size ≤ g ∧ w'.heap[g]? = some (.cells #[.int .i64 a0, .slice A1 l1.length c1, .map m] 70 (0, 0)) ∧ Below w.heap.size w w' := by
  obtain rfl := Option.some.inj h
  have hz' : readB a0 l1 = 0 := beq_iff_eq.mp hz
  refine (read_calls a0 A1 c1 l1 w hr1 hc1).mono ?_
  rintro e w' (⟨_, g, m, rfl, hg, _, hb, _, hB⟩ | ⟨hn, _⟩)
  · exact ⟨g, some m, by rw [hz'], hg, hb, hB⟩
  · exact absurd hz' hn
theorem branch_read.calls_map (a0 : Int) (A1 : Option Addr) (c1 : Nat) (l1 : List (S30)) (r : Int) (w : World) (hr1 : Kd.C k30 w A1 l1.length l1) (hc1 : l1.length ≤ c1) (h : branch_read.f a0 l1 = some r) (hz : (r == 0) = true) :
    Calls Try.prog 44 #[.int .i64 a0, .slice A1 l1.length c1] w fun e w' => ∃ g m, e = .returned (.tuple #[.pointer (some ⟨g, 0, none⟩), .int .i64 r]) ∧ w.heap.size ≤ g ∧ w'.heap[g]? = some (.cells #[.int .i64 a0, .slice A1 l1.length c1, .map (some m)] 70 (0, 0)) ∧ GrpM w' w.heap.size m (toB l1 l1.length) ∧ Below w.heap.size w w' := by
  obtain rfl := Option.some.inj h
  have hz' : readB a0 l1 = 0 := beq_iff_eq.mp hz
  refine (read_calls a0 A1 c1 l1 w hr1 hc1).mono ?_
  rintro e w' (⟨_, g, m, rfl, hg, _, hb, hG, hB⟩ | ⟨hn, _⟩)
  · exact ⟨g, m, by rw [hz'], hg, hb, hG, hB⟩
  · exact absurd hz' hn
theorem branch_read.calls_err (a0 : Int) (A1 : Option Addr) (c1 : Nat) (l1 : List (S30)) (r : Int) (w : World) (hr1 : Kd.C k30 w A1 l1.length l1) (hc1 : l1.length ≤ c1) (h : branch_read.f a0 l1 = some r) (hz : (r == 0) = false) :
    Calls Try.prog 44 #[.int .i64 a0, .slice A1 l1.length c1] w fun e w' => e = .returned (.tuple #[.pointer none, .int .i64 r]) ∧ Below w.heap.size w w' := by
  obtain rfl := Option.some.inj h
  have hz' : readB a0 l1 ≠ 0 := fun h => by rw [h] at hz; exact absurd hz (by decide)
  refine (read_calls a0 A1 c1 l1 w hr1 hc1).mono ?_
  rintro e w' (⟨h0, _⟩ | ⟨_, he, hB⟩)
  · exact absurd h0 hz'
  · exact ⟨he, hB⟩
end Go.Proofs.Ytpmadffgdfholaa.B
namespace Go.Proofs.Ytpmadffgdfholaa.B
open Go.RowKit Go.Proofs.YtpmadffgdfholaaW.PrintWords Go.Proofs.YtpmadffgdfholaaW.PrintLast Go.Proofs.YtpmadffgdfholaaW.PrintMore
attribute [local go_sem] max2_int min2_int max_two min_two max_three min_three max_four min_four   -- for this text's walks alone
set_option linter.unusedVariables false
set_option linter.unusedSimpArgs false
def branch_Reach.f (k : Nat) (a0 : Int) (l1 : List (S30)) : Option (Int × Int) := (branch_read.f a0 l1).bind fun t101 => (if t101 = 0 then ((branch_town_all.f k a0 l1).bind fun t103 => ((branch_town_reach.f k a0 l1 t103).bind fun t106 => (some (t106, 0)))) else (some (0, t101)))
def branch_Is.f (k : Nat) (a0 : Int) (l1 : List (S30)) (l2 : List Int) : Option (Int × Bool × Int) := (branch_read.f a0 l1).bind fun t113 => (if t113 = 0 then ((branch_town_is.f k a0 l1 l2).bind fun bt115 => (some (bt115.1, bt115.2, 0))) else (some (0, false, t113)))
set_option maxHeartbeats 8000000 in
set_option maxRecDepth 100000 in
theorem branch_Is.calls (k : Nat) (a0 : Int) (A1 : Option Addr) (c1 : Nat) (l1 : List (S30)) (A2 : Option Addr) (c2 : Nat) (l2 : List Int) (r1 : Int) (r2 : Bool) (r3 : Int) (w : World) (hr1 : Kd.C k30 w A1 l1.length l1) (hc1 : l1.length ≤ c1) (hr2 : Kd.C (Kd.int .i64) w A2 l2.length l2) (hc2 : l2.length ≤ c2) (h : branch_Is.f k a0 l1 l2 = some (r1, r2, r3)) :
    Calls Try.prog 35 #[.int .i64 a0, .slice A1 l1.length c1, .slice A2 l2.length c2] w fun e w' => e = .returned (.tuple #[.int .i64 r1, .bool r2, .int .i64 r3]) ∧ Below w.heap.size w w' := by
  have HR1 := Aside0.mk hr1
  have HC1 := Aside0.mk hc1
  clear hr1 hc1
  have HR2 := Aside0.mk hr2
  have HC2 := Aside0.mk hc2
  clear hr2 hc2
  have HB := Aside0.mk (Below.refl w.heap.size w)
  have H : ((branch_read.f a0 l1).bind fun t113 => (if t113 = 0 then ((branch_town_is.f k a0 l1 l2).bind fun bt115 => (some (bt115.1, bt115.2, 0))) else (some (0, false, t113)))) = some (r1, r2, r3) := h
  clear h
  replace H := Option.bind_eq_some_iff.mp H
  obtain ⟨t113, A40, H⟩ := H
  replace H : (if t113 = 0 then ((branch_town_is.f k a0 l1 l2).bind fun bt115 => (some (bt115.1, bt115.2, 0))) else (some (0, false, t113))) = some (r1, r2, r3) := H
  have A4 := Aside0.mk A40
  clear A40
  by_cases c5 : t113 = 0
  · rw [if_pos c5] at H
    have c5b0 : (t113 == 0) = true := beq_iff_eq.mpr c5
    have c5b1 : (t113 != 0) = false := bne_eq_false_iff_eq.mpr c5
    clear c5
    replace H := Option.bind_eq_some_iff.mp H
    obtain ⟨⟨t115, t116⟩, A60, H⟩ := H
    replace H : (some (t115, t116, 0)) = some (r1, r2, r3) := H
    have A6 := Aside0.mk A60
    clear A60
    simp only [Option.some.injEq, Prod.mk.injEq] at H
    obtain ⟨rfl, rfl, rfl⟩ := H
    go_enter Try.func35, Try.ntmps35
    go_wp2_with (first | (go_at_call 44; (with_reducible refine (branch_read.calls_ok a0 A1 c1 l1 t113 _ ?side1 ?side2 A4.out (by first | (with_reducible assumption) | assumption)).mono ?_); (case side1 => repeat (first | exact HR1.out | (with_reducible refine Kd.C_alloc ?_ _) | (with_reducible refine Kd.C_drewN ?_ _) | (with_reducible refine Kd.C_drew ?_))); (case side2 => exact HC1.out); rintro e w7 ⟨gb114, mr114, rfl, hg, hbox, hb⟩; have n0_ := Aside0.mk (below_step (by repeat (first | (with_reducible first | exact HB.out | apply below_alloc | apply pw_below_drewN | apply below_drew1) | exact HB.out)) hb); have n1_ := Aside0.mk (hbox); have n2_ := Aside0.mk ((Nat.le_trans (below_size (by repeat (first | (with_reducible first | exact HB.out | apply below_alloc | apply pw_below_drewN | apply below_drew1) | exact HB.out))) hg : w.heap.size ≤ gb114)); have n3_ := Aside0.mk ((Nat.le_trans (below_size (by repeat (first | (with_reducible first | exact HB.out | apply below_alloc | apply pw_below_drewN | apply below_drew1) | exact HB.out))) hg : w.heap.size ≤ gb114)); clear HB; have HB := n0_; have BK114 := n1_; have GW114 := n2_; have GE114 := n3_; clear n0_ n1_ n2_ n3_; clear hb hbox hg) | ((with_reducible refine gate_callee (f := 61) rfl ?_); refine goesL_ (some 25) rfl rfl Try.func61 (by kernel_rfl) rfl #[.pointer (some ⟨gb114, 0, none⟩), .slice A2 l2.length c2] rfl (by (try simp only [List.map_toArray, List.map_cons, List.map_nil]); first | done | rfl | (simp only [List.length_drop, List.length_take]; rfl)) ?_; (with_reducible refine (branch_town_is.calls k gb114 a0 A1 c1 l1 mr114 _ _ l2 t115 t116 _ ?side1 ?side2 ?side3 ?side4 ?side5 A6.out).mono ?_); (case side1 => exact by (with_reducible repeat (first | refine blk_drewN ?_ _ | refine blk_drew ?_ | refine blk_alloc ?_ _)); exact BK114.out); (case side2 => repeat (first | exact (Kd.C_below HR1.out HB.out) | (with_reducible refine Kd.C_alloc ?_ _) | (with_reducible refine Kd.C_drewN ?_ _) | (with_reducible refine Kd.C_drew ?_))); (case side3 => exact HC1.out); (case side4 => repeat (first | exact (Kd.C_below HR2.out HB.out) | (with_reducible refine Kd.C_alloc ?_ _) | (with_reducible refine Kd.C_drewN ?_ _) | (with_reducible refine Kd.C_drew ?_))); (case side5 => exact HC2.out); rintro e w8 ⟨rfl, hb⟩; refine ⟨_, rfl, ?_⟩; have n0_ := Aside0.mk (blk_below (g := gb114) (o := .cells #[.int .i64 a0, .slice A1 l1.length c1, .map mr114] 70 (0, 0)) (by (with_reducible repeat (first | refine blk_drewN ?_ _ | refine blk_drew ?_ | refine blk_alloc ?_ _)); exact BK114.out) hb); have n1_ := Aside0.mk (below_step (by repeat (first | (with_reducible first | exact HB.out | apply below_alloc | apply pw_below_drewN | apply below_drew1 | refine below_set ?_ GE114.out) | exact HB.out)) hb); clear BK114; clear HB; have BK114 := n0_; have HB := n1_; clear n0_ n1_; (try clear hb); (try clear hb2); (try clear hk); (try clear hi)))
    go_ret3
    exact ⟨by first | rfl | (simp [errW_none, errW_some] <;> rfl) | (simp [*, errW_none, errW_some] <;> rfl), by repeat (first | (with_reducible first | exact HB.out | apply below_alloc | apply pw_below_drewN | apply below_drew1 | refine below_set ?_ GE114.out) | exact HB.out)⟩
  · rw [if_neg c5] at H
    have c5b0 : (t113 == 0) = false := beq_eq_false_iff_ne.mpr c5
    have c5b1 : (t113 != 0) = true := bne_iff_ne.mpr c5
    simp only [Option.some.injEq, Prod.mk.injEq] at H
    obtain ⟨rfl, rfl, rfl⟩ := H
    go_enter Try.func35, Try.ntmps35
    go_wp2_with (first | (go_at_call 44; (with_reducible refine (branch_read.calls_err a0 A1 c1 l1 t113 _ ?side1 ?side2 A4.out (by first | (with_reducible assumption) | assumption)).mono ?_); (case side1 => repeat (first | exact HR1.out | (with_reducible refine Kd.C_alloc ?_ _) | (with_reducible refine Kd.C_drewN ?_ _) | (with_reducible refine Kd.C_drew ?_))); (case side2 => exact HC1.out); rintro e w9 ⟨rfl, hb⟩; have n0_ := Aside0.mk (below_step (by repeat (first | (with_reducible first | exact HB.out | apply below_alloc | apply pw_below_drewN | apply below_drew1) | exact HB.out)) hb); clear HB; have HB := n0_; clear n0_; (try clear hb)))
    go_ret3
    exact ⟨by first | rfl | (simp [errW_none, errW_some] <;> rfl) | (simp [*, errW_none, errW_some] <;> rfl), by repeat (first | (with_reducible first | exact HB.out | apply below_alloc | apply pw_below_drewN | apply below_drew1) | exact HB.out)⟩
end Go.Proofs.Ytpmadffgdfholaa.B
namespace Go.Proofs.Ytpmadffgdfholaa.B
open Go.RowKit Go.Proofs.YtpmadffgdfholaaW.PrintWords Go.Proofs.YtpmadffgdfholaaW.PrintLast Go.Proofs.YtpmadffgdfholaaW.PrintMore
attribute [local go_sem] max2_int min2_int max_two min_two max_three min_three max_four min_four   -- for this text's walks alone
set_option linter.unusedVariables false
set_option linter.unusedSimpArgs false
def branch_town_alone_1.f (a0 : Int) (l1_0 : List Int) (a2_0 : (Int → Option Bool)) : Option (Bool) := if 0 ≤ a0 then (if a0 < (l1_0.length : Int) then (if (rd l1_0 a0) = 0 then ((a2_0 a0).bind fun t104 => (some (!t104))) else (some false)) else (none)) else (none)
set_option maxHeartbeats 8000000 in
set_option maxRecDepth 100000 in
theorem branch_town_alone_1.calls (a0 : Int) (g1 : Nat) (A1_0 : Option Addr) (c1_0 : Nat) (l1_0 : List Int) (g2 : Nat) (vf2_0 : Value) (a2_0 : (Int → Option Bool)) (r : Bool) (w : World) (hP1 : w.heap[g1]? = some (.cells #[.slice A1_0 l1_0.length c1_0] 28 (0, 0))) (hr1_0 : Kd.C (Kd.int .i64) w A1_0 l1_0.length l1_0) (hc1_0 : l1_0.length ≤ c1_0) (hP2 : w.heap[g2]? = some (.cells #[vf2_0] 75 (0, 0))) (hF2_0 : IsFn Try.prog w vf2_0 a2_0) (h : branch_town_alone_1.f a0 l1_0 a2_0 = some r) :
    Calls Try.prog 79 #[.int .i64 a0, .pointer (some ⟨g1, 0, none⟩), .pointer (some ⟨g2, 0, none⟩)] w fun e w' => e = .returned (.bool r) ∧ Below w.heap.size w w' := by
  have HP1 := Aside0.mk hP1
  clear hP1
  have HR1_0 := Aside0.mk hr1_0
  have HC1_0 := Aside0.mk hc1_0
  clear hr1_0 hc1_0
  have HP2 := Aside0.mk hP2
  clear hP2
  have HF2_0 := Aside0.mk hF2_0
  clear hF2_0
  have HB := Aside0.mk (Below.refl w.heap.size w)
  have H : (if 0 ≤ a0 then (if a0 < (l1_0.length : Int) then (if (rd l1_0 a0) = 0 then ((a2_0 a0).bind fun t104 => (some (!t104))) else (some false)) else (none)) else (none)) = some r := h
  clear h
  by_cases c4 : 0 ≤ a0
  · rw [if_pos c4] at H
    have c4b0 : decide (0 ≤ a0) = true := decide_eq_true c4
    clear c4
    by_cases c5 : a0 < (l1_0.length : Int)
    · rw [if_pos c5] at H
      have c5b0 : decide (a0 < (l1_0.length : Int)) = true := decide_eq_true c5
      clear c5
      by_cases c6 : (rd l1_0 a0) = 0
      · rw [if_pos c6] at H
        have c6b0 : ((rd l1_0 a0) == 0) = true := beq_iff_eq.mpr c6
        have c6b1 : ((rd l1_0 a0) != 0) = false := bne_eq_false_iff_eq.mpr c6
        clear c6
        replace H := Option.bind_eq_some_iff.mp H
        obtain ⟨t104, A70, H⟩ := H
        replace H : (some (!t104)) = some r := H
        have A7 := Aside0.mk A70
        clear A70
        obtain rfl := Option.some.inj H
        have hx101_0 := blk_cell HP1.out 0
        replace hx101_0 := hx101_0.trans rfl
        have p102 : 0 ≤ (a0 : Int) := of_decide_eq_true (by first | (with_reducible assumption) | assumption)
        have q102 : a0 < (l1_0.length : Int) := of_decide_eq_true (by first | (with_reducible assumption) | assumption)
        obtain ⟨ad102, e102, hx102_0⟩ := Kd.at_int HR1_0.out a0 p102 q102
        cases e102
        replace p102 := eq_true p102
        replace q102 := eq_true q102
        have hx103_0 := blk_cell HP2.out 0
        replace hx103_0 := hx103_0.trans rfl
        go_enter Try.func79, Try.ntmps79
        go_wp2_with (first | ((with_reducible refine gate_dst (N := 13) rfl ?_); (try (refine gate_guard (by rfl) ?_; dsimp only)); refine goesF_ (some 13) rfl rfl HF2_0.out rfl rfl (i := a0) rfl ?sideB A7.out ?_; (case sideB => exact by repeat (first | (with_reducible first | exact HB.out | apply below_alloc | apply pw_below_drewN | apply below_drew1) | exact HB.out)); intro w8 hb; have n0_ := Aside0.mk (below_step (by repeat (first | (with_reducible first | exact HB.out | apply below_alloc | apply pw_below_drewN | apply below_drew1) | exact HB.out)) hb); clear HB; have HB := n0_; clear n0_; (try clear hb); (try clear hb2); (try clear hk); (try clear hi)))
        go_ret
        exact ⟨by first | rfl | (simp [errW_none, errW_some] <;> rfl) | (simp [*, errW_none, errW_some] <;> rfl), by repeat (first | (with_reducible first | exact HB.out | apply below_alloc | apply pw_below_drewN | apply below_drew1) | exact HB.out)⟩
      · rw [if_neg c6] at H
        have c6b0 : ((rd l1_0 a0) == 0) = false := beq_eq_false_iff_ne.mpr c6
        have c6b1 : ((rd l1_0 a0) != 0) = true := bne_iff_ne.mpr c6
        obtain rfl := Option.some.inj H
        have hx101_0 := blk_cell HP1.out 0
        replace hx101_0 := hx101_0.trans rfl
        have p102 : 0 ≤ (a0 : Int) := of_decide_eq_true (by first | (with_reducible assumption) | assumption)
        have q102 : a0 < (l1_0.length : Int) := of_decide_eq_true (by first | (with_reducible assumption) | assumption)
        obtain ⟨ad102, e102, hx102_0⟩ := Kd.at_int HR1_0.out a0 p102 q102
        cases e102
        replace p102 := eq_true p102
        replace q102 := eq_true q102
        go_enter Try.func79, Try.ntmps79
        go_wp2
        go_ret
        exact ⟨by first | rfl | (simp [errW_none, errW_some] <;> rfl) | (simp [*, errW_none, errW_some] <;> rfl), by repeat (first | (with_reducible first | exact HB.out | apply below_alloc | apply pw_below_drewN | apply below_drew1) | exact HB.out)⟩
    · rw [if_neg c5] at H
      exact absurd H (by simp)
  · rw [if_neg c4] at H
    exact absurd H (by simp)
mutual
def branch_town_alone_2.l0 : Nat → Int → Int → Int → Int → List (S30) → (Int → Option Bool) → Option (Int)
  | 0, _, _, _, _, _, _ => none
  | k + 1, x5, x13, x14, x2000, x2001, x3000 => if x14 < x13 then (branch_town_alone_2.l1 k x5 x13 x14 x2001 (x2001.length : Int) 0 x2000 x2001 x3000) else (some x5)
def branch_town_alone_2.l1 : Nat → Int → Int → Int → List (S30) → Int → Int → Int → List (S30) → (Int → Option Bool) → Option (Int)
  | 0, _, _, _, _, _, _, _, _, _ => none
  | k + 1, x5, x13, x14, x19, x20, x21, x2000, x2001, x3000 => if x21 < x20 then (if 0 ≤ x21 then (if x21 < (x19.length : Int) then ((x3000 x21).bind fun t112 => (if t112 = true then (if 0 ≤ ((rd_T30 x19 x21).f0) then (if (Go.bits .and .i64 (shr .i64 x5 ((rd_T30 x19 x21).f0)) 1) = 1 then (if 0 ≤ ((rd_T30 x19 x21).f1) then (branch_town_alone_2.l1 k (Go.bits .or .i64 x5 (shl .i64 1 ((rd_T30 x19 x21).f1))) x13 x14 x19 x20 (wrap64 (x21 + 1)) x2000 x2001 x3000) else (none)) else (branch_town_alone_2.l1 k x5 x13 x14 x19 x20 (wrap64 (x21 + 1)) x2000 x2001 x3000)) else (none)) else (branch_town_alone_2.l1 k x5 x13 x14 x19 x20 (wrap64 (x21 + 1)) x2000 x2001 x3000))) else (none)) else (none)) else (branch_town_alone_2.l0 k x5 x13 (wrap64 (x14 + 1)) x2000 x2001 x3000)
end
def branch_town_alone_2.f (k : Nat) (a0 : Int) (a1_0 : Int) (l1_1 : List (S30)) (a2_0 : (Int → Option Bool)) : Option (Int) := if 0 ≤ a0 then (branch_town_alone_2.l0 k (shl .i64 1 a0) a1_0 0 a1_0 l1_1 a2_0) else (none)
theorem branch_town_alone_2.mono_l : ∀ k, (∀ y0 y1 y2 y3 y4 y5, LeO (branch_town_alone_2.l0 k y0 y1 y2 y3 y4 y5) (branch_town_alone_2.l0 (k + 1) y0 y1 y2 y3 y4 y5)) ∧ (∀ y0 y1 y2 y3 y4 y5 y6 y7 y8, LeO (branch_town_alone_2.l1 k y0 y1 y2 y3 y4 y5 y6 y7 y8) (branch_town_alone_2.l1 (k + 1) y0 y1 y2 y3 y4 y5 y6 y7 y8))
  | 0 => ⟨fun _ _ _ _ _ _ r h => by simp [branch_town_alone_2.l0] at h, fun _ _ _ _ _ _ _ _ _ r h => by simp [branch_town_alone_2.l1] at h⟩
  | k + 1 => by
    obtain ⟨ih0, ih1⟩ := branch_town_alone_2.mono_l k
    refine ⟨?_, ?_⟩
    · intro y0 y1 y2 y3 y4 y5
      unfold branch_town_alone_2.l0
      repeat' first
      | (with_reducible exact ih0 _ _ _ _ _ _)
      | (with_reducible exact ih1 _ _ _ _ _ _ _ _ _)
      | (with_reducible exact LeO.refl _)
      | (with_reducible exact LeO.none _)
      | (with_reducible refine LeO.ite ?_ ?_)
      | (with_reducible refine LeO.bind ?_ (fun _ => ?_))
      | exact ih0 _ _ _ _ _ _
      | exact ih1 _ _ _ _ _ _ _ _ _
      | exact LeO.none _
      | refine LeO.ite ?_ ?_
      | refine LeO.bind ?_ (fun _ => ?_)
    · intro y0 y1 y2 y3 y4 y5 y6 y7 y8
      unfold branch_town_alone_2.l1
      repeat' first
      | (with_reducible exact ih0 _ _ _ _ _ _)
      | (with_reducible exact ih1 _ _ _ _ _ _ _ _ _)
      | (with_reducible exact LeO.refl _)
      | (with_reducible exact LeO.none _)
      | (with_reducible refine LeO.ite ?_ ?_)
      | (with_reducible refine LeO.bind ?_ (fun _ => ?_))
      | exact ih0 _ _ _ _ _ _
      | exact ih1 _ _ _ _ _ _ _ _ _
      | exact LeO.none _
      | refine LeO.ite ?_ ?_
      | refine LeO.bind ?_ (fun _ => ?_)
theorem branch_town_alone_2.mono : ∀ a0 a1 a2 a3 k, LeO (branch_town_alone_2.f k a0 a1 a2 a3) (branch_town_alone_2.f (k + 1) a0 a1 a2 a3) := by
  intro a0 a1 a2 a3 k
  obtain ⟨ih0, ih1⟩ := branch_town_alone_2.mono_l k
  unfold branch_town_alone_2.f
  repeat' first
      | (with_reducible exact ih0 _ _ _ _ _ _)
      | (with_reducible exact ih1 _ _ _ _ _ _ _ _ _)
      | (with_reducible exact LeO.refl _)
      | (with_reducible exact LeO.none _)
      | (with_reducible refine LeO.ite ?_ ?_)
      | (with_reducible refine LeO.bind ?_ (fun _ => ?_))
      | exact ih0 _ _ _ _ _ _
      | exact ih1 _ _ _ _ _ _ _ _ _
      | exact LeO.none _
      | refine LeO.ite ?_ ?_
      | refine LeO.bind ?_ (fun _ => ?_)
set_option maxHeartbeats 8000000 in
set_option maxRecDepth 100000 in
theorem branch_town_alone_2.calls (k : Nat) (a0 : Int) (g1 : Nat) (gg1 : Nat) (a1_0 : Int) (A1_1 : Option Addr) (c1_1 : Nat) (l1_1 : List (S30)) (a1_2 : Option Nat) (g2 : Nat) (vf2_0 : Value) (a2_0 : (Int → Option Bool)) (r : Int) (w : World) (hP1 : w.heap[g1]? = some (.cells #[.pointer (some ⟨gg1, 0, none⟩)] 65 (0, 0))) (hQ1 : w.heap[gg1]? = some (.cells #[.int .i64 a1_0, .slice A1_1 l1_1.length c1_1, .map a1_2] 70 (0, 0))) (hr1_1 : Kd.C k30 w A1_1 l1_1.length l1_1) (hc1_1 : l1_1.length ≤ c1_1) (hP2 : w.heap[g2]? = some (.cells #[vf2_0] 75 (0, 0))) (hF2_0 : IsFn Try.prog w vf2_0 a2_0) (h : branch_town_alone_2.f k a0 a1_0 l1_1 a2_0 = some r) :
    Calls Try.prog 80 #[.int .i64 a0, .pointer (some ⟨g1, 0, none⟩), .pointer (some ⟨g2, 0, none⟩)] w fun e w' => e = .returned (.int .i64 r) ∧ Below w.heap.size w w' := by
  have hu65 := Try.underlying65
  have hu30 := Try.underlying30
  have HP1 := Aside0.mk hP1
  clear hP1
  have HQ1 := Aside0.mk hQ1
  clear hQ1
  have HR1_1 := Aside0.mk hr1_1
  have HC1_1 := Aside0.mk hc1_1
  clear hr1_1 hc1_1
  have HP2 := Aside0.mk hP2
  clear hP2
  have HF2_0 := Aside0.mk hF2_0
  clear hF2_0
  have HB := Aside0.mk (Below.refl w.heap.size w)
  have H : (if 0 ≤ a0 then (branch_town_alone_2.l0 k (shl .i64 1 a0) a1_0 0 a1_0 l1_1 a2_0) else (none)) = some r := h
  clear h
  by_cases c4 : 0 ≤ a0
  · rw [if_pos c4] at H
    have c4b0 := eq_true c4
    have c4b1 : decide (0 ≤ a0) = true := decide_eq_true c4
    clear c4
    obtain ⟨ji5, hji5⟩ : ∃ j_ : Int, (shl .i64 1 a0) = j_ := ⟨_, rfl⟩
    replace H : (branch_town_alone_2.l0 k ji5 a1_0 0 a1_0 l1_1 a2_0) = some r := by first | (rw [hji5] at H; exact H) | (simp only [hji5] at H ⊢; exact H)
    have hji5_ : (IntKind.i64.wrap (1 * 2 ^ min a0.toNat 64)) = ji5 := hji5
    have hji5z : a0 ≤ 64 → (IntKind.i64.wrap (1 * 2 ^ a0.toNat)) = ji5 := shl_small hji5
    have hji5u : (IntKind.i64.wrap (2 ^ min a0.toNat 64)) = ji5 := by have h_ := hji5_; rw [Int.one_mul] at h_; exact h_
    have hji5v : a0 ≤ 64 → (IntKind.i64.wrap (2 ^ a0.toNat)) = ji5 := fun hle_ => by have h_ := hji5z hle_; rw [Int.one_mul] at h_; exact h_
    have hji5y : (wrap64 (1 * 2 ^ min a0.toNat 64)) = ji5 := (i64_w _).symm.trans hji5_
    have hji5x : a0 ≤ 64 → (wrap64 (1 * 2 ^ a0.toNat)) = ji5 := fun h_ => (i64_w _).symm.trans (hji5z h_)
    have H' := Aside0.mk H
    clear H
    have hx105_0 := blk_cell HP1.out 0
    replace hx105_0 := hx105_0.trans rfl
    have hx106_0 := blk_cell HQ1.out 0
    replace hx106_0 := hx106_0.trans rfl
    have hx106_1 := blk_cell HQ1.out 1
    replace hx106_1 := hx106_1.trans rfl
    have hx106_2 := blk_cell HQ1.out 2
    replace hx106_2 := hx106_2.trans rfl
    go_enter Try.func80, Try.ntmps80
    go_wp2
    go_loopg [5, 14] k (fun kq v5 v14 w' => ∃ (x5_1 : Int) (x14_1 : Int), v5 = .int .i64 x5_1 ∧ v14 = .int .i64 x14_1 ∧ Aside0 (branch_town_alone_2.l0 kq x5_1 a1_0 x14_1 a1_0 l1_1 a2_0 = some r) ∧ Aside0 (kq ≤ k) ∧ Aside0 (Below w.heap.size w w'))
    case atStart => exact ⟨(ji5), (0), (by first | rfl | (simp; done) | (simp only [← hji5] <;> (first | rfl | simp)) | (simp [*]; done)), (by first | rfl | (simp; done) | (simp [*]; done)), H', ⟨Nat.le_refl _⟩, ⟨by repeat (first | (with_reducible first | exact HB.out | apply below_alloc | apply pw_below_drewN | apply below_drew1) | exact HB.out)⟩⟩
    case round =>
      clear H'
      try clear c1
      try clear hx1
      try clear p2
      try clear c4
      try clear c4b0
      try clear c4b1
      try clear hx105_0
      try clear hx106_0
      try clear hx106_1
      try clear hx106_2
      obtain ⟨x5_1, x14_1, rfl, rfl, HA, HK1, HB⟩ := hrel
      cases gk with
      | zero => exact absurd HA.out (by simp [branch_town_alone_2.l0])
      | succ k1 =>
        have H := HA.out
        clear HA
        simp only [branch_town_alone_2.l0] at H
        by_cases c6 : x14_1 < a1_0
        · rw [if_pos c6] at H
          have c6b0 : decide (x14_1 < a1_0) = true := decide_eq_true c6
          clear c6
          have H' := Aside0.mk H
          clear H
          have hx107_0 := blk_cell HP1.out 0
          replace hx107_0 := hx107_0.trans rfl
          replace hx107_0 := (HB.out.cell (World.block_lt_of_cell? w _ hx107_0)).trans hx107_0
          have hx108_0 := blk_cell HQ1.out 0
          replace hx108_0 := hx108_0.trans rfl
          replace hx108_0 := (HB.out.cell (World.block_lt_of_cell? w _ hx108_0)).trans hx108_0
          have hx108_1 := blk_cell HQ1.out 1
          replace hx108_1 := hx108_1.trans rfl
          replace hx108_1 := (HB.out.cell (World.block_lt_of_cell? w _ hx108_1)).trans hx108_1
          have hx108_2 := blk_cell HQ1.out 2
          replace hx108_2 := hx108_2.trans rfl
          replace hx108_2 := (HB.out.cell (World.block_lt_of_cell? w _ hx108_2)).trans hx108_2
          go_wp2
          go_loopg [5, 21] k1 (fun kq v5 v21 w' => ∃ (x5_2 : Int) (x21_2 : Int), v5 = .int .i64 x5_2 ∧ v21 = .int .i64 x21_2 ∧ Aside0 (branch_town_alone_2.l1 kq x5_2 a1_0 x14_1 l1_1 (l1_1.length : Int) x21_2 a1_0 l1_1 a2_0 = some r) ∧ Aside0 (kq ≤ k1) ∧ Aside0 (Below w.heap.size w w'))
          case atStart => exact ⟨(x5_1), (0), (by first | rfl | (simp; done) | (simp [*]; done)), (by first | rfl | (simp; done) | (simp [*]; done)), H', ⟨Nat.le_refl _⟩, ⟨by repeat (first | (with_reducible first | exact HB.out | apply below_alloc | apply pw_below_drewN | apply below_drew1) | exact HB.out)⟩⟩
          case round =>
            clear H'
            try clear c1
            try clear hx1
            try clear p2
            try clear c4
            try clear c4b0
            try clear c4b1
            try clear c6
            try clear c6b0
            try clear p6
            try clear hx105_0
            try clear hx106_0
            try clear hx106_1
            try clear hx106_2
            try clear hx107_0
            try clear hx108_0
            try clear hx108_1
            try clear hx108_2
            try clear p2
            obtain ⟨x5_2, x21_2, rfl, rfl, HA, HK2, HB⟩ := hrel
            cases gk with
            | zero => exact absurd HA.out (by simp [branch_town_alone_2.l1])
            | succ k2 =>
              have H := HA.out
              clear HA
              simp only [branch_town_alone_2.l1] at H
              by_cases c7 : x21_2 < (l1_1.length : Int)
              · rw [if_pos c7] at H
                have c7b0 : decide (x21_2 < (l1_1.length : Int)) = true := decide_eq_true c7
                clear c7
                by_cases c8 : 0 ≤ x21_2
                · rw [if_pos c8] at H
                  have c8b0 : decide (0 ≤ x21_2) = true := decide_eq_true c8
                  clear c8
                  by_cases c9 : x21_2 < (l1_1.length : Int)
                  · rw [if_pos c9] at H
                    have c9b0 : decide (x21_2 < (l1_1.length : Int)) = true := decide_eq_true c9
                    clear c9
                    replace H := Option.bind_eq_some_iff.mp H
                    obtain ⟨t112, A100, H⟩ := H
                    replace H : (if t112 = true then (if 0 ≤ ((rd_T30 l1_1 x21_2).f0) then (if (Go.bits .and .i64 (shr .i64 x5_2 ((rd_T30 l1_1 x21_2).f0)) 1) = 1 then (if 0 ≤ ((rd_T30 l1_1 x21_2).f1) then (branch_town_alone_2.l1 k2 (Go.bits .or .i64 x5_2 (shl .i64 1 ((rd_T30 l1_1 x21_2).f1))) a1_0 x14_1 l1_1 (l1_1.length : Int) (wrap64 (x21_2 + 1)) a1_0 l1_1 a2_0) else (none)) else (branch_town_alone_2.l1 k2 x5_2 a1_0 x14_1 l1_1 (l1_1.length : Int) (wrap64 (x21_2 + 1)) a1_0 l1_1 a2_0)) else (none)) else (branch_town_alone_2.l1 k2 x5_2 a1_0 x14_1 l1_1 (l1_1.length : Int) (wrap64 (x21_2 + 1)) a1_0 l1_1 a2_0)) = some r := H
                    have A10 := Aside0.mk A100
                    clear A100
                    by_cases c11 : t112 = true
                    · subst c11
                      have H1 : (if 0 ≤ ((rd_T30 l1_1 x21_2).f0) then (if (Go.bits .and .i64 (shr .i64 x5_2 ((rd_T30 l1_1 x21_2).f0)) 1) = 1 then (if 0 ≤ ((rd_T30 l1_1 x21_2).f1) then (branch_town_alone_2.l1 k2 (Go.bits .or .i64 x5_2 (shl .i64 1 ((rd_T30 l1_1 x21_2).f1))) a1_0 x14_1 l1_1 (l1_1.length : Int) (wrap64 (x21_2 + 1)) a1_0 l1_1 a2_0) else (none)) else (branch_town_alone_2.l1 k2 x5_2 a1_0 x14_1 l1_1 (l1_1.length : Int) (wrap64 (x21_2 + 1)) a1_0 l1_1 a2_0)) else (none)) = some r := by rw [if_pos rfl] at H; exact H
                      clear H
                      have H := H1
                      clear H1
                      by_cases c12 : 0 ≤ ((rd_T30 l1_1 x21_2).f0)
                      · rw [if_pos c12] at H
                        have c12b0 := eq_true c12
                        have c12b1 : decide (0 ≤ ((rd_T30 l1_1 x21_2).f0)) = true := decide_eq_true c12
                        clear c12
                        obtain ⟨ji13, hji13⟩ : ∃ j_ : Int, (shr .i64 x5_2 ((rd_T30 l1_1 x21_2).f0)) = j_ := ⟨_, rfl⟩
                        replace H : (if (Go.bits .and .i64 (ji13) 1) = 1 then (if 0 ≤ ((rd_T30 l1_1 x21_2).f1) then (branch_town_alone_2.l1 k2 (Go.bits .or .i64 x5_2 (shl .i64 1 ((rd_T30 l1_1 x21_2).f1))) a1_0 x14_1 l1_1 (l1_1.length : Int) (wrap64 (x21_2 + 1)) a1_0 l1_1 a2_0) else (none)) else (branch_town_alone_2.l1 k2 x5_2 a1_0 x14_1 l1_1 (l1_1.length : Int) (wrap64 (x21_2 + 1)) a1_0 l1_1 a2_0)) = some r := by first | (rw [hji13] at H; exact H) | (simp only [hji13] at H ⊢; exact H)
                        (try rw [hji13] at A10)
                        have hji13_ : (x5_2 / 2 ^ min ((rd_T30 l1_1 x21_2).f0).toNat 64) = ji13 := hji13
                        have hji13z : ((rd_T30 l1_1 x21_2).f0) ≤ 64 → (x5_2 / 2 ^ ((rd_T30 l1_1 x21_2).f0).toNat) = ji13 := shr_small hji13
                        by_cases c14 : (Go.bits .and .i64 (ji13) 1) = 1
                        · rw [if_pos c14] at H
                          have c14b0 : ((Go.bits .and .i64 (ji13) 1) == 1) = true := beq_iff_eq.mpr c14
                          have c14b1 : ((Go.bits .and .i64 (ji13) 1) != 1) = false := bne_eq_false_iff_eq.mpr c14
                          clear c14
                          by_cases c15 : 0 ≤ ((rd_T30 l1_1 x21_2).f1)
                          · rw [if_pos c15] at H
                            have c15b0 := eq_true c15
                            have c15b1 : decide (0 ≤ ((rd_T30 l1_1 x21_2).f1)) = true := decide_eq_true c15
                            clear c15
                            obtain ⟨ji16, hji16⟩ : ∃ j_ : Int, (shl .i64 1 ((rd_T30 l1_1 x21_2).f1)) = j_ := ⟨_, rfl⟩
                            replace H : (branch_town_alone_2.l1 k2 (Go.bits .or .i64 x5_2 (ji16)) a1_0 x14_1 l1_1 (l1_1.length : Int) (wrap64 (x21_2 + 1)) a1_0 l1_1 a2_0) = some r := by first | (rw [hji16] at H; exact H) | (simp only [hji16] at H ⊢; exact H)
                            (try rw [hji16] at A10)
                            have hji16_ : (IntKind.i64.wrap (1 * 2 ^ min ((rd_T30 l1_1 x21_2).f1).toNat 64)) = ji16 := hji16
                            have hji16z : ((rd_T30 l1_1 x21_2).f1) ≤ 64 → (IntKind.i64.wrap (1 * 2 ^ ((rd_T30 l1_1 x21_2).f1).toNat)) = ji16 := shl_small hji16
                            have hji16u : (IntKind.i64.wrap (2 ^ min ((rd_T30 l1_1 x21_2).f1).toNat 64)) = ji16 := by have h_ := hji16_; rw [Int.one_mul] at h_; exact h_
                            have hji16v : ((rd_T30 l1_1 x21_2).f1) ≤ 64 → (IntKind.i64.wrap (2 ^ ((rd_T30 l1_1 x21_2).f1).toNat)) = ji16 := fun hle_ => by have h_ := hji16z hle_; rw [Int.one_mul] at h_; exact h_
                            have hji16y : (wrap64 (1 * 2 ^ min ((rd_T30 l1_1 x21_2).f1).toNat 64)) = ji16 := (i64_w _).symm.trans hji16_
                            have hji16x : ((rd_T30 l1_1 x21_2).f1) ≤ 64 → (wrap64 (1 * 2 ^ ((rd_T30 l1_1 x21_2).f1).toNat)) = ji16 := fun h_ => (i64_w _).symm.trans (hji16z h_)
                            have H' := Aside0.mk H
                            clear H
                            have p109 : 0 ≤ (x21_2 : Int) := of_decide_eq_true (by first | (with_reducible assumption) | assumption)
                            have q109 : x21_2 < (l1_1.length : Int) := of_decide_eq_true (by first | (with_reducible assumption) | assumption)
                            obtain ⟨ad109, e109, hx109_0, hx109_1, hx109_2⟩ := at_T30 HR1_1.out x21_2 p109 q109
                            cases e109
                            replace hx109_0 := (HB.out.cell (World.block_lt_of_cell? w _ hx109_0)).trans hx109_0
                            replace hx109_1 := (HB.out.cell (World.block_lt_of_cell? w _ hx109_1)).trans hx109_1
                            replace hx109_2 := (HB.out.cell (World.block_lt_of_cell? w _ hx109_2)).trans hx109_2
                            replace p109 := eq_true p109
                            replace q109 := eq_true q109
                            go_wp2_with (first | ((with_reducible refine gate_dst (N := 7) rfl ?_); refine box_event ?hg (N := 7) ?hd (cs := #[.int .i64 0, .int .i64 0, .int .i64 0]) (t := 30) ?hr ?_; (case hd => rfl); (case hg => rfl); (case hr => first | (go_simp; done) | (go_simp; rfl)); intro gb110 hg w17 hbox hb; have n0_ := Aside0.mk (below_step (by repeat (first | (with_reducible first | exact HB.out | apply below_alloc | apply pw_below_drewN | apply below_drew1) | exact HB.out)) hb); have n1_ := Aside0.mk (hbox); have n2_ := Aside0.mk ((by rw [hg]; exact (below_size (by repeat (first | (with_reducible first | exact HB.out | apply below_alloc | apply pw_below_drewN | apply below_drew1) | exact HB.out))) : w.heap.size ≤ gb110)); have n3_ := Aside0.mk ((by rw [hg]; exact (below_size (by repeat (first | (with_reducible first | exact HB.out | apply below_alloc | apply pw_below_drewN | apply below_drew1) | exact HB.out))) : w.heap.size ≤ gb110)); clear HB; have HB := n0_; have BK110 := n1_; have GW110 := n2_; have GE110 := n3_; clear n0_ n1_ n2_ n3_; clear hb hbox hg; have hcz18_0 : w17.cell? ⟨gb110, 0, none⟩ = some (.int .i64 0) := (blk_cell BK110.out 0).trans rfl; have hcz18_1 : w17.cell? ⟨gb110, 1, none⟩ = some (.int .i64 0) := (blk_cell BK110.out 1).trans rfl; have hcz18_2 : w17.cell? ⟨gb110, 2, none⟩ = some (.int .i64 0) := (blk_cell BK110.out 2).trans rfl; have hfz18_0 := blk_frozen BK110.out 0; have hfz18_1 := blk_frozen BK110.out 1; have hfz18_2 := blk_frozen BK110.out 2; have hx111_0 := blk_cell HP2.out 0; replace hx111_0 := hx111_0.trans rfl; replace hx111_0 := (HB.out.cell (World.block_lt_of_cell? w _ hx111_0)).trans hx111_0; replace hx111_0 := (cell_far (a := ⟨g2, 0, none⟩) (p := ⟨gb110, 0, none⟩) (Nat.ne_of_lt (Nat.lt_of_lt_of_le (blk_lt HP2.out) GW110.out)) (.int .i64 ((rd_T30 l1_1 x21_2).f0))).trans hx111_0; replace hx111_0 := (cell_far (a := ⟨g2, 0, none⟩) (p := ⟨gb110, 1, none⟩) (Nat.ne_of_lt (Nat.lt_of_lt_of_le (blk_lt HP2.out) GW110.out)) (.int .i64 ((rd_T30 l1_1 x21_2).f1))).trans hx111_0; replace hx111_0 := (cell_far (a := ⟨g2, 0, none⟩) (p := ⟨gb110, 2, none⟩) (Nat.ne_of_lt (Nat.lt_of_lt_of_le (blk_lt HP2.out) GW110.out)) (.int .i64 ((rd_T30 l1_1 x21_2).f2))).trans hx111_0) | ((with_reducible refine gate_dst (N := 28) rfl ?_); refine goesF_ (some 28) rfl rfl HF2_0.out rfl rfl (i := x21_2) rfl ?sideB A10.out ?_; (case sideB => exact by repeat (first | (with_reducible first | exact HB.out | apply below_alloc | apply pw_below_drewN | apply below_drew1 | refine below_set ?_ GE110.out) | exact HB.out)); intro w19 hb; have n0_ := Aside0.mk (blk_below (g := gb110) (o := .cells #[.int .i64 ((rd_T30 l1_1 x21_2).f0), .int .i64 ((rd_T30 l1_1 x21_2).f1), .int .i64 ((rd_T30 l1_1 x21_2).f2)] 30 (0, 0)) (by (with_reducible repeat (first | refine blk_drewN ?_ _ | refine blk_drew ?_ | refine blk_alloc ?_ _)); refine blk_put (cs := #[.int .i64 ((rd_T30 l1_1 x21_2).f0), .int .i64 ((rd_T30 l1_1 x21_2).f1), .int .i64 0]) ?_ 2 _ rfl; (with_reducible repeat (first | refine blk_drewN ?_ _ | refine blk_drew ?_ | refine blk_alloc ?_ _)); refine blk_put (cs := #[.int .i64 ((rd_T30 l1_1 x21_2).f0), .int .i64 0, .int .i64 0]) ?_ 1 _ rfl; (with_reducible repeat (first | refine blk_drewN ?_ _ | refine blk_drew ?_ | refine blk_alloc ?_ _)); refine blk_put (cs := #[.int .i64 0, .int .i64 0, .int .i64 0]) ?_ 0 _ rfl; (with_reducible repeat (first | refine blk_drewN ?_ _ | refine blk_drew ?_ | refine blk_alloc ?_ _)); exact BK110.out) hb); have n1_ := Aside0.mk (below_step (by repeat (first | (with_reducible first | exact HB.out | apply below_alloc | apply pw_below_drewN | apply below_drew1 | refine below_set ?_ GE110.out) | exact HB.out)) hb); clear BK110; clear HB; have BK110 := n0_; have HB := n1_; clear n0_ n1_; (try clear hb); (try clear hb2); (try clear hk); (try clear hi); have hcz20_0 : w19.cell? ⟨gb110, 0, none⟩ = some (.int .i64 ((rd_T30 l1_1 x21_2).f0)) := (blk_cell BK110.out 0).trans rfl; have hcz20_1 : w19.cell? ⟨gb110, 1, none⟩ = some (.int .i64 ((rd_T30 l1_1 x21_2).f1)) := (blk_cell BK110.out 1).trans rfl; have hcz20_2 : w19.cell? ⟨gb110, 2, none⟩ = some (.int .i64 ((rd_T30 l1_1 x21_2).f2)) := (blk_cell BK110.out 2).trans rfl; have hfz20_0 := blk_frozen BK110.out 0; have hfz20_1 := blk_frozen BK110.out 1; have hfz20_2 := blk_frozen BK110.out 2))
                            go_roundg k2
                            case measure => have := HK1.out; have := HK2.out; omega
                            case rel => exact ⟨(Go.bits .or .i64 x5_2 (ji16)), (wrap64 (x21_2 + 1)), (by first | rfl | (simp; done) | (simp only [← hji16] <;> (first | rfl | simp)) | (simp [*]; done)), (by first | rfl | (simp; done) | (simp [*]; done)), H', ⟨by have := HK1.out; have := HK2.out; omega⟩, ⟨by repeat (first | (with_reducible first | exact HB.out | apply below_alloc | apply pw_below_drewN | apply below_drew1 | refine below_set ?_ GE110.out) | exact HB.out)⟩⟩
                          · rw [if_neg c15] at H
                            exact absurd H (by simp)
                        · rw [if_neg c14] at H
                          have c14b0 : ((Go.bits .and .i64 (ji13) 1) == 1) = false := beq_eq_false_iff_ne.mpr c14
                          have c14b1 : ((Go.bits .and .i64 (ji13) 1) != 1) = true := bne_iff_ne.mpr c14
                          have H' := Aside0.mk H
                          clear H
                          have p109 : 0 ≤ (x21_2 : Int) := of_decide_eq_true (by first | (with_reducible assumption) | assumption)
                          have q109 : x21_2 < (l1_1.length : Int) := of_decide_eq_true (by first | (with_reducible assumption) | assumption)
                          obtain ⟨ad109, e109, hx109_0, hx109_1, hx109_2⟩ := at_T30 HR1_1.out x21_2 p109 q109
                          cases e109
                          replace hx109_0 := (HB.out.cell (World.block_lt_of_cell? w _ hx109_0)).trans hx109_0
                          replace hx109_1 := (HB.out.cell (World.block_lt_of_cell? w _ hx109_1)).trans hx109_1
                          replace hx109_2 := (HB.out.cell (World.block_lt_of_cell? w _ hx109_2)).trans hx109_2
                          replace p109 := eq_true p109
                          replace q109 := eq_true q109
                          go_wp2_with (first | ((with_reducible refine gate_dst (N := 7) rfl ?_); refine box_event ?hg (N := 7) ?hd (cs := #[.int .i64 0, .int .i64 0, .int .i64 0]) (t := 30) ?hr ?_; (case hd => rfl); (case hg => rfl); (case hr => first | (go_simp; done) | (go_simp; rfl)); intro gb110 hg w21 hbox hb; have n0_ := Aside0.mk (below_step (by repeat (first | (with_reducible first | exact HB.out | apply below_alloc | apply pw_below_drewN | apply below_drew1) | exact HB.out)) hb); have n1_ := Aside0.mk (hbox); have n2_ := Aside0.mk ((by rw [hg]; exact (below_size (by repeat (first | (with_reducible first | exact HB.out | apply below_alloc | apply pw_below_drewN | apply below_drew1) | exact HB.out))) : w.heap.size ≤ gb110)); have n3_ := Aside0.mk ((by rw [hg]; exact (below_size (by repeat (first | (with_reducible first | exact HB.out | apply below_alloc | apply pw_below_drewN | apply below_drew1) | exact HB.out))) : w.heap.size ≤ gb110)); clear HB; have HB := n0_; have BK110 := n1_; have GW110 := n2_; have GE110 := n3_; clear n0_ n1_ n2_ n3_; clear hb hbox hg; have hcz22_0 : w21.cell? ⟨gb110, 0, none⟩ = some (.int .i64 0) := (blk_cell BK110.out 0).trans rfl; have hcz22_1 : w21.cell? ⟨gb110, 1, none⟩ = some (.int .i64 0) := (blk_cell BK110.out 1).trans rfl; have hcz22_2 : w21.cell? ⟨gb110, 2, none⟩ = some (.int .i64 0) := (blk_cell BK110.out 2).trans rfl; have hfz22_0 := blk_frozen BK110.out 0; have hfz22_1 := blk_frozen BK110.out 1; have hfz22_2 := blk_frozen BK110.out 2; have hx111_0 := blk_cell HP2.out 0; replace hx111_0 := hx111_0.trans rfl; replace hx111_0 := (HB.out.cell (World.block_lt_of_cell? w _ hx111_0)).trans hx111_0; replace hx111_0 := (cell_far (a := ⟨g2, 0, none⟩) (p := ⟨gb110, 0, none⟩) (Nat.ne_of_lt (Nat.lt_of_lt_of_le (blk_lt HP2.out) GW110.out)) (.int .i64 ((rd_T30 l1_1 x21_2).f0))).trans hx111_0; replace hx111_0 := (cell_far (a := ⟨g2, 0, none⟩) (p := ⟨gb110, 1, none⟩) (Nat.ne_of_lt (Nat.lt_of_lt_of_le (blk_lt HP2.out) GW110.out)) (.int .i64 ((rd_T30 l1_1 x21_2).f1))).trans hx111_0; replace hx111_0 := (cell_far (a := ⟨g2, 0, none⟩) (p := ⟨gb110, 2, none⟩) (Nat.ne_of_lt (Nat.lt_of_lt_of_le (blk_lt HP2.out) GW110.out)) (.int .i64 ((rd_T30 l1_1 x21_2).f2))).trans hx111_0) | ((with_reducible refine gate_dst (N := 28) rfl ?_); refine goesF_ (some 28) rfl rfl HF2_0.out rfl rfl (i := x21_2) rfl ?sideB A10.out ?_; (case sideB => exact by repeat (first | (with_reducible first | exact HB.out | apply below_alloc | apply pw_below_drewN | apply below_drew1 | refine below_set ?_ GE110.out) | exact HB.out)); intro w23 hb; have n0_ := Aside0.mk (blk_below (g := gb110) (o := .cells #[.int .i64 ((rd_T30 l1_1 x21_2).f0), .int .i64 ((rd_T30 l1_1 x21_2).f1), .int .i64 ((rd_T30 l1_1 x21_2).f2)] 30 (0, 0)) (by (with_reducible repeat (first | refine blk_drewN ?_ _ | refine blk_drew ?_ | refine blk_alloc ?_ _)); refine blk_put (cs := #[.int .i64 ((rd_T30 l1_1 x21_2).f0), .int .i64 ((rd_T30 l1_1 x21_2).f1), .int .i64 0]) ?_ 2 _ rfl; (with_reducible repeat (first | refine blk_drewN ?_ _ | refine blk_drew ?_ | refine blk_alloc ?_ _)); refine blk_put (cs := #[.int .i64 ((rd_T30 l1_1 x21_2).f0), .int .i64 0, .int .i64 0]) ?_ 1 _ rfl; (with_reducible repeat (first | refine blk_drewN ?_ _ | refine blk_drew ?_ | refine blk_alloc ?_ _)); refine blk_put (cs := #[.int .i64 0, .int .i64 0, .int .i64 0]) ?_ 0 _ rfl; (with_reducible repeat (first | refine blk_drewN ?_ _ | refine blk_drew ?_ | refine blk_alloc ?_ _)); exact BK110.out) hb); have n1_ := Aside0.mk (below_step (by repeat (first | (with_reducible first | exact HB.out | apply below_alloc | apply pw_below_drewN | apply below_drew1 | refine below_set ?_ GE110.out) | exact HB.out)) hb); clear BK110; clear HB; have BK110 := n0_; have HB := n1_; clear n0_ n1_; (try clear hb); (try clear hb2); (try clear hk); (try clear hi); have hcz24_0 : w23.cell? ⟨gb110, 0, none⟩ = some (.int .i64 ((rd_T30 l1_1 x21_2).f0)) := (blk_cell BK110.out 0).trans rfl; have hcz24_1 : w23.cell? ⟨gb110, 1, none⟩ = some (.int .i64 ((rd_T30 l1_1 x21_2).f1)) := (blk_cell BK110.out 1).trans rfl; have hcz24_2 : w23.cell? ⟨gb110, 2, none⟩ = some (.int .i64 ((rd_T30 l1_1 x21_2).f2)) := (blk_cell BK110.out 2).trans rfl; have hfz24_0 := blk_frozen BK110.out 0; have hfz24_1 := blk_frozen BK110.out 1; have hfz24_2 := blk_frozen BK110.out 2))
                          go_roundg k2
                          case measure => have := HK1.out; have := HK2.out; omega
                          case rel => exact ⟨(x5_2), (wrap64 (x21_2 + 1)), (by first | rfl | (simp; done) | (simp [*]; done)), (by first | rfl | (simp; done) | (simp [*]; done)), H', ⟨by have := HK1.out; have := HK2.out; omega⟩, ⟨by repeat (first | (with_reducible first | exact HB.out | apply below_alloc | apply pw_below_drewN | apply below_drew1 | refine below_set ?_ GE110.out) | exact HB.out)⟩⟩
                      · rw [if_neg c12] at H
                        exact absurd H (by simp)
                    · replace c11 := Bool.eq_false_iff.mpr c11
                      subst c11
                      have H1 : (branch_town_alone_2.l1 k2 x5_2 a1_0 x14_1 l1_1 (l1_1.length : Int) (wrap64 (x21_2 + 1)) a1_0 l1_1 a2_0) = some r := by rw [if_neg (show ¬ (false = true) by decide)] at H; exact H
                      clear H
                      have H := H1
                      clear H1
                      have H' := Aside0.mk H
                      clear H
                      have p109 : 0 ≤ (x21_2 : Int) := of_decide_eq_true (by first | (with_reducible assumption) | assumption)
                      have q109 : x21_2 < (l1_1.length : Int) := of_decide_eq_true (by first | (with_reducible assumption) | assumption)
                      obtain ⟨ad109, e109, hx109_0, hx109_1, hx109_2⟩ := at_T30 HR1_1.out x21_2 p109 q109
                      cases e109
                      replace hx109_0 := (HB.out.cell (World.block_lt_of_cell? w _ hx109_0)).trans hx109_0
                      replace hx109_1 := (HB.out.cell (World.block_lt_of_cell? w _ hx109_1)).trans hx109_1
                      replace hx109_2 := (HB.out.cell (World.block_lt_of_cell? w _ hx109_2)).trans hx109_2
                      replace p109 := eq_true p109
                      replace q109 := eq_true q109
                      go_wp2_with (first | ((with_reducible refine gate_dst (N := 7) rfl ?_); refine box_event ?hg (N := 7) ?hd (cs := #[.int .i64 0, .int .i64 0, .int .i64 0]) (t := 30) ?hr ?_; (case hd => rfl); (case hg => rfl); (case hr => first | (go_simp; done) | (go_simp; rfl)); intro gb110 hg w25 hbox hb; have n0_ := Aside0.mk (below_step (by repeat (first | (with_reducible first | exact HB.out | apply below_alloc | apply pw_below_drewN | apply below_drew1) | exact HB.out)) hb); have n1_ := Aside0.mk (hbox); have n2_ := Aside0.mk ((by rw [hg]; exact (below_size (by repeat (first | (with_reducible first | exact HB.out | apply below_alloc | apply pw_below_drewN | apply below_drew1) | exact HB.out))) : w.heap.size ≤ gb110)); have n3_ := Aside0.mk ((by rw [hg]; exact (below_size (by repeat (first | (with_reducible first | exact HB.out | apply below_alloc | apply pw_below_drewN | apply below_drew1) | exact HB.out))) : w.heap.size ≤ gb110)); clear HB; have HB := n0_; have BK110 := n1_; have GW110 := n2_; have GE110 := n3_; clear n0_ n1_ n2_ n3_; clear hb hbox hg; have hcz26_0 : w25.cell? ⟨gb110, 0, none⟩ = some (.int .i64 0) := (blk_cell BK110.out 0).trans rfl; have hcz26_1 : w25.cell? ⟨gb110, 1, none⟩ = some (.int .i64 0) := (blk_cell BK110.out 1).trans rfl; have hcz26_2 : w25.cell? ⟨gb110, 2, none⟩ = some (.int .i64 0) := (blk_cell BK110.out 2).trans rfl; have hfz26_0 := blk_frozen BK110.out 0; have hfz26_1 := blk_frozen BK110.out 1; have hfz26_2 := blk_frozen BK110.out 2; have hx111_0 := blk_cell HP2.out 0; replace hx111_0 := hx111_0.trans rfl; replace hx111_0 := (HB.out.cell (World.block_lt_of_cell? w _ hx111_0)).trans hx111_0; replace hx111_0 := (cell_far (a := ⟨g2, 0, none⟩) (p := ⟨gb110, 0, none⟩) (Nat.ne_of_lt (Nat.lt_of_lt_of_le (blk_lt HP2.out) GW110.out)) (.int .i64 ((rd_T30 l1_1 x21_2).f0))).trans hx111_0; replace hx111_0 := (cell_far (a := ⟨g2, 0, none⟩) (p := ⟨gb110, 1, none⟩) (Nat.ne_of_lt (Nat.lt_of_lt_of_le (blk_lt HP2.out) GW110.out)) (.int .i64 ((rd_T30 l1_1 x21_2).f1))).trans hx111_0; replace hx111_0 := (cell_far (a := ⟨g2, 0, none⟩) (p := ⟨gb110, 2, none⟩) (Nat.ne_of_lt (Nat.lt_of_lt_of_le (blk_lt HP2.out) GW110.out)) (.int .i64 ((rd_T30 l1_1 x21_2).f2))).trans hx111_0) | ((with_reducible refine gate_dst (N := 28) rfl ?_); refine goesF_ (some 28) rfl rfl HF2_0.out rfl rfl (i := x21_2) rfl ?sideB A10.out ?_; (case sideB => exact by repeat (first | (with_reducible first | exact HB.out | apply below_alloc | apply pw_below_drewN | apply below_drew1 | refine below_set ?_ GE110.out) | exact HB.out)); intro w27 hb; have n0_ := Aside0.mk (blk_below (g := gb110) (o := .cells #[.int .i64 ((rd_T30 l1_1 x21_2).f0), .int .i64 ((rd_T30 l1_1 x21_2).f1), .int .i64 ((rd_T30 l1_1 x21_2).f2)] 30 (0, 0)) (by (with_reducible repeat (first | refine blk_drewN ?_ _ | refine blk_drew ?_ | refine blk_alloc ?_ _)); refine blk_put (cs := #[.int .i64 ((rd_T30 l1_1 x21_2).f0), .int .i64 ((rd_T30 l1_1 x21_2).f1), .int .i64 0]) ?_ 2 _ rfl; (with_reducible repeat (first | refine blk_drewN ?_ _ | refine blk_drew ?_ | refine blk_alloc ?_ _)); refine blk_put (cs := #[.int .i64 ((rd_T30 l1_1 x21_2).f0), .int .i64 0, .int .i64 0]) ?_ 1 _ rfl; (with_reducible repeat (first | refine blk_drewN ?_ _ | refine blk_drew ?_ | refine blk_alloc ?_ _)); refine blk_put (cs := #[.int .i64 0, .int .i64 0, .int .i64 0]) ?_ 0 _ rfl; (with_reducible repeat (first | refine blk_drewN ?_ _ | refine blk_drew ?_ | refine blk_alloc ?_ _)); exact BK110.out) hb); have n1_ := Aside0.mk (below_step (by repeat (first | (with_reducible first | exact HB.out | apply below_alloc | apply pw_below_drewN | apply below_drew1 | refine below_set ?_ GE110.out) | exact HB.out)) hb); clear BK110; clear HB; have BK110 := n0_; have HB := n1_; clear n0_ n1_; (try clear hb); (try clear hb2); (try clear hk); (try clear hi)))
                      go_roundg k2
                      case measure => have := HK1.out; have := HK2.out; omega
                      case rel => exact ⟨(x5_2), (wrap64 (x21_2 + 1)), (by first | rfl | (simp; done) | (simp [*]; done)), (by first | rfl | (simp; done) | (simp [*]; done)), H', ⟨by have := HK1.out; have := HK2.out; omega⟩, ⟨by repeat (first | (with_reducible first | exact HB.out | apply below_alloc | apply pw_below_drewN | apply below_drew1 | refine below_set ?_ GE110.out) | exact HB.out)⟩⟩
                  · rw [if_neg c9] at H
                    exact absurd H (by simp)
                · rw [if_neg c8] at H
                  exact absurd H (by simp)
              · rw [if_neg c7] at H
                have c7b0 : decide (x21_2 < (l1_1.length : Int)) = false := decide_eq_false c7
                clear c7
                have H' := Aside0.mk H
                clear H
                go_wp2
                go_roundg k2
                case measure => have := HK1.out; have := HK2.out; omega
                case rel => exact ⟨(x5_2), (wrap64 (x14_1 + 1)), (by first | rfl | (simp; done) | (simp [*]; done)), (by first | rfl | (simp; done) | (simp [*]; done)), H', ⟨by have := HK1.out; have := HK2.out; omega⟩, ⟨by repeat (first | (with_reducible first | exact HB.out | apply below_alloc | apply pw_below_drewN | apply below_drew1) | exact HB.out)⟩⟩
        · rw [if_neg c6] at H
          have c6b0 : decide (x14_1 < a1_0) = false := decide_eq_false c6
          clear c6
          obtain rfl := Option.some.inj H
          go_wp2
          go_ret
          exact ⟨by first | rfl | (simp [errW_none, errW_some] <;> rfl) | (simp only [← hji5]; first | rfl | (simp [errW_none, errW_some] <;> rfl)) | (simp [*, errW_none, errW_some] <;> rfl), by repeat (first | (with_reducible first | exact HB.out | apply below_alloc | apply pw_below_drewN | apply below_drew1) | exact HB.out)⟩
  · rw [if_neg c4] at H
    exact absurd H (by simp)
def branch_town_first_2.f (a0 : Int) (a1_0 : Int) (l1_1 : List (S30)) (a2_0 : Int) : Option (Bool) := if 0 ≤ a0 then (if a0 < (l1_1.length : Int) then (some (((rd_T30 l1_1 a0).f1) == a2_0)) else (none)) else (none)
set_option maxHeartbeats 8000000 in
set_option maxRecDepth 100000 in
theorem branch_town_first_2.calls (a0 : Int) (g1 : Nat) (gg1 : Nat) (a1_0 : Int) (A1_1 : Option Addr) (c1_1 : Nat) (l1_1 : List (S30)) (a1_2 : Option Nat) (g2 : Nat) (a2_0 : Int) (r : Bool) (w : World) (hP1 : w.heap[g1]? = some (.cells #[.pointer (some ⟨gg1, 0, none⟩)] 65 (0, 0))) (hQ1 : w.heap[gg1]? = some (.cells #[.int .i64 a1_0, .slice A1_1 l1_1.length c1_1, .map a1_2] 70 (0, 0))) (hr1_1 : Kd.C k30 w A1_1 l1_1.length l1_1) (hc1_1 : l1_1.length ≤ c1_1) (hP2 : w.heap[g2]? = some (.cells #[.int .i64 a2_0] 3 (0, 0))) (h : branch_town_first_2.f a0 a1_0 l1_1 a2_0 = some r) :
    Calls Try.prog 71 #[.int .i64 a0, .pointer (some ⟨g1, 0, none⟩), .pointer (some ⟨g2, 0, none⟩)] w fun e w' => e = .returned (.bool r) ∧ Drawn0 w w' := by
  have hu65 := Try.underlying65
  have HP1 := Aside0.mk hP1
  clear hP1
  have HQ1 := Aside0.mk hQ1
  clear hQ1
  have HR1_1 := Aside0.mk hr1_1
  have HC1_1 := Aside0.mk hc1_1
  clear hr1_1 hc1_1
  have HP2 := Aside0.mk hP2
  clear hP2
  have H : (if 0 ≤ a0 then (if a0 < (l1_1.length : Int) then (some (((rd_T30 l1_1 a0).f1) == a2_0)) else (none)) else (none)) = some r := h
  clear h
  by_cases c4 : 0 ≤ a0
  · rw [if_pos c4] at H
    have c4b0 : decide (0 ≤ a0) = true := decide_eq_true c4
    clear c4
    by_cases c5 : a0 < (l1_1.length : Int)
    · rw [if_pos c5] at H
      have c5b0 : decide (a0 < (l1_1.length : Int)) = true := decide_eq_true c5
      clear c5
      obtain rfl := Option.some.inj H
      have hx113_0 := blk_cell HP1.out 0
      replace hx113_0 := hx113_0.trans rfl
      have hx114_0 := blk_cell HQ1.out 0
      replace hx114_0 := hx114_0.trans rfl
      have hx114_1 := blk_cell HQ1.out 1
      replace hx114_1 := hx114_1.trans rfl
      have hx114_2 := blk_cell HQ1.out 2
      replace hx114_2 := hx114_2.trans rfl
      have p115 : 0 ≤ (a0 : Int) := of_decide_eq_true (by first | (with_reducible assumption) | assumption)
      have q115 : a0 < (l1_1.length : Int) := of_decide_eq_true (by first | (with_reducible assumption) | assumption)
      obtain ⟨ad115, e115, hx115_0, hx115_1, hx115_2⟩ := at_T30 HR1_1.out a0 p115 q115
      cases e115
      replace p115 := eq_true p115
      replace q115 := eq_true q115
      have hx116_0 := blk_cell HP2.out 0
      replace hx116_0 := hx116_0.trans rfl
      go_enter Try.func71, Try.ntmps71
      go_wp2
      repeat (go_quiet (fail); try go_wp2)
      go_ret
      exact ⟨by first | rfl | (simp; done) | (simp [*]; done), by repeat (first | exact Drawn0.refl _ | apply Drawn0.step)⟩
    · rw [if_neg c5] at H
      exact absurd H (by simp)
  · rw [if_neg c4] at H
    exact absurd H (by simp)
def branch_town_first_1.f (a0 : Int) : Option (Bool) := some false
set_option maxHeartbeats 8000000 in
set_option maxRecDepth 100000 in
theorem branch_town_first_1.calls (a0 : Int) (r : Bool) (w : World) (h : branch_town_first_1.f a0 = some r) :
    Calls Try.prog 69 #[.int .i64 a0] w fun e w' => e = .returned (.bool r) ∧ Drawn0 w w' := by
  have H : (some false) = some r := h
  clear h
  obtain rfl := Option.some.inj H
  go_enter Try.func69, Try.ntmps69
  go_wp2
  go_ret
  exact ⟨by first | rfl | (simp; done) | (simp [*]; done), by repeat (first | exact Drawn0.refl _ | apply Drawn0.step)⟩
def branch_Proof_1.f (a0 : Int) : Option (Bool) := some false
set_option maxHeartbeats 8000000 in
set_option maxRecDepth 100000 in
theorem branch_Proof_1.calls (a0 : Int) (r : Bool) (w : World) (h : branch_Proof_1.f a0 = some r) :
    Calls Try.prog 48 #[.int .i64 a0] w fun e w' => e = .returned (.bool r) ∧ Drawn0 w w' := by
  have H : (some false) = some r := h
  clear h
  obtain rfl := Option.some.inj H
  go_enter Try.func48, Try.ntmps48
  go_wp2
  go_ret
  exact ⟨by first | rfl | (simp; done) | (simp [*]; done), by repeat (first | exact Drawn0.refl _ | apply Drawn0.step)⟩
end Go.Proofs.Ytpmadffgdfholaa.B
namespace Go.Proofs.Ytpmadffgdfholaa.B
open Go.RowKit Go.Proofs.YtpmadffgdfholaaW.PrintWords Go.Proofs.YtpmadffgdfholaaW.PrintLast Go.Proofs.YtpmadffgdfholaaW.PrintMore
set_option linter.unusedVariables false
set_option linter.unusedSimpArgs false
def slices_Clone.f (l0 : List Int) : Option (List Int) := if l0.length < 17592186044416 then some l0 else none
set_option maxHeartbeats 800000 in
set_option maxRecDepth 100000 in
theorem slices_Clone.calls (A0 : Option Addr) (c0 : Nat) (l0 : List Int) (r : List Int) (w : World) (hr0 : Kd.C (Kd.int .i64) w A0 l0.length l0) (hc0 : l0.length ≤ c0) (h : slices_Clone.f l0 = some r) :
    Calls Try.prog 67 #[.slice A0 l0.length c0] w fun e w' => ∃ v0_ : Value, e = .returned (v0_) ∧ Kd.R (Kd.int .i64) 3 w' w.heap.size (fun _ => True) v0_ r ∧ Below w.heap.size w w' := by
  have HR0 := Aside0.mk hr0
  clear hr0
  have qT : ∀ (w : World) (a : Option Addr) (n c n' c' : Nat), (binOp .eql 28 (.slice a n c) (.slice none n' c')).run Try.prog w = .ok (.bool a.isNone) w := fun w a n c n' c' => Lib.run_eql_slice_nil w _ _ a n c n' c' Try.underlying28
  unfold slices_Clone.f at h
  split at h
  case isFalse => exact absurd h (by simp)
  rename_i hl
  obtain rfl := Option.some.inj h
  clear h
  have HB := Aside0.mk (Below.refl w.heap.size w)
  rcases A0 with _ | ad
  · obtain rfl : l0 = [] := by
      obtain ⟨inner, h1, h2⟩ := HR0.out
      rcases l0 with _ | ⟨x, l⟩
      · rfl
      · obtain ⟨ad, c, e, _⟩ := Kd.C_get HR0.out 0 0 (by omega) (by simp)
        exact absurd e (by simp)
    go_enter Try.func67, Try.ntmps67
    go_wp2
    go_ret
    exact ⟨_, rfl, Kd.R_nil _ _ _ _ _, by repeat (first | exact Below.refl _ _ | apply below_alloc)⟩
  · go_enter Try.func67, Try.ntmps67
    go_wp2_with (first | ((with_reducible refine gate_dst (N := 5) rfl ?_); refine Kd.R_lit (Kd.int .i64) _ 3 ?hg (N := 5) ?hd (xs := ([] : List Int)) (inner := []) (ok := fun _ => True) (okp := fun _ => True) ?hr ?hp (fun _ hk => hk) trivial (Below.refl _ _) (Nat.le_refl _) (by simp) ?_; (case hd => rfl); (case hg => rfl); (case hr => first | (go_simp; done) | (go_simp; rfl)); (case hp => exact (Reps.none _ _)); intro v5 w1 ho2 hb hg_ hnew_; have HO := Aside0.mk ho2; have HB1 := Aside0.mk hb; clear ho2 hb hg_ hnew_) | ((with_reducible refine gate_dst (N := 7) rfl ?_); refine Kd.R_append_rows (Kd.int .i64) (w0 := w) w.heap.size rfl (.tmp 5) (.tmp 6) 28 3 (.int .i64 0) 8 rfl Try.underlying28 info3 rfl (by decide) (by omega) v5 ([] : List Int) l0 _ _ _ (fun _ => True) (fun _ => False) rfl rfl ?aO ?aR (fun _ _ h => h) (fun _ h => h.elim) ?aF ?aB ?aS ?aL ?_; (case aR => exact Kd.C_below HR0.out HB1.out); (case aB => exact HB1.out); (case aF => exact (fun _ _ => trivial)); (case aO => exact HO.out); (case aS => exact HB1.out.size); (case aL => simp; omega); intro v7 w2 ho2 hb hg_ hat_; have HO2 := Aside0.mk ho2; have HB2 := Aside0.mk hb; clear ho2 hb hg_ hat_))
    go_ret
    exact ⟨_, rfl, by simpa using HO2.out, HB2.out⟩
end Go.Proofs.Ytpmadffgdfholaa.B
namespace Go.Proofs.Ytpmadffgdfholaa.B
open Go.RowKit Go.Proofs.YtpmadffgdfholaaW.PrintWords Go.Proofs.YtpmadffgdfholaaW.PrintLast Go.Proofs.YtpmadffgdfholaaW.PrintMore
set_option linter.unusedVariables false
set_option linter.unusedSimpArgs false
/-- What stands while alone runs. -/
structure AlEnv (w W : World) (g0 g3 g7 : Nat) (n : Int) (A : Option Addr) (c : Nat) (l : List S30) (m : Option Nat) (vf : Value) (o : Int → Option Bool) : Prop where
  hb : Below w.heap.size w W
  hP : W.heap[g3]? = some (.cells #[.pointer (some ⟨g0, 0, none⟩)] 65 (0, 0))
  hQ : W.heap[g0]? = some (.cells #[.int .i64 n, .slice A l.length c, .map m] 70 (0, 0))
  hr : Kd.C k30 W A l.length l
  hc : l.length ≤ c
  h7 : W.heap[g7]? = some (.cells #[vf] 75 (0, 0))
  hF : IsFn Try.prog W vf o
theorem AlEnv.below {w W W2 : World} {g0 g3 g7 : Nat} {n : Int} {A : Option Addr} {c : Nat} {l : List S30} {m : Option Nat} {vf : Value} {o : Int → Option Bool} (h : AlEnv w W g0 g3 g7 n A c l m vf o) (hb : Below W.heap.size W W2) : AlEnv w W2 g0 g3 g7 n A c l m vf o :=
  ⟨below_step h.hb hb, (hb.block _ (blk_lt h.hP)).trans h.hP, (hb.block _ (blk_lt h.hQ)).trans h.hQ, Kd.C_below h.hr hb, h.hc, (hb.block _ (blk_lt h.h7)).trans h.h7, h.hF.below hb⟩
theorem AlEnv.call {w W : World} {g0 g3 g7 : Nat} {n : Int} {A : Option Addr} {c : Nat} {l : List S30} {m : Option Nat} {vf : Value} {o : Int → Option Bool} (h : AlEnv w W g0 g3 g7 n A c l m vf o) (k : Nat) (d r : Int) (hf : branch_town_alone_2.f k d n l o = some r) :
    Calls Try.prog 80 #[.int .i64 d, .pointer (some ⟨g3, 0, none⟩), .pointer (some ⟨g7, 0, none⟩)] W fun e W' => e = .returned (.int .i64 r) ∧ AlEnv w W' g0 g3 g7 n A c l m vf o :=
  (branch_town_alone_2.calls k d g3 g0 n A c l m g7 vf o r W h.hP h.hQ h.hr h.hc h.h7 h.hF hf).mono fun e W' ⟨he, hb⟩ => ⟨he, h.below hb⟩
theorem IsFn_alone1 {W : World} {g4 g5 : Nat} {A : Option Addr} {c : Nat} {l : List Int} {vo : Value} {o : Int → Option Bool} (h4 : W.heap[g4]? = some (.cells #[.slice A l.length c] 28 (0, 0))) (hr : Kd.C (Kd.int .i64) W A l.length l) (hc : l.length ≤ c) (h5 : W.heap[g5]? = some (.cells #[vo] 75 (0, 0))) (hF : IsFn Try.prog W vo o) :
    IsFn Try.prog W (.func (.func 79) #[] #[.pointer (some ⟨g4, 0, none⟩), .pointer (some ⟨g5, 0, none⟩)]) (fun i => branch_town_alone_1.f i l o) := by
  refine ⟨79, _, Try.f79, rfl, Try.func79, by kernel_rfl, rfl, fun W2 hW i r hf => ?_⟩
  exact (branch_town_alone_1.calls i g4 A c l g5 vo o r W2 ((hW.block _ (blk_lt h4)).trans h4) (Kd.C_below hr hW) hc ((hW.block _ (blk_lt h5)).trans h5) (hF.below hW) hf).mono fun e W' ⟨he, hb⟩ => ⟨he, by first | exact hb | exact hb.below⟩
def hasB (s c : Int) : Bool := Go.bits .and .i64 (shr .i64 s c) 1 == 1
/-- The corners from which c is reached. -/
def gatherB (R : Int → Int) (c : Int) : Nat → Int
  | 0 => 0
  | j + 1 => if hasB (R j) c then Go.bits .or .i64 (gatherB R c j) (shl .i64 1 j) else gatherB R c j
/-- Is each of the set's corners below j reached from c? -/
def closedB (R : Int → Int) (c s : Int) : Nat → Bool
  | 0 => true
  | j + 1 => closedB R c s j && !(hasB s j && (Go.bits .and .i64 (shr .i64 (R c) j) 1 == 0))
def isAloneB (R : Int → Int) (n : Nat) (c : Int) : Bool := !(hasB (R 0) c) && closedB R c (gatherB R c n) n
/-- From corner c on, j corners being left. -/
def aloneB (R : Int → Int) (n : Nat) : Nat → Int
  | 0 => 0
  | j + 1 => if isAloneB R n ((n - (j + 1) : Nat) : Int) then gatherB R ((n - (j + 1) : Nat) : Int) n else aloneB R n j
theorem gatherB_succ (R : Int → Int) (c y : Int) (h : 0 ≤ y) : gatherB R c (y + 1).toNat = if hasB (R y) c then Go.bits .or .i64 (gatherB R c y.toNat) (shl .i64 1 y) else gatherB R c y.toNat := by
  obtain ⟨j, rfl⟩ := Int.eq_ofNat_of_zero_le h
  rfl
theorem closedB_succ (R : Int → Int) (c s z : Int) (h : 0 ≤ z) : closedB R c s (z + 1).toNat = (closedB R c s z.toNat && !(hasB s z && (Go.bits .and .i64 (shr .i64 (R c) z) 1 == 0))) := by
  obtain ⟨j, rfl⟩ := Int.eq_ofNat_of_zero_le h
  rfl
theorem closedB_false (R : Int → Int) (c s : Int) (n : Nat) (z : Int) (h0 : 0 ≤ z) (h1 : z < n) (hs : hasB s z = true) (hr : (Go.bits .and .i64 (shr .i64 (R c) z) 1 == 0) = true) : closedB R c s n = false := by
  obtain ⟨j, rfl⟩ := Int.eq_ofNat_of_zero_le h0
  have hj : j < n := by omega
  clear h0 h1
  induction n with
  | zero => omega
  | succ n ih =>
    rcases Nat.lt_or_ge j n with h | h
    · simp [closedB, ih h]
    · obtain rfl : j = n := by omega
      simp [closedB, hs, hr]
theorem aloneB_skip (R : Int → Int) (n k : Nat) (x : Int) (hx : 0 ≤ x ∧ x + ((k + 1 : Nat) : Int) = (n : Int)) (h : isAloneB R n x = false) : aloneB R n (k + 1) = aloneB R n k := by
  have e : ((n - (k + 1) : Nat) : Int) = x := by omega
  simp only [aloneB, e, h]; simp
theorem aloneB_hit (R : Int → Int) (n k : Nat) (x : Int) (hx : 0 ≤ x ∧ x + ((k + 1 : Nat) : Int) = (n : Int)) (h : isAloneB R n x = true) : aloneB R n (k + 1) = gatherB R x n := by
  have e : ((n - (k + 1) : Nat) : Int) = x := by omega
  simp only [aloneB, e, h]; simp
set_option maxHeartbeats 4000000 in
set_option maxRecDepth 100000 in
theorem alone_calls (k : Nat) (g0 : Nat) (n : Nat) (A0 : Option Addr) (c0 : Nat) (l : List S30) (m : Option Nat) (A1 : Option Addr) (c1 : Nat) (l1 : List Int) (vo : Value) (o : Int → Option Bool) (R : Int → Int) (w : World) (N : Int) (hN : N = n) (hn : n ≤ 7) (hn1 : 1 ≤ n)
    (hP0 : w.heap[g0]? = some (.cells #[.int .i64 N, .slice A0 l.length c0, .map m] 70 (0, 0))) (hr0 : Kd.C k30 w A0 l.length l) (hc0 : l.length ≤ c0) (hr1 : Kd.C (Kd.int .i64) w A1 l1.length l1) (hc1 : l1.length ≤ c1) (hF : IsFn Try.prog w vo o)
    (hR : ∀ d : Int, 0 ≤ d → d < n → branch_town_alone_2.f k d N l (fun i => branch_town_alone_1.f i l1 o) = some (R d)) :
    Calls Try.prog 68 #[.pointer (some ⟨g0, 0, none⟩), .slice A1 l1.length c1, vo] w fun e w' => e = .returned (.int .i64 (aloneB R n n)) ∧ Below w.heap.size w w' := by
  have HN := Aside0.mk hN
  clear hN
  have HR := Aside0.mk hR
  have HP0 := Aside0.mk hP0
  have HR0 := Aside0.mk hr0
  have HR1 := Aside0.mk hr1
  have HF := Aside0.mk hF
  clear hR hP0 hr0 hr1 hF
  obtain ⟨fo, caps, hvo⟩ : ∃ fo caps, vo = .func (.func fo) #[] caps := by obtain ⟨fo, caps, _, e, _⟩ := HF.out; exact ⟨fo, caps, e⟩
  subst hvo
  have hmf : ∀ (fn : Fn) (first cap : Array Value) (w : World), (Instr.makeFunc fn first cap).run Try.prog w = .ok (.func fn first cap) w := fun _ _ _ _ => rfl
  go_enter Try.func68, Try.ntmps68
  go_wp2_with (first
    | ((with_reducible refine gate_dst (N := 3) rfl ?_); refine box_event ?hg (N := 3) ?hd (cs := #[.pointer (some ⟨g0, 0, none⟩)]) (t := 65) ?hr ?_; (case hd => rfl); (case hg => rfl); (case hr => first | (go_simp; done) | (go_simp; rfl)); intro g3 hg3 w3 hbox3 hb3; have H3 := Aside0.mk hbox3; have B3 := Aside0.mk hb3; clear hg3 hbox3 hb3)
    | ((with_reducible refine gate_dst (N := 4) rfl ?_); refine box_event ?hg (N := 4) ?hd (cs := #[.slice A1 l1.length c1]) (t := 28) ?hr ?_; (case hd => rfl); (case hg => rfl); (case hr => first | (go_simp; done) | (go_simp; rfl)); intro g4 hg4 w4 hbox4 hb4; have H4 := Aside0.mk hbox4; have B4 := Aside0.mk hb4; clear hg4 hbox4 hb4)
    | ((with_reducible refine gate_dst (N := 5) rfl ?_); refine box_event ?hg (N := 5) ?hd (cs := #[.func (.func fo) #[] caps]) (t := 75) ?hr ?_; (case hd => rfl); (case hg => rfl); (case hr => first | (go_simp; done) | (go_simp; rfl)); intro g5 hg5 w5 hbox5 hb5; have H5 := Aside0.mk hbox5; have B5 := Aside0.mk hb5; clear hg5 hbox5 hb5))
  go_step3
  go_wp2_with (first | ((with_reducible refine gate_dst (N := 7) rfl ?_); refine box_event ?hg (N := 7) ?hd (cs := #[.nilFunc]) (t := 75) ?hr ?_; (case hd => rfl); (case hg => rfl); (case hr => first | (go_simp; done) | (go_simp; rfl)); intro g7 hg7 w7 hbox7 hb7; have H7 := Aside0.mk hbox7; have B7 := Aside0.mk hb7; have G7 := Aside0.mk (Nat.le_of_eq hg7.symm); clear hg7 hbox7 hb7; have hcz7 : w7.cell? ⟨g7, 0, none⟩ = some .nilFunc := (blk_cell H7.out 0).trans rfl; have hfz7 := blk_frozen H7.out 0))
  have e5 : Below w.heap.size w w5 := below_step (below_step (below_step (Below.refl _ _) B3.out) B4.out) B5.out
  have e7 : Below w.heap.size w w7 := below_step e5 B7.out
  have G0 : w.heap.size ≤ g7 := Nat.le_trans e5.size G7.out
  have ENV : Aside0 (AlEnv w (w7.setCell ⟨g7, 0, none⟩ (.func (.func 79) #[] #[.pointer (some ⟨g4, 0, none⟩), .pointer (some ⟨g5, 0, none⟩)])) g0 g3 g7 N A0 c0 l m (.func (.func 79) #[] #[.pointer (some ⟨g4, 0, none⟩), .pointer (some ⟨g5, 0, none⟩)]) (fun i => branch_town_alone_1.f i l1 o)) := by
    have s45 : w4.heap.size ≤ w5.heap.size := B5.out.size
    have s35 : w3.heap.size ≤ w5.heap.size := Nat.le_trans B4.out.size s45
    have n3 : g3 ≠ g7 := Nat.ne_of_lt (Nat.lt_of_lt_of_le (blk_lt H3.out) (Nat.le_trans s35 G7.out))
    have n4 : g4 ≠ g7 := Nat.ne_of_lt (Nat.lt_of_lt_of_le (blk_lt H4.out) (Nat.le_trans s45 G7.out))
    have n5 : g5 ≠ g7 := Nat.ne_of_lt (Nat.lt_of_lt_of_le (blk_lt H5.out) G7.out)
    have n0 : g0 ≠ g7 := Nat.ne_of_lt (Nat.lt_of_lt_of_le (blk_lt HP0.out) G0)
    refine ⟨⟨below_set e7 G0, blk_far (blk_below (blk_below (blk_below H3.out B4.out) B5.out) B7.out) n3 _, blk_far (blk_below HP0.out e7) n0 _, Kd.C_below HR0.out (below_set e7 G0), hc0, blk_put H7.out 0 _ rfl, ?_⟩⟩
    exact IsFn_alone1 (blk_far (blk_below (blk_below H4.out B5.out) B7.out) n4 _) (Kd.C_below HR1.out (below_set e7 G0)) hc1 (blk_far (blk_below H5.out B7.out) n5 _) (HF.out.below (below_set e7 G0))
  clear e5 G0 G7
  clear e7 hcz7 hfz7
  refine (ENV.out.call k 0 (R 0) (HR.out 0 (by omega) (by omega))).mono ?_
  rintro e w8 ⟨rfl, henv⟩
  clear ENV B3 B4 B5 B7 H3 H4 H5 H7
  have HE := Aside0.mk henv
  clear henv
  have hx3 := blk_cell HE.out.hP 0
  replace hx3 := hx3.trans rfl
  have hx0 := blk_cell HE.out.hQ 0
  replace hx0 := hx0.trans rfl
  go_wp2
  go_step3
  go_wp2
  clear hx3 hx0
  go_loopg [22] n (fun kq v22 w' => ∃ (x : Int), v22 = .int .i64 x ∧ Aside0 (0 ≤ x ∧ x + kq = n) ∧ Aside0 (aloneB R n kq = aloneB R n n) ∧ Aside0 (AlEnv w w' g0 g3 g7 N A0 c0 l m (.func (.func 79) #[] #[.pointer (some ⟨g4, 0, none⟩), .pointer (some ⟨g5, 0, none⟩)]) (fun i => branch_town_alone_1.f i l1 o)))
  case atStart => exact ⟨0, rfl, ⟨by simp⟩, ⟨rfl⟩, HE⟩
  case round =>
    clear HE
    obtain ⟨x, rfl, HX, HA, HE⟩ := hrel
    cases gk with
    | zero =>
      have b0 : decide (x < N) = false := decide_eq_false (by have := HX.out; have := HN.out; omega)
      go_wp2
      rw [Exit.noGoto_ret]
      go_ret
      exact ⟨by rw [← HA.out]; rfl, HE.out.hb⟩
    | succ k1 =>
      have b0 : decide (x < N) = true := decide_eq_true (by have := HX.out; have := HN.out; omega)
      have p0 : 0 ≤ x := by have := HX.out; omega
      have p0b : decide (0 ≤ x) = true := decide_eq_true p0
      have p1 : x ≤ 6 := by have := HX.out; omega
      obtain ⟨jA, hjA⟩ : ∃ j_ : Int, (shr .i64 (R 0) x) = j_ := ⟨_, rfl⟩
      have hjA_ : ((R 0) / 2 ^ min (x).toNat 64) = jA := hjA
      have hjAz : x ≤ 64 → ((R 0) / 2 ^ (x).toNat) = jA := shr_small hjA
      have hjAw : ((R 0) / 2 ^ (x).toNat) = jA := hjAz (by omega)
      by_cases tA : Go.bits .and .i64 jA 1 = 1
      · have tA0 : ((Go.bits .and .i64 jA 1) == 1) = true := beq_iff_eq.mpr tA
        have tA1 : ((Go.bits .and .i64 jA 1) != 1) = false := bne_eq_false_iff_eq.mpr tA
        have HT := Aside0.mk tA
        clear tA
        go_wp2
        go_roundg k1
        case measure => omega
        case rel => exact ⟨x + 1, by first | rfl | (simp; done) | go_num, ⟨by have := HX.out; omega⟩, ⟨by rw [← HA.out]; exact (aloneB_skip R n k1 x (by have := HX.out; omega) (by unfold isAloneB hasB; rw [hjA, HT.out]; rfl)).symm⟩, HE⟩
      · have tA0 : ((Go.bits .and .i64 jA 1) == 1) = false := beq_eq_false_iff_ne.mpr tA
        have tA1 : ((Go.bits .and .i64 jA 1) != 1) = true := bne_iff_ne.mpr tA
        have HT := Aside0.mk tA
        clear tA
        have hx3 : _ = some (Value.pointer (some ⟨g0, 0, none⟩)) := blk_cell HE.out.hP 0
        have hx0 : _ = some (Value.int .i64 N) := blk_cell HE.out.hQ 0
        go_wp2
        clear hx3 hx0
        go_loopg [11, 34] n (fun kq v11 v34 w' => ∃ (y s : Int), v34 = .int .i64 y ∧ v11 = .int .i64 s ∧ Aside0 (0 ≤ y ∧ y + kq = n) ∧ Aside0 (s = gatherB R x y.toNat) ∧ Aside0 (AlEnv w w' g0 g3 g7 N A0 c0 l m (.func (.func 79) #[] #[.pointer (some ⟨g4, 0, none⟩), .pointer (some ⟨g5, 0, none⟩)]) (fun i => branch_town_alone_1.f i l1 o)))
        case atStart => exact ⟨0, 0, rfl, rfl, ⟨by simp⟩, ⟨rfl⟩, HE⟩
        case round =>
          clear HE
          obtain ⟨y, s, rfl, rfl, HY, HS, HE⟩ := hrel
          cases gk with
          | zero =>
            have c0b : decide (y < N) = false := decide_eq_false (by have := HY.out; have := HN.out; omega)
            have hx3 : _ = some (Value.pointer (some ⟨g0, 0, none⟩)) := blk_cell HE.out.hP 0
            have hx0 : _ = some (Value.int .i64 N) := blk_cell HE.out.hQ 0
            go_wp2
            clear hx3 hx0
            have HG : Aside0 (s = gatherB R x n) := ⟨by rw [HS.out]; congr 1; have := HY.out; omega⟩
            clear HS HY c0b
            go_loopg [53] n (fun kq v53 w' => ∃ (z : Int), v53 = .int .i64 z ∧ Aside0 (0 ≤ z ∧ z + kq = n) ∧ Aside0 (closedB R x s z.toNat = true) ∧ Aside0 (AlEnv w w' g0 g3 g7 N A0 c0 l m (.func (.func 79) #[] #[.pointer (some ⟨g4, 0, none⟩), .pointer (some ⟨g5, 0, none⟩)]) (fun i => branch_town_alone_1.f i l1 o)))
            case atStart => exact ⟨0, rfl, ⟨by simp⟩, ⟨rfl⟩, HE⟩
            case round =>
              clear HE
              obtain ⟨z, rfl, HZ, HC, HE⟩ := hrel
              cases gk with
              | zero =>
                have d0b : decide (z < N) = false := decide_eq_false (by have := HZ.out; have := HN.out; omega)
                go_wp2
                rw [Exit.noGoto_ret]
                go_ret
                have hz_ : z.toNat = n := by have := HZ.out; omega
                have hc_ := HC.out
                rw [hz_, HG.out] at hc_
                have hi_ : isAloneB R n x = true := by unfold isAloneB; rw [hc_]; simp [hasB, hjA, HT.out]
                exact ⟨by rw [← HA.out, aloneB_hit R n k1 x (by have := HX.out; omega) hi_, ← HG.out]; rfl, HE.out.hb⟩
              | succ k3 =>
                have d0b : decide (z < N) = true := decide_eq_true (by have := HZ.out; have := HN.out; omega)
                have q0 : 0 ≤ z := by have := HZ.out; omega
                have q0b : decide (0 ≤ z) = true := decide_eq_true q0
                have q1 : z ≤ 6 := by have := HZ.out; omega
                obtain ⟨jS, hjS⟩ : ∃ j_ : Int, (shr .i64 s z) = j_ := ⟨_, rfl⟩
                have hjS_ : (s / 2 ^ min (z).toNat 64) = jS := hjS
                have hjSz : z ≤ 64 → (s / 2 ^ (z).toNat) = jS := shr_small hjS
                have hjSw : (s / 2 ^ (z).toNat) = jS := hjSz (by omega)
                by_cases tS : Go.bits .and .i64 jS 1 = 1
                · have tS0 : ((Go.bits .and .i64 jS 1) == 1) = true := beq_iff_eq.mpr tS
                  have tS1 : ((Go.bits .and .i64 jS 1) != 1) = false := bne_eq_false_iff_eq.mpr tS
                  have HTS := Aside0.mk tS
                  clear tS
                  go_wp2_with fail
                  refine (HE.out.call k x (R x) (HR.out x (by omega) (by have := HX.out; omega))).mono ?_
                  rintro e w9 ⟨rfl, henv⟩
                  clear HE
                  have HE := Aside0.mk henv
                  clear henv
                  obtain ⟨jT, hjT⟩ : ∃ j_ : Int, (shr .i64 (R x) z) = j_ := ⟨_, rfl⟩
                  have hjT_ : ((R x) / 2 ^ min (z).toNat 64) = jT := hjT
                  have hjTz : z ≤ 64 → ((R x) / 2 ^ (z).toNat) = jT := shr_small hjT
                  have hjTw : ((R x) / 2 ^ (z).toNat) = jT := hjTz (by omega)
                  by_cases tT : Go.bits .and .i64 jT 1 = 0
                  · have tT0 : ((Go.bits .and .i64 jT 1) == 0) = true := beq_iff_eq.mpr tT
                    have tT1 : ((Go.bits .and .i64 jT 1) != 0) = false := bne_eq_false_iff_eq.mpr tT
                    have HTT := Aside0.mk tT
                    clear tT
                    go_wp2
                    go_roundg k1
                    case measure => omega
                    case rel => exact ⟨x + 1, by first | rfl | (simp; done) | go_num, ⟨by have := HX.out; omega⟩, ⟨by rw [← HA.out]; exact (aloneB_skip R n k1 x (by have := HX.out; omega) (by unfold isAloneB; rw [← HG.out, closedB_false R x s n z q0 (by have := HZ.out; omega) (by simp [hasB, hjS, HTS.out]) (by rw [hjT, HTT.out]; rfl)]; simp)).symm⟩, HE⟩
                  · have tT0 : ((Go.bits .and .i64 jT 1) == 0) = false := beq_eq_false_iff_ne.mpr tT
                    have tT1 : ((Go.bits .and .i64 jT 1) != 0) = true := bne_iff_ne.mpr tT
                    have HTT := Aside0.mk tT
                    clear tT
                    go_wp2
                    go_roundg k3
                    case measure => omega
                    case rel => exact ⟨z + 1, by first | rfl | (simp; done) | go_num, ⟨by have := HZ.out; omega⟩, ⟨by rw [closedB_succ R x s z q0, HC.out, hjT, tT0]; simp⟩, HE⟩
                · have tS0 : ((Go.bits .and .i64 jS 1) == 1) = false := beq_eq_false_iff_ne.mpr tS
                  have tS1 : ((Go.bits .and .i64 jS 1) != 1) = true := bne_iff_ne.mpr tS
                  have HTS := Aside0.mk tS
                  clear tS
                  go_wp2
                  go_roundg k3
                  case measure => omega
                  case rel => exact ⟨z + 1, by first | rfl | (simp; done) | go_num, ⟨by have := HZ.out; omega⟩, ⟨by rw [closedB_succ R x s z q0, HC.out]; simp [hasB, hjS, HTS.out]⟩, HE⟩
          | succ k2 =>
            have c0b : decide (y < N) = true := decide_eq_true (by have := HY.out; have := HN.out; omega)
            have q0 : 0 ≤ y := by have := HY.out; omega
            have q0b : decide (0 ≤ y) = true := decide_eq_true q0
            have q1 : y ≤ 6 := by have := HY.out; omega
            go_wp2_with fail
            refine (HE.out.call k y (R y) (HR.out y (by omega) (by have := HY.out; omega))).mono ?_
            rintro e w9 ⟨rfl, henv⟩
            clear HE
            have HE := Aside0.mk henv
            clear henv
            obtain ⟨jR, hjR⟩ : ∃ j_ : Int, (shr .i64 (R y) x) = j_ := ⟨_, rfl⟩
            have hjR_ : ((R y) / 2 ^ min (x).toNat 64) = jR := hjR
            have hjRz : x ≤ 64 → ((R y) / 2 ^ (x).toNat) = jR := shr_small hjR
            have hjRw : ((R y) / 2 ^ (x).toNat) = jR := hjRz (by omega)
            by_cases tR : Go.bits .and .i64 jR 1 = 1
            · have tR0 : ((Go.bits .and .i64 jR 1) == 1) = true := beq_iff_eq.mpr tR
              have tR1 : ((Go.bits .and .i64 jR 1) != 1) = false := bne_eq_false_iff_eq.mpr tR
              have HTR := Aside0.mk tR
              clear tR
              obtain ⟨jL, hjL⟩ : ∃ j_ : Int, (shl .i64 1 y) = j_ := ⟨_, rfl⟩
              have hjL_ : (IntKind.i64.wrap (1 * 2 ^ min (y).toNat 64)) = jL := hjL
              have hjLz : y ≤ 64 → (IntKind.i64.wrap (1 * 2 ^ (y).toNat)) = jL := shl_small hjL
              have hjLu : (IntKind.i64.wrap (2 ^ min (y).toNat 64)) = jL := by have h_ := hjL_; rw [Int.one_mul] at h_; exact h_
              have hjLv : y ≤ 64 → (IntKind.i64.wrap (2 ^ (y).toNat)) = jL := fun hle_ => by have h_ := hjLz hle_; rw [Int.one_mul] at h_; exact h_
              have hjLy : (wrap64 (1 * 2 ^ min (y).toNat 64)) = jL := (i64_w _).symm.trans hjL_
              have hjLw1 : (IntKind.i64.wrap (1 * 2 ^ (y).toNat)) = jL := hjLz (by omega)
              have hjLw2 : (IntKind.i64.wrap (2 ^ (y).toNat)) = jL := hjLv (by omega)
              have hjLw3 : (wrap64 (1 * 2 ^ (y).toNat)) = jL := (i64_w _).symm.trans (hjLz (by omega))
              have hjLw4 : (wrap64 (2 ^ (y).toNat)) = jL := (i64_w _).symm.trans (hjLv (by omega))
              have hjLx : y ≤ 64 → (wrap64 (1 * 2 ^ (y).toNat)) = jL := fun h_ => (i64_w _).symm.trans (hjLz h_)
              go_wp2
              go_roundg k2
              case measure => omega
              case rel => exact ⟨y + 1, _, by first | rfl | (simp; done) | go_num, rfl, ⟨by have := HY.out; omega⟩, ⟨by rw [gatherB_succ R x y q0, ← HS.out]; simp [hasB, hjR, HTR.out, hjL]⟩, HE⟩
            · have tR0 : ((Go.bits .and .i64 jR 1) == 1) = false := beq_eq_false_iff_ne.mpr tR
              have tR1 : ((Go.bits .and .i64 jR 1) != 1) = true := bne_iff_ne.mpr tR
              have HTR := Aside0.mk tR
              clear tR
              go_wp2
              go_roundg k2
              case measure => omega
              case rel => exact ⟨y + 1, s, by first | rfl | (simp; done) | go_num, rfl, ⟨by have := HY.out; omega⟩, ⟨by rw [gatherB_succ R x y q0, ← HS.out]; simp [hasB, hjR, HTR.out]⟩, HE⟩
theorem gatherB_congr {R S : Int → Int} {n : Nat} (h : ∀ d : Int, 0 ≤ d → d < n → R d = S d) (c : Int) : ∀ j, j ≤ n → gatherB R c j = gatherB S c j
  | 0, _ => rfl
  | j + 1, hj => by simp only [gatherB]; rw [gatherB_congr h c j (by omega), h j (by omega) (by omega)]
theorem closedB_congr {R S : Int → Int} {n : Nat} (h : ∀ d : Int, 0 ≤ d → d < n → R d = S d) (c s : Int) (h0 : 0 ≤ c) (h1 : c < n) : ∀ j, closedB R c s j = closedB S c s j
  | 0 => rfl
  | j + 1 => by simp only [closedB]; rw [closedB_congr h c s h0 h1 j, h c h0 h1]
theorem isAloneB_congr {R S : Int → Int} {n : Nat} (h : ∀ d : Int, 0 ≤ d → d < n → R d = S d) (c : Int) (h0 : 0 ≤ c) (h1 : c < n) : isAloneB R n c = isAloneB S n c := by
  unfold isAloneB; rw [gatherB_congr h c n (Nat.le_refl _), closedB_congr h c _ h0 h1, h 0 (by omega) (by omega)]
theorem aloneB_congr {R S : Int → Int} {n : Nat} (h : ∀ d : Int, 0 ≤ d → d < n → R d = S d) : ∀ j, j ≤ n → aloneB R n j = aloneB S n j
  | 0, _ => rfl
  | j + 1, hj => by simp only [aloneB]; rw [aloneB_congr h j (by omega), isAloneB_congr h _ (by omega) (by omega), gatherB_congr h _ n (Nat.le_refl _)]
def branch_town_alone.f (k : Nat) (a0_0 : Int) (l0_1 : List (S30)) (l1 : List Int) (a2 : Int → Option Bool) : Option Int :=
  if 1 ≤ a0_0 ∧ a0_0 ≤ 7 ∧ (∀ d ∈ List.range a0_0.toNat, (branch_town_alone_2.f k (d : Int) a0_0 l0_1 (fun i => branch_town_alone_1.f i l1 a2)).isSome = true) then
    some (aloneB (fun d => (branch_town_alone_2.f k d a0_0 l0_1 (fun i => branch_town_alone_1.f i l1 a2)).getD 0) a0_0.toNat a0_0.toNat) else none
theorem branch_town_alone.mono : ∀ a0 a1 a3 a4 k, LeO (branch_town_alone.f k a0 a1 a3 a4) (branch_town_alone.f (k + 1) a0 a1 a3 a4) := by
  intro a0 a1 a3 a4 k r h
  unfold branch_town_alone.f at h ⊢
  split at h
  case isFalse => exact absurd h (by simp)
  rename_i hc
  obtain ⟨h1, h2, h3⟩ := hc
  have hs : ∀ d ∈ List.range a0.toNat, ∃ r, branch_town_alone_2.f k (d : Int) a0 a1 (fun i => branch_town_alone_1.f i a3 a4) = some r ∧ branch_town_alone_2.f (k + 1) (d : Int) a0 a1 (fun i => branch_town_alone_1.f i a3 a4) = some r := by
    intro d hd
    obtain ⟨r, hr⟩ := Option.isSome_iff_exists.1 (h3 d hd)
    exact ⟨r, hr, branch_town_alone_2.mono _ _ _ _ k r hr⟩
  rw [if_pos ⟨h1, h2, fun d hd => by obtain ⟨r, _, h⟩ := hs d hd; rw [h]; rfl⟩, ← h]
  refine congrArg some (aloneB_congr (fun d h0 h1 => ?_) _ (Nat.le_refl _)).symm
  obtain ⟨r, e1, e2⟩ := hs d.toNat (List.mem_range.2 (by omega))
  rw [Int.toNat_of_nonneg h0] at e1 e2
  simp only [e1, e2]
theorem branch_town_alone.calls (k : Nat) (g0 : Nat) (a0_0 : Int) (A0_1 : Option Addr) (c0_1 : Nat) (l0_1 : List (S30)) (a0_2 : Option Nat) (A1 : Option Addr) (c1 : Nat) (l1 : List Int) (vf2 : Value) (a2 : Int → Option Bool) (r : Int) (w : World) (hP0 : w.heap[g0]? = some (.cells #[.int .i64 a0_0, .slice A0_1 l0_1.length c0_1, .map a0_2] 70 (0, 0))) (hr0_1 : Kd.C k30 w A0_1 l0_1.length l0_1) (hc0_1 : l0_1.length ≤ c0_1) (hr1 : Kd.C (Kd.int .i64) w A1 l1.length l1) (hc1 : l1.length ≤ c1) (hF2 : IsFn Try.prog w vf2 a2) (h : branch_town_alone.f k a0_0 l0_1 l1 a2 = some r) :
    Calls Try.prog 68 #[.pointer (some ⟨g0, 0, none⟩), .slice A1 l1.length c1, vf2] w fun e w' => e = .returned (.int .i64 r) ∧ Below w.heap.size w w' := by
  unfold branch_town_alone.f at h
  split at h
  case isFalse => exact absurd h (by simp)
  rename_i hc
  obtain ⟨h1, h2, h3⟩ := hc
  obtain rfl := Option.some.inj h
  refine alone_calls k g0 a0_0.toNat A0_1 c0_1 l0_1 a0_2 A1 c1 l1 vf2 a2 _ w a0_0 (by omega) (by omega) (by omega) hP0 hr0_1 hc0_1 hr1 hc1 hF2 (fun d e0 e1 => ?_)
  obtain ⟨r, hr⟩ := Option.isSome_iff_exists.1 (h3 d.toNat (List.mem_range.2 (by omega)))
  rw [Int.toNat_of_nonneg e0] at hr
  rw [hr]; rfl
end Go.Proofs.Ytpmadffgdfholaa.B
namespace Go.Proofs.Ytpmadffgdfholaa.B
open Go.RowKit Go.Proofs.YtpmadffgdfholaaW.PrintWords Go.Proofs.YtpmadffgdfholaaW.PrintLast Go.Proofs.YtpmadffgdfholaaW.PrintMore
attribute [local go_sem] max2_int min2_int max_two min_two max_three min_three max_four min_four   -- for this text's walks alone
set_option linter.unusedVariables false
set_option linter.unusedSimpArgs false
mutual
def branch_town_cheapest.l0 : Nat → (Int → Option Bool) → List Int → Int → List (S41) → Int → List (S30) → Option (Int × (List (S41)) × Bool)
  | 0, _, _, _, _, _, _ => none
  | k + 1, x2, x9, x10, x11, x1000, x1001 => (branch_town_alone.f k x1000 x1001 x9 x2).bind fun t104 => (if t104 = 0 then (some (x10, x11, true)) else ((branch_town_entering.f k x1000 x1001 t104).bind fun t105 => (branch_town_cheapest.l1 k x2 x9 x10 x11 t104 (-1) t105 (t105.length : Int) 0 x1000 x1001)))
def branch_town_cheapest.l1 : Nat → (Int → Option Bool) → List Int → Int → List (S41) → Int → Int → List Int → Int → Int → Int → List (S30) → Option (Int × (List (S41)) × Bool)
  | 0, _, _, _, _, _, _, _, _, _, _, _ => none
  | k + 1, x2, x9, x10, x11, x12, x13, x30, x31, x32, x1000, x1001 => if x32 < x31 then (if 0 ≤ x32 then (if x32 < (x30.length : Int) then ((x2 (rd x30 x32)).bind fun t109 => (if t109 = true then (branch_town_cheapest.l1 k x2 x9 x10 x11 x12 x13 x30 x31 (wrap64 (x32 + 1)) x1000 x1001) else (if x13 < 0 then (if 0 ≤ (rd x30 x32) then (if (rd x30 x32) < (x9.length : Int) then (branch_town_cheapest.l1 k x2 x9 x10 x11 x12 (rd x9 (rd x30 x32)) x30 x31 (wrap64 (x32 + 1)) x1000 x1001) else (none)) else (none)) else (if 0 ≤ (rd x30 x32) then (if (rd x30 x32) < (x9.length : Int) then (if (rd x9 (rd x30 x32)) < x13 then (branch_town_cheapest.l1 k x2 x9 x10 x11 x12 (rd x9 (rd x30 x32)) x30 x31 (wrap64 (x32 + 1)) x1000 x1001) else (branch_town_cheapest.l1 k x2 x9 x10 x11 x12 x13 x30 x31 (wrap64 (x32 + 1)) x1000 x1001)) else (none)) else (none))))) else (none)) else (none)) else (if x13 < 0 then (some (0, ([] : List (S41)), false)) else ((branch_town_entering.f k x1000 x1001 x12).bind fun t113 => (branch_town_cheapest.l2 k x2 x9 x10 x11 x12 x13 t113 (t113.length : Int) 0 x1000 x1001)))
def branch_town_cheapest.l2 : Nat → (Int → Option Bool) → List Int → Int → List (S41) → Int → Int → List Int → Int → Int → Int → List (S30) → Option (Int × (List (S41)) × Bool)
  | 0, _, _, _, _, _, _, _, _, _, _, _ => none
  | k + 1, x2, x9, x10, x11, x12, x13, x61, x62, x63, x1000, x1001 => if x63 < x62 then (if 0 ≤ x63 then (if x63 < (x61.length : Int) then (if 0 ≤ (rd x61 x63) then (if (rd x61 x63) < (x9.length : Int) then (branch_town_cheapest.l2 k x2 (x9.set ((rd x61 x63) : Int).toNat (wrap64 ((rd x9 (rd x61 x63)) - x13))) x10 x11 x12 x13 x61 x62 (wrap64 (x63 + 1)) x1000 x1001) else (none)) else (none)) else (none)) else (none)) else (if x13 > 0 then (if x11.length < 8796093022208 then (branch_town_cheapest.l0 k x2 x9 (wrap64 (x10 + x13)) (x11 ++ [(⟨x12, x13⟩ : S41)]) x1000 x1001) else (none)) else (branch_town_cheapest.l0 k x2 x9 x10 x11 x1000 x1001))
end
def branch_town_cheapest.f (k : Nat) (a0_0 : Int) (l0_1 : List (S30)) (l1 : List Int) (a2 : (Int → Option Bool)) : Option (Int × (List (S41)) × Bool) := (slices_Clone.f l1).bind fun t101 => (branch_town_cheapest.l0 k a2 t101 0 ([] : List (S41)) a0_0 l0_1)
theorem branch_town_cheapest.mono_l : ∀ k, (∀ y0 y1 y2 y3 y4 y5, LeO (branch_town_cheapest.l0 k y0 y1 y2 y3 y4 y5) (branch_town_cheapest.l0 (k + 1) y0 y1 y2 y3 y4 y5)) ∧ (∀ y0 y1 y2 y3 y4 y5 y6 y7 y8 y9 y10, LeO (branch_town_cheapest.l1 k y0 y1 y2 y3 y4 y5 y6 y7 y8 y9 y10) (branch_town_cheapest.l1 (k + 1) y0 y1 y2 y3 y4 y5 y6 y7 y8 y9 y10)) ∧ (∀ y0 y1 y2 y3 y4 y5 y6 y7 y8 y9 y10, LeO (branch_town_cheapest.l2 k y0 y1 y2 y3 y4 y5 y6 y7 y8 y9 y10) (branch_town_cheapest.l2 (k + 1) y0 y1 y2 y3 y4 y5 y6 y7 y8 y9 y10))
  | 0 => ⟨fun _ _ _ _ _ _ r h => by simp [branch_town_cheapest.l0] at h, fun _ _ _ _ _ _ _ _ _ _ _ r h => by simp [branch_town_cheapest.l1] at h, fun _ _ _ _ _ _ _ _ _ _ _ r h => by simp [branch_town_cheapest.l2] at h⟩
  | k + 1 => by
    obtain ⟨ih0, ih1, ih2⟩ := branch_town_cheapest.mono_l k
    refine ⟨?_, ?_, ?_⟩
    · intro y0 y1 y2 y3 y4 y5
      unfold branch_town_cheapest.l0
      repeat' first
      | (with_reducible exact ih0 _ _ _ _ _ _)
      | (with_reducible exact ih1 _ _ _ _ _ _ _ _ _ _ _)
      | (with_reducible exact ih2 _ _ _ _ _ _ _ _ _ _ _)
      | (with_reducible exact branch_town_alone.mono _ _ _ _ _)
      | (with_reducible exact branch_town_entering.mono _ _ _ _)
      | (with_reducible exact LeO.refl _)
      | (with_reducible exact LeO.none _)
      | (with_reducible refine LeO.ite ?_ ?_)
      | (with_reducible refine LeO.bind ?_ (fun _ => ?_))
      | exact ih0 _ _ _ _ _ _
      | exact ih1 _ _ _ _ _ _ _ _ _ _ _
      | exact ih2 _ _ _ _ _ _ _ _ _ _ _
      | exact branch_town_alone.mono _ _ _ _ _
      | exact branch_town_entering.mono _ _ _ _
      | exact LeO.none _
      | refine LeO.ite ?_ ?_
      | refine LeO.bind ?_ (fun _ => ?_)
    · intro y0 y1 y2 y3 y4 y5 y6 y7 y8 y9 y10
      unfold branch_town_cheapest.l1
      repeat' first
      | (with_reducible exact ih0 _ _ _ _ _ _)
      | (with_reducible exact ih1 _ _ _ _ _ _ _ _ _ _ _)
      | (with_reducible exact ih2 _ _ _ _ _ _ _ _ _ _ _)
      | (with_reducible exact branch_town_alone.mono _ _ _ _ _)
      | (with_reducible exact branch_town_entering.mono _ _ _ _)
      | (with_reducible exact LeO.refl _)
      | (with_reducible exact LeO.none _)
      | (with_reducible refine LeO.ite ?_ ?_)
      | (with_reducible refine LeO.bind ?_ (fun _ => ?_))
      | exact ih0 _ _ _ _ _ _
      | exact ih1 _ _ _ _ _ _ _ _ _ _ _
      | exact ih2 _ _ _ _ _ _ _ _ _ _ _
      | exact branch_town_alone.mono _ _ _ _ _
      | exact branch_town_entering.mono _ _ _ _
      | exact LeO.none _
      | refine LeO.ite ?_ ?_
      | refine LeO.bind ?_ (fun _ => ?_)
    · intro y0 y1 y2 y3 y4 y5 y6 y7 y8 y9 y10
      unfold branch_town_cheapest.l2
      repeat' first
      | (with_reducible exact ih0 _ _ _ _ _ _)
      | (with_reducible exact ih1 _ _ _ _ _ _ _ _ _ _ _)
      | (with_reducible exact ih2 _ _ _ _ _ _ _ _ _ _ _)
      | (with_reducible exact branch_town_alone.mono _ _ _ _ _)
      | (with_reducible exact branch_town_entering.mono _ _ _ _)
      | (with_reducible exact LeO.refl _)
      | (with_reducible exact LeO.none _)
      | (with_reducible refine LeO.ite ?_ ?_)
      | (with_reducible refine LeO.bind ?_ (fun _ => ?_))
      | exact ih0 _ _ _ _ _ _
      | exact ih1 _ _ _ _ _ _ _ _ _ _ _
      | exact ih2 _ _ _ _ _ _ _ _ _ _ _
      | exact branch_town_alone.mono _ _ _ _ _
      | exact branch_town_entering.mono _ _ _ _
      | exact LeO.none _
      | refine LeO.ite ?_ ?_
      | refine LeO.bind ?_ (fun _ => ?_)
theorem branch_town_cheapest.mono : ∀ a0 a1 a2 a3 k, LeO (branch_town_cheapest.f k a0 a1 a2 a3) (branch_town_cheapest.f (k + 1) a0 a1 a2 a3) := by
  intro a0 a1 a2 a3 k
  obtain ⟨ih0, ih1, ih2⟩ := branch_town_cheapest.mono_l k
  unfold branch_town_cheapest.f
  repeat' first
      | (with_reducible exact ih0 _ _ _ _ _ _)
      | (with_reducible exact ih1 _ _ _ _ _ _ _ _ _ _ _)
      | (with_reducible exact ih2 _ _ _ _ _ _ _ _ _ _ _)
      | (with_reducible exact branch_town_alone.mono _ _ _ _ _)
      | (with_reducible exact branch_town_entering.mono _ _ _ _)
      | (with_reducible exact LeO.refl _)
      | (with_reducible exact LeO.none _)
      | (with_reducible refine LeO.ite ?_ ?_)
      | (with_reducible refine LeO.bind ?_ (fun _ => ?_))
      | exact ih0 _ _ _ _ _ _
      | exact ih1 _ _ _ _ _ _ _ _ _ _ _
      | exact ih2 _ _ _ _ _ _ _ _ _ _ _
      | exact branch_town_alone.mono _ _ _ _ _
      | exact branch_town_entering.mono _ _ _ _
      | exact LeO.none _
      | refine LeO.ite ?_ ?_
      | refine LeO.bind ?_ (fun _ => ?_)
set_option maxHeartbeats 8000000 in
set_option maxRecDepth 100000 in
theorem branch_town_cheapest.calls (k : Nat) (g0 : Nat) (a0_0 : Int) (A0_1 : Option Addr) (c0_1 : Nat) (l0_1 : List (S30)) (a0_2 : Option Nat) (A1 : Option Addr) (c1 : Nat) (l1 : List Int) (vf2 : Value) (a2 : (Int → Option Bool)) (r1 : Int) (r2 : List (S41)) (r3 : Bool) (w : World) (hP0 : w.heap[g0]? = some (.cells #[.int .i64 a0_0, .slice A0_1 l0_1.length c0_1, .map a0_2] 70 (0, 0))) (hr0_1 : Kd.C k30 w A0_1 l0_1.length l0_1) (hc0_1 : l0_1.length ≤ c0_1) (hr1 : Kd.C (Kd.int .i64) w A1 l1.length l1) (hc1 : l1.length ≤ c1) (hF2 : IsFn Try.prog w vf2 a2) (h : branch_town_cheapest.f k a0_0 l0_1 l1 a2 = some (r1, r2, r3)) :
    Calls Try.prog 46 #[.pointer (some ⟨g0, 0, none⟩), .slice A1 l1.length c1, vf2] w fun e w' => ∃ v1_ : Value, e = .returned (.tuple #[.int .i64 r1, v1_, .bool r3]) ∧ Kd.R k41 41 w' w.heap.size (fun _ => True) v1_ r2 ∧ Below w.heap.size w w' := by
  have hu41 := Try.underlying41
  have HP0 := Aside0.mk hP0
  clear hP0
  have HR0_1 := Aside0.mk hr0_1
  have HC0_1 := Aside0.mk hc0_1
  clear hr0_1 hc0_1
  have HR1 := Aside0.mk hr1
  have HC1 := Aside0.mk hc1
  clear hr1 hc1
  have HF2 := Aside0.mk hF2
  clear hF2
  have HB := Aside0.mk (Below.refl w.heap.size w)
  have H : ((slices_Clone.f l1).bind fun t101 => (branch_town_cheapest.l0 k a2 t101 0 ([] : List (S41)) a0_0 l0_1)) = some (r1, r2, r3) := h
  clear h
  replace H := Option.bind_eq_some_iff.mp H
  obtain ⟨t101, A40, H⟩ := H
  replace H : (branch_town_cheapest.l0 k a2 t101 0 ([] : List (S41)) a0_0 l0_1) = some (r1, r2, r3) := H
  have A4 := Aside0.mk A40
  clear A40
  have H' := Aside0.mk H
  clear H
  go_enter Try.func46, Try.ntmps46
  go_wp2_with (first | ((with_reducible refine gate_callee (f := 67) rfl ?_); refine goesL_ (some 19) rfl rfl Try.func67 (by kernel_rfl) rfl #[.slice A1 l1.length c1] rfl (by (try simp only [List.map_toArray, List.map_cons, List.map_nil]); first | done | rfl | (simp only [List.length_drop, List.length_take]; rfl)) ?_; (with_reducible refine (slices_Clone.calls _ _ l1 t101 _ ?side1 ?side2 A4.out).mono ?_); (case side1 => repeat (first | exact HR1.out | (with_reducible refine Kd.C_alloc ?_ _) | (with_reducible refine Kd.C_drewN ?_ _) | (with_reducible refine Kd.C_drew ?_))); (case side2 => exact HC1.out); rintro e w5 ⟨v102, rfl, ho0, hb⟩; refine ⟨_, rfl, ?_⟩; have n0_ := Aside0.mk (Kd.R_lower ho0 (below_size (by repeat (first | (with_reducible first | exact HB.out | apply below_alloc | apply pw_below_drewN | apply below_drew1) | exact HB.out)))); have n1_ := Aside0.mk (below_step (by repeat (first | (with_reducible first | exact HB.out | apply below_alloc | apply pw_below_drewN | apply below_drew1) | exact HB.out)) hb); clear HB; have HO103 := n0_; have HB := n1_; clear n0_ n1_; (try clear hb); (try clear hb2); (try clear hk); (try clear hi); (try clear ho0)))
  go_loopg [10, 11] k (fun kq v10 v11 w' => ∃ (x9_1 : List Int) (x10_1 : Int) (x11_1 : List (S41)), v10 = .int .i64 x10_1 ∧ Aside0 (branch_town_cheapest.l0 kq a2 x9_1 x10_1 x11_1 a0_0 l0_1 = some (r1, r2, r3)) ∧ Aside0 (kq ≤ k) ∧ Aside0 (Kd.R (Kd.int .i64) 3 w' w.heap.size (fun _ => True) v102 x9_1) ∧ Aside0 (Kd.R k41 41 w' w.heap.size (fun _ => True) v11 x11_1) ∧ Aside0 (Below w.heap.size w w'))
  case atStart => exact ⟨(t101), (0), (([] : List (S41))), (by first | rfl | (simp; done) | (simp [*]; done)), H', ⟨Nat.le_refl _⟩, ⟨by (with_reducible repeat (first | apply Kd.R_alloc | apply Kd.R_drewN | apply Kd.R_drew)); exact HO103.out⟩, ⟨by first | exact Kd.R_nil _ _ _ _ _ | exact Kd.N_nil _ _ _ _ _ | exact Kd.V_nil _ _ _ _ _ | exact Kd.Q_nil _ _ _ _ _ | exact Kd.S_nil _ _ _ _ _⟩, ⟨by repeat (first | (with_reducible first | exact HB.out | apply below_alloc | apply pw_below_drewN | apply below_drew1) | exact HB.out)⟩⟩
  case round =>
    clear H'
    try clear c1
    try clear p2
    try clear c4
    obtain ⟨x9_1, x10_1, x11_1, rfl, HA, HK1, HO_9, HO_11, HB⟩ := hrel
    cases gk with
    | zero => exact absurd HA.out (by simp [branch_town_cheapest.l0])
    | succ k1 =>
      have H := HA.out
      clear HA
      simp only [branch_town_cheapest.l0] at H
      replace H := Option.bind_eq_some_iff.mp H
      obtain ⟨t104, A60, H⟩ := H
      replace H : (if t104 = 0 then (some (x10_1, x11_1, true)) else ((branch_town_entering.f k1 a0_0 l0_1 t104).bind fun t105 => (branch_town_cheapest.l1 k1 a2 x9_1 x10_1 x11_1 t104 (-1) t105 (t105.length : Int) 0 a0_0 l0_1))) = some (r1, r2, r3) := H
      have A6 := Aside0.mk A60
      clear A60
      by_cases c7 : t104 = 0
      · rw [if_pos c7] at H
        have c7b0 : (t104 == 0) = true := beq_iff_eq.mpr c7
        have c7b1 : (t104 != 0) = false := bne_eq_false_iff_eq.mpr c7
        clear c7
        simp only [Option.some.injEq, Prod.mk.injEq] at H
        obtain ⟨rfl, rfl, rfl⟩ := H
        obtain ⟨Ao8, co8, eo8⟩ := Kd.R_slice HO_9.out
        subst eo8
        go_wp2_with (first | ((with_reducible refine gate_callee (f := 68) rfl ?_); refine goesL_ (some 23) rfl rfl Try.func68 (by kernel_rfl) rfl #[.pointer (some ⟨g0, 0, none⟩), .slice Ao8 x9_1.length co8, vf2] rfl (by (try simp only [List.map_toArray, List.map_cons, List.map_nil]); first | done | rfl | (simp only [List.length_drop, List.length_take]; rfl)) ?_; (with_reducible refine (branch_town_alone.calls k1 g0 a0_0 A0_1 c0_1 l0_1 a0_2 _ _ x9_1 vf2 a2 t104 _ ?side1 ?side2 ?side3 ?side4 ?side5 ?side6 A6.out).mono ?_); (case side1 => exact ((show Below _ _ _ from by repeat (first | (with_reducible first | exact HB.out | apply below_alloc | apply pw_below_drewN | apply below_drew1) | exact HB.out)).block _ (blk_lt HP0.out)).trans HP0.out); (case side2 => repeat (first | exact (Kd.C_below HR0_1.out HB.out) | (with_reducible refine Kd.C_alloc ?_ _) | (with_reducible refine Kd.C_drewN ?_ _) | (with_reducible refine Kd.C_drew ?_))); (case side3 => exact HC0_1.out); (case side4 => repeat (first | exact (Kd.R_reads' HO_9.out).2.2 | (with_reducible refine Kd.C_alloc ?_ _) | (with_reducible refine Kd.C_drewN ?_ _) | (with_reducible refine Kd.C_drew ?_))); (case side5 => exact (Kd.R_reads' HO_9.out).2.1); (case side6 => exact IsFn.below HF2.out (by repeat (first | (with_reducible first | exact HB.out | apply below_alloc | apply pw_below_drewN | apply below_drew1) | exact HB.out))); rintro e w9 ⟨rfl, hb⟩; refine ⟨_, rfl, ?_⟩; have n0_ := Aside0.mk (Kd.R_below (by (with_reducible repeat (first | apply Kd.R_alloc | apply Kd.R_drewN | apply Kd.R_drew)); exact HO_9.out) hb); have n1_ := Aside0.mk (Kd.R_below (by (with_reducible repeat (first | apply Kd.R_alloc | apply Kd.R_drewN | apply Kd.R_drew)); exact HO_11.out) hb); have n2_ := Aside0.mk (below_step (by repeat (first | (with_reducible first | exact HB.out | apply below_alloc | apply pw_below_drewN | apply below_drew1) | exact HB.out)) hb); clear HO_9; clear HO_11; clear HB; have HO_9 := n0_; have HO_11 := n1_; have HB := n2_; clear n0_ n1_ n2_; (try clear hb); (try clear hb2); (try clear hk); (try clear hi)))
        go_ret3
        exact ⟨_, by first | rfl | (simp [errW_none, errW_some] <;> rfl) | (simp [*, errW_none, errW_some] <;> rfl), by (with_reducible repeat (first | apply Kd.R_alloc | apply Kd.R_drewN | apply Kd.R_drew)); exact HO_11.out, by repeat (first | (with_reducible first | exact HB.out | apply below_alloc | apply pw_below_drewN | apply below_drew1) | exact HB.out)⟩
      · rw [if_neg c7] at H
        have c7b0 : (t104 == 0) = false := beq_eq_false_iff_ne.mpr c7
        have c7b1 : (t104 != 0) = true := bne_iff_ne.mpr c7
        replace H := Option.bind_eq_some_iff.mp H
        obtain ⟨t105, A100, H⟩ := H
        replace H : (branch_town_cheapest.l1 k1 a2 x9_1 x10_1 x11_1 t104 (-1) t105 (t105.length : Int) 0 a0_0 l0_1) = some (r1, r2, r3) := H
        have A10 := Aside0.mk A100
        clear A100
        have H' := Aside0.mk H
        clear H
        obtain ⟨Ao11, co11, eo11⟩ := Kd.R_slice HO_9.out
        subst eo11
        go_wp2_with (first | ((with_reducible refine gate_callee (f := 68) rfl ?_); refine goesL_ (some 23) rfl rfl Try.func68 (by kernel_rfl) rfl #[.pointer (some ⟨g0, 0, none⟩), .slice Ao11 x9_1.length co11, vf2] rfl (by (try simp only [List.map_toArray, List.map_cons, List.map_nil]); first | done | rfl | (simp only [List.length_drop, List.length_take]; rfl)) ?_; (with_reducible refine (branch_town_alone.calls k1 g0 a0_0 A0_1 c0_1 l0_1 a0_2 _ _ x9_1 vf2 a2 t104 _ ?side1 ?side2 ?side3 ?side4 ?side5 ?side6 A6.out).mono ?_); (case side1 => exact ((show Below _ _ _ from by repeat (first | (with_reducible first | exact HB.out | apply below_alloc | apply pw_below_drewN | apply below_drew1) | exact HB.out)).block _ (blk_lt HP0.out)).trans HP0.out); (case side2 => repeat (first | exact (Kd.C_below HR0_1.out HB.out) | (with_reducible refine Kd.C_alloc ?_ _) | (with_reducible refine Kd.C_drewN ?_ _) | (with_reducible refine Kd.C_drew ?_))); (case side3 => exact HC0_1.out); (case side4 => repeat (first | exact (Kd.R_reads' HO_9.out).2.2 | (with_reducible refine Kd.C_alloc ?_ _) | (with_reducible refine Kd.C_drewN ?_ _) | (with_reducible refine Kd.C_drew ?_))); (case side5 => exact (Kd.R_reads' HO_9.out).2.1); (case side6 => exact IsFn.below HF2.out (by repeat (first | (with_reducible first | exact HB.out | apply below_alloc | apply pw_below_drewN | apply below_drew1) | exact HB.out))); rintro e w12 ⟨rfl, hb⟩; refine ⟨_, rfl, ?_⟩; have n0_ := Aside0.mk (Kd.R_below (by (with_reducible repeat (first | apply Kd.R_alloc | apply Kd.R_drewN | apply Kd.R_drew)); exact HO_9.out) hb); have n1_ := Aside0.mk (Kd.R_below (by (with_reducible repeat (first | apply Kd.R_alloc | apply Kd.R_drewN | apply Kd.R_drew)); exact HO_11.out) hb); have n2_ := Aside0.mk (below_step (by repeat (first | (with_reducible first | exact HB.out | apply below_alloc | apply pw_below_drewN | apply below_drew1) | exact HB.out)) hb); clear HO_9; clear HO_11; clear HB; have HO_9 := n0_; have HO_11 := n1_; have HB := n2_; clear n0_ n1_ n2_; (try clear hb); (try clear hb2); (try clear hk); (try clear hi)) | ((with_reducible refine gate_callee (f := 59) rfl ?_); refine goesL_ (some 30) rfl rfl Try.func59 (by kernel_rfl) rfl #[.pointer (some ⟨g0, 0, none⟩), .int .i64 t104] rfl (by (try simp only [List.map_toArray, List.map_cons, List.map_nil]); first | done | rfl | (simp only [List.length_drop, List.length_take]; rfl)) ?_; (with_reducible refine (branch_town_entering.calls k1 g0 a0_0 A0_1 c0_1 l0_1 a0_2 t104 t105 _ ?side1 ?side2 ?side3 A10.out).mono ?_); (case side1 => exact ((show Below _ _ _ from by repeat (first | (with_reducible first | exact HB.out | apply below_alloc | apply pw_below_drewN | apply below_drew1) | exact HB.out)).block _ (blk_lt HP0.out)).trans HP0.out); (case side2 => repeat (first | exact (Kd.C_below HR0_1.out HB.out) | (with_reducible refine Kd.C_alloc ?_ _) | (with_reducible refine Kd.C_drewN ?_ _) | (with_reducible refine Kd.C_drew ?_))); (case side3 => exact HC0_1.out); rintro e w13 ⟨v106, rfl, ho0, hb⟩; refine ⟨_, rfl, ?_⟩; have n0_ := Aside0.mk (Kd.R_elder' (by (with_reducible repeat (first | apply Kd.R_alloc | apply Kd.R_drewN | apply Kd.R_drew)); exact HO_9.out) (Kd.R_base ho0) hb); have n1_ := Aside0.mk (Kd.R_below (by (with_reducible repeat (first | apply Kd.R_alloc | apply Kd.R_drewN | apply Kd.R_drew)); exact HO_11.out) hb); have n2_ := Aside0.mk (Kd.R_lower (Kd.R_new' ho0 (Kd.R_lt (by (with_reducible repeat (first | apply Kd.R_alloc | apply Kd.R_drewN | apply Kd.R_drew)); exact HO_9.out))) (below_size (by repeat (first | (with_reducible first | exact HB.out | apply below_alloc | apply pw_below_drewN | apply below_drew1) | exact HB.out)))); have n3_ := Aside0.mk (below_step (by repeat (first | (with_reducible first | exact HB.out | apply below_alloc | apply pw_below_drewN | apply below_drew1) | exact HB.out)) hb); clear HO_9; clear HO_11; clear HB; have HO_9 := n0_; have HO_11 := n1_; have HO107 := n2_; have HB := n3_; clear n0_ n1_ n2_ n3_; (try clear hb); (try clear hb2); (try clear hk); (try clear hi); (try clear ho0); obtain ⟨Ao14, co14, eo14⟩ := Kd.R_slice HO107.out; subst eo14))
        go_loopg [13, 32] k1 (fun kq v13 v32 w' => ∃ (x13_2 : Int) (x32_2 : Int), v13 = .int .i64 x13_2 ∧ v32 = .int .i64 x32_2 ∧ Aside0 (branch_town_cheapest.l1 kq a2 x9_1 x10_1 x11_1 t104 x13_2 t105 (t105.length : Int) x32_2 a0_0 l0_1 = some (r1, r2, r3)) ∧ Aside0 (kq ≤ k1) ∧ Aside0 (Kd.R (Kd.int .i64) 3 w' w.heap.size (fun k_ => some k_ ≠ ((.slice Ao14 t105.length co14) : Value).ownBlock) (.slice Ao11 x9_1.length co11) x9_1) ∧ Aside0 (Kd.R k41 41 w' w.heap.size (fun _ => True) u11 x11_1) ∧ Aside0 (Kd.R (Kd.int .i64) 3 w' w.heap.size (fun k_ => some k_ ≠ ((.slice Ao11 x9_1.length co11) : Value).ownBlock) (.slice Ao14 t105.length co14) t105) ∧ Aside0 (Below w.heap.size w w'))
        case atStart => exact ⟨((-1)), (0), (by first | rfl | (simp; done) | (simp [*]; done)), (by first | rfl | (simp; done) | (simp [*]; done)), H', ⟨Nat.le_refl _⟩, ⟨by (with_reducible repeat (first | apply Kd.R_alloc | apply Kd.R_drewN | apply Kd.R_drew)); exact Kd.R_mono HO_9.out (fun _ hk => hk.2)⟩, ⟨by (with_reducible repeat (first | apply Kd.R_alloc | apply Kd.R_drewN | apply Kd.R_drew)); exact HO_11.out⟩, ⟨by (with_reducible repeat (first | apply Kd.R_alloc | apply Kd.R_drewN | apply Kd.R_drew)); exact Kd.R_mono HO107.out (fun _ hk => hk.2)⟩, ⟨by repeat (first | (with_reducible first | exact HB.out | apply below_alloc | apply pw_below_drewN | apply below_drew1) | exact HB.out)⟩⟩
        case round =>
          clear H'
          try clear c1
          try clear p2
          try clear c4
          try clear c5
          try clear c6
          try clear c7
          try clear c7b0
          try clear c7b1
          try clear p2
          obtain ⟨x13_2, x32_2, rfl, rfl, HA, HK2, HO_9, HO_11, HO_30, HB⟩ := hrel
          cases gk with
          | zero => exact absurd HA.out (by simp [branch_town_cheapest.l1])
          | succ k2 =>
            have H := HA.out
            clear HA
            simp only [branch_town_cheapest.l1] at H
            by_cases c15 : x32_2 < (t105.length : Int)
            · rw [if_pos c15] at H
              have c15b0 : decide (x32_2 < (t105.length : Int)) = true := decide_eq_true c15
              clear c15
              by_cases c16 : 0 ≤ x32_2
              · rw [if_pos c16] at H
                have c16b0 : decide (0 ≤ x32_2) = true := decide_eq_true c16
                clear c16
                by_cases c17 : x32_2 < (t105.length : Int)
                · rw [if_pos c17] at H
                  have c17b0 : decide (x32_2 < (t105.length : Int)) = true := decide_eq_true c17
                  clear c17
                  replace H := Option.bind_eq_some_iff.mp H
                  obtain ⟨t109, A180, H⟩ := H
                  replace H : (if t109 = true then (branch_town_cheapest.l1 k2 a2 x9_1 x10_1 x11_1 t104 x13_2 t105 (t105.length : Int) (wrap64 (x32_2 + 1)) a0_0 l0_1) else (if x13_2 < 0 then (if 0 ≤ (rd t105 x32_2) then (if (rd t105 x32_2) < (x9_1.length : Int) then (branch_town_cheapest.l1 k2 a2 x9_1 x10_1 x11_1 t104 (rd x9_1 (rd t105 x32_2)) t105 (t105.length : Int) (wrap64 (x32_2 + 1)) a0_0 l0_1) else (none)) else (none)) else (if 0 ≤ (rd t105 x32_2) then (if (rd t105 x32_2) < (x9_1.length : Int) then (if (rd x9_1 (rd t105 x32_2)) < x13_2 then (branch_town_cheapest.l1 k2 a2 x9_1 x10_1 x11_1 t104 (rd x9_1 (rd t105 x32_2)) t105 (t105.length : Int) (wrap64 (x32_2 + 1)) a0_0 l0_1) else (branch_town_cheapest.l1 k2 a2 x9_1 x10_1 x11_1 t104 x13_2 t105 (t105.length : Int) (wrap64 (x32_2 + 1)) a0_0 l0_1)) else (none)) else (none)))) = some (r1, r2, r3) := H
                  have A18 := Aside0.mk A180
                  clear A180
                  by_cases c19 : t109 = true
                  · subst c19
                    have H1 : (branch_town_cheapest.l1 k2 a2 x9_1 x10_1 x11_1 t104 x13_2 t105 (t105.length : Int) (wrap64 (x32_2 + 1)) a0_0 l0_1) = some (r1, r2, r3) := by rw [if_pos rfl] at H; exact H
                    clear H
                    have H := H1
                    clear H1
                    have H' := Aside0.mk H
                    clear H
                    have p108 : 0 ≤ (x32_2 : Int) := of_decide_eq_true (by first | (with_reducible assumption) | assumption)
                    have q108 : x32_2 < (t105.length : Int) := of_decide_eq_true (by first | (with_reducible assumption) | assumption)
                    obtain ⟨ad108, e108, hx108_0⟩ := Kd.at_int (Kd.R_reads' HO_30.out).2.2 x32_2 p108 q108
                    cases e108
                    replace p108 := eq_true p108
                    replace q108 := eq_true q108
                    go_wp2_with (first | ((with_reducible refine gate_dst (N := 38) rfl ?_); refine goesF_ (some 38) rfl rfl HF2.out rfl rfl (i := (rd t105 x32_2)) rfl ?sideB A18.out ?_; (case sideB => exact by repeat (first | (with_reducible first | exact HB.out | apply below_alloc | apply pw_below_drewN | apply below_drew1) | exact HB.out)); intro w20 hb; have n0_ := Aside0.mk (Kd.R_below (by (with_reducible repeat (first | apply Kd.R_alloc | apply Kd.R_drewN | apply Kd.R_drew)); exact HO_9.out) hb); have n1_ := Aside0.mk (Kd.R_below (by (with_reducible repeat (first | apply Kd.R_alloc | apply Kd.R_drewN | apply Kd.R_drew)); exact HO_11.out) hb); have n2_ := Aside0.mk (Kd.R_below (by (with_reducible repeat (first | apply Kd.R_alloc | apply Kd.R_drewN | apply Kd.R_drew)); exact HO_30.out) hb); have n3_ := Aside0.mk (below_step (by repeat (first | (with_reducible first | exact HB.out | apply below_alloc | apply pw_below_drewN | apply below_drew1) | exact HB.out)) hb); clear HO_9; clear HO_11; clear HO_30; clear HB; have HO_9 := n0_; have HO_11 := n1_; have HO_30 := n2_; have HB := n3_; clear n0_ n1_ n2_ n3_; (try clear hb); (try clear hb2); (try clear hk); (try clear hi)))
                    go_roundg k2
                    case measure => have := HK1.out; have := HK2.out; omega
                    case rel => exact ⟨(x13_2), (wrap64 (x32_2 + 1)), (by first | rfl | (simp; done) | (simp [*]; done)), (by first | rfl | (simp; done) | (simp [*]; done)), H', ⟨by have := HK1.out; have := HK2.out; omega⟩, ⟨by (with_reducible repeat (first | apply Kd.R_alloc | apply Kd.R_drewN | apply Kd.R_drew)); exact HO_9.out⟩, ⟨by (with_reducible repeat (first | apply Kd.R_alloc | apply Kd.R_drewN | apply Kd.R_drew)); exact HO_11.out⟩, ⟨by (with_reducible repeat (first | apply Kd.R_alloc | apply Kd.R_drewN | apply Kd.R_drew)); exact HO_30.out⟩, ⟨by repeat (first | (with_reducible first | exact HB.out | apply below_alloc | apply pw_below_drewN | apply below_drew1) | exact HB.out)⟩⟩
                  · replace c19 := Bool.eq_false_iff.mpr c19
                    subst c19
                    have H1 : (if x13_2 < 0 then (if 0 ≤ (rd t105 x32_2) then (if (rd t105 x32_2) < (x9_1.length : Int) then (branch_town_cheapest.l1 k2 a2 x9_1 x10_1 x11_1 t104 (rd x9_1 (rd t105 x32_2)) t105 (t105.length : Int) (wrap64 (x32_2 + 1)) a0_0 l0_1) else (none)) else (none)) else (if 0 ≤ (rd t105 x32_2) then (if (rd t105 x32_2) < (x9_1.length : Int) then (if (rd x9_1 (rd t105 x32_2)) < x13_2 then (branch_town_cheapest.l1 k2 a2 x9_1 x10_1 x11_1 t104 (rd x9_1 (rd t105 x32_2)) t105 (t105.length : Int) (wrap64 (x32_2 + 1)) a0_0 l0_1) else (branch_town_cheapest.l1 k2 a2 x9_1 x10_1 x11_1 t104 x13_2 t105 (t105.length : Int) (wrap64 (x32_2 + 1)) a0_0 l0_1)) else (none)) else (none))) = some (r1, r2, r3) := by rw [if_neg (show ¬ (false = true) by decide)] at H; exact H
                    clear H
                    have H := H1
                    clear H1
                    by_cases c21 : x13_2 < 0
                    · rw [if_pos c21] at H
                      have c21b0 : decide (x13_2 < 0) = true := decide_eq_true c21
                      clear c21
                      by_cases c22 : 0 ≤ (rd t105 x32_2)
                      · rw [if_pos c22] at H
                        have c22b0 : decide (0 ≤ (rd t105 x32_2)) = true := decide_eq_true c22
                        clear c22
                        by_cases c23 : (rd t105 x32_2) < (x9_1.length : Int)
                        · rw [if_pos c23] at H
                          have c23b0 : decide ((rd t105 x32_2) < (x9_1.length : Int)) = true := decide_eq_true c23
                          clear c23
                          have H' := Aside0.mk H
                          clear H
                          have p108 : 0 ≤ (x32_2 : Int) := of_decide_eq_true (by first | (with_reducible assumption) | assumption)
                          have q108 : x32_2 < (t105.length : Int) := of_decide_eq_true (by first | (with_reducible assumption) | assumption)
                          obtain ⟨ad108, e108, hx108_0⟩ := Kd.at_int (Kd.R_reads' HO_30.out).2.2 x32_2 p108 q108
                          cases e108
                          replace p108 := eq_true p108
                          replace q108 := eq_true q108
                          go_wp2_with (first | ((with_reducible refine gate_dst (N := 38) rfl ?_); refine goesF_ (some 38) rfl rfl HF2.out rfl rfl (i := (rd t105 x32_2)) rfl ?sideB A18.out ?_; (case sideB => exact by repeat (first | (with_reducible first | exact HB.out | apply below_alloc | apply pw_below_drewN | apply below_drew1) | exact HB.out)); intro w24 hb; have n0_ := Aside0.mk (Kd.R_below (by (with_reducible repeat (first | apply Kd.R_alloc | apply Kd.R_drewN | apply Kd.R_drew)); exact HO_9.out) hb); have n1_ := Aside0.mk (Kd.R_below (by (with_reducible repeat (first | apply Kd.R_alloc | apply Kd.R_drewN | apply Kd.R_drew)); exact HO_11.out) hb); have n2_ := Aside0.mk (Kd.R_below (by (with_reducible repeat (first | apply Kd.R_alloc | apply Kd.R_drewN | apply Kd.R_drew)); exact HO_30.out) hb); have n3_ := Aside0.mk (below_step (by repeat (first | (with_reducible first | exact HB.out | apply below_alloc | apply pw_below_drewN | apply below_drew1) | exact HB.out)) hb); clear HO_9; clear HO_11; clear HO_30; clear HB; have HO_9 := n0_; have HO_11 := n1_; have HO_30 := n2_; have HB := n3_; clear n0_ n1_ n2_ n3_; (try clear hb); (try clear hb2); (try clear hk); (try clear hi); have p110 : 0 ≤ ((rd t105 x32_2) : Int) := of_decide_eq_true (by first | (with_reducible assumption) | assumption); have q110 : (rd t105 x32_2) < (x9_1.length : Int) := of_decide_eq_true (by first | (with_reducible assumption) | assumption); obtain ⟨ad110, e110, hx110_0⟩ := Kd.at_int (Kd.R_reads' HO_9.out).2.2 (rd t105 x32_2) p110 q110; cases e110; replace p110 := eq_true p110; replace q110 := eq_true q110))
                          go_roundg k2
                          case measure => have := HK1.out; have := HK2.out; omega
                          case rel => exact ⟨(rd x9_1 (rd t105 x32_2)), (wrap64 (x32_2 + 1)), (by first | rfl | (simp; done) | (simp [*]; done)), (by first | rfl | (simp; done) | (simp [*]; done)), H', ⟨by have := HK1.out; have := HK2.out; omega⟩, ⟨by (with_reducible repeat (first | apply Kd.R_alloc | apply Kd.R_drewN | apply Kd.R_drew)); exact HO_9.out⟩, ⟨by (with_reducible repeat (first | apply Kd.R_alloc | apply Kd.R_drewN | apply Kd.R_drew)); exact HO_11.out⟩, ⟨by (with_reducible repeat (first | apply Kd.R_alloc | apply Kd.R_drewN | apply Kd.R_drew)); exact HO_30.out⟩, ⟨by repeat (first | (with_reducible first | exact HB.out | apply below_alloc | apply pw_below_drewN | apply below_drew1) | exact HB.out)⟩⟩
                        · rw [if_neg c23] at H
                          exact absurd H (by simp)
                      · rw [if_neg c22] at H
                        exact absurd H (by simp)
                    · rw [if_neg c21] at H
                      have c21b0 : decide (x13_2 < 0) = false := decide_eq_false c21
                      clear c21
                      by_cases c25 : 0 ≤ (rd t105 x32_2)
                      · rw [if_pos c25] at H
                        have c25b0 : decide (0 ≤ (rd t105 x32_2)) = true := decide_eq_true c25
                        clear c25
                        by_cases c26 : (rd t105 x32_2) < (x9_1.length : Int)
                        · rw [if_pos c26] at H
                          have c26b0 : decide ((rd t105 x32_2) < (x9_1.length : Int)) = true := decide_eq_true c26
                          clear c26
                          by_cases c27 : (rd x9_1 (rd t105 x32_2)) < x13_2
                          · rw [if_pos c27] at H
                            have c27b0 : decide ((rd x9_1 (rd t105 x32_2)) < x13_2) = true := decide_eq_true c27
                            clear c27
                            have H' := Aside0.mk H
                            clear H
                            have p108 : 0 ≤ (x32_2 : Int) := of_decide_eq_true (by first | (with_reducible assumption) | assumption)
                            have q108 : x32_2 < (t105.length : Int) := of_decide_eq_true (by first | (with_reducible assumption) | assumption)
                            obtain ⟨ad108, e108, hx108_0⟩ := Kd.at_int (Kd.R_reads' HO_30.out).2.2 x32_2 p108 q108
                            cases e108
                            replace p108 := eq_true p108
                            replace q108 := eq_true q108
                            go_wp2_with (first | ((with_reducible refine gate_dst (N := 38) rfl ?_); refine goesF_ (some 38) rfl rfl HF2.out rfl rfl (i := (rd t105 x32_2)) rfl ?sideB A18.out ?_; (case sideB => exact by repeat (first | (with_reducible first | exact HB.out | apply below_alloc | apply pw_below_drewN | apply below_drew1) | exact HB.out)); intro w28 hb; have n0_ := Aside0.mk (Kd.R_below (by (with_reducible repeat (first | apply Kd.R_alloc | apply Kd.R_drewN | apply Kd.R_drew)); exact HO_9.out) hb); have n1_ := Aside0.mk (Kd.R_below (by (with_reducible repeat (first | apply Kd.R_alloc | apply Kd.R_drewN | apply Kd.R_drew)); exact HO_11.out) hb); have n2_ := Aside0.mk (Kd.R_below (by (with_reducible repeat (first | apply Kd.R_alloc | apply Kd.R_drewN | apply Kd.R_drew)); exact HO_30.out) hb); have n3_ := Aside0.mk (below_step (by repeat (first | (with_reducible first | exact HB.out | apply below_alloc | apply pw_below_drewN | apply below_drew1) | exact HB.out)) hb); clear HO_9; clear HO_11; clear HO_30; clear HB; have HO_9 := n0_; have HO_11 := n1_; have HO_30 := n2_; have HB := n3_; clear n0_ n1_ n2_ n3_; (try clear hb); (try clear hb2); (try clear hk); (try clear hi); have p111 : 0 ≤ ((rd t105 x32_2) : Int) := of_decide_eq_true (by first | (with_reducible assumption) | assumption); have q111 : (rd t105 x32_2) < (x9_1.length : Int) := of_decide_eq_true (by first | (with_reducible assumption) | assumption); obtain ⟨ad111, e111, hx111_0⟩ := Kd.at_int (Kd.R_reads' HO_9.out).2.2 (rd t105 x32_2) p111 q111; cases e111; replace p111 := eq_true p111; replace q111 := eq_true q111; have p112 : 0 ≤ ((rd t105 x32_2) : Int) := of_decide_eq_true (by first | (with_reducible assumption) | assumption); have q112 : (rd t105 x32_2) < (x9_1.length : Int) := of_decide_eq_true (by first | (with_reducible assumption) | assumption); obtain ⟨ad112, e112, hx112_0⟩ := Kd.at_int (Kd.R_reads' HO_9.out).2.2 (rd t105 x32_2) p112 q112; obtain rfl : ad111 = ad112 := (by injection e112); replace p112 := eq_true p112; replace q112 := eq_true q112))
                            go_roundg k2
                            case measure => have := HK1.out; have := HK2.out; omega
                            case rel => exact ⟨(rd x9_1 (rd t105 x32_2)), (wrap64 (x32_2 + 1)), (by first | rfl | (simp; done) | (simp [*]; done)), (by first | rfl | (simp; done) | (simp [*]; done)), H', ⟨by have := HK1.out; have := HK2.out; omega⟩, ⟨by (with_reducible repeat (first | apply Kd.R_alloc | apply Kd.R_drewN | apply Kd.R_drew)); exact HO_9.out⟩, ⟨by (with_reducible repeat (first | apply Kd.R_alloc | apply Kd.R_drewN | apply Kd.R_drew)); exact HO_11.out⟩, ⟨by (with_reducible repeat (first | apply Kd.R_alloc | apply Kd.R_drewN | apply Kd.R_drew)); exact HO_30.out⟩, ⟨by repeat (first | (with_reducible first | exact HB.out | apply below_alloc | apply pw_below_drewN | apply below_drew1) | exact HB.out)⟩⟩
                          · rw [if_neg c27] at H
                            have c27b0 : decide ((rd x9_1 (rd t105 x32_2)) < x13_2) = false := decide_eq_false c27
                            clear c27
                            have H' := Aside0.mk H
                            clear H
                            have p108 : 0 ≤ (x32_2 : Int) := of_decide_eq_true (by first | (with_reducible assumption) | assumption)
                            have q108 : x32_2 < (t105.length : Int) := of_decide_eq_true (by first | (with_reducible assumption) | assumption)
                            obtain ⟨ad108, e108, hx108_0⟩ := Kd.at_int (Kd.R_reads' HO_30.out).2.2 x32_2 p108 q108
                            cases e108
                            replace p108 := eq_true p108
                            replace q108 := eq_true q108
                            go_wp2_with (first | ((with_reducible refine gate_dst (N := 38) rfl ?_); refine goesF_ (some 38) rfl rfl HF2.out rfl rfl (i := (rd t105 x32_2)) rfl ?sideB A18.out ?_; (case sideB => exact by repeat (first | (with_reducible first | exact HB.out | apply below_alloc | apply pw_below_drewN | apply below_drew1) | exact HB.out)); intro w29 hb; have n0_ := Aside0.mk (Kd.R_below (by (with_reducible repeat (first | apply Kd.R_alloc | apply Kd.R_drewN | apply Kd.R_drew)); exact HO_9.out) hb); have n1_ := Aside0.mk (Kd.R_below (by (with_reducible repeat (first | apply Kd.R_alloc | apply Kd.R_drewN | apply Kd.R_drew)); exact HO_11.out) hb); have n2_ := Aside0.mk (Kd.R_below (by (with_reducible repeat (first | apply Kd.R_alloc | apply Kd.R_drewN | apply Kd.R_drew)); exact HO_30.out) hb); have n3_ := Aside0.mk (below_step (by repeat (first | (with_reducible first | exact HB.out | apply below_alloc | apply pw_below_drewN | apply below_drew1) | exact HB.out)) hb); clear HO_9; clear HO_11; clear HO_30; clear HB; have HO_9 := n0_; have HO_11 := n1_; have HO_30 := n2_; have HB := n3_; clear n0_ n1_ n2_ n3_; (try clear hb); (try clear hb2); (try clear hk); (try clear hi); have p111 : 0 ≤ ((rd t105 x32_2) : Int) := of_decide_eq_true (by first | (with_reducible assumption) | assumption); have q111 : (rd t105 x32_2) < (x9_1.length : Int) := of_decide_eq_true (by first | (with_reducible assumption) | assumption); obtain ⟨ad111, e111, hx111_0⟩ := Kd.at_int (Kd.R_reads' HO_9.out).2.2 (rd t105 x32_2) p111 q111; cases e111; replace p111 := eq_true p111; replace q111 := eq_true q111))
                            go_roundg k2
                            case measure => have := HK1.out; have := HK2.out; omega
                            case rel => exact ⟨(x13_2), (wrap64 (x32_2 + 1)), (by first | rfl | (simp; done) | (simp [*]; done)), (by first | rfl | (simp; done) | (simp [*]; done)), H', ⟨by have := HK1.out; have := HK2.out; omega⟩, ⟨by (with_reducible repeat (first | apply Kd.R_alloc | apply Kd.R_drewN | apply Kd.R_drew)); exact HO_9.out⟩, ⟨by (with_reducible repeat (first | apply Kd.R_alloc | apply Kd.R_drewN | apply Kd.R_drew)); exact HO_11.out⟩, ⟨by (with_reducible repeat (first | apply Kd.R_alloc | apply Kd.R_drewN | apply Kd.R_drew)); exact HO_30.out⟩, ⟨by repeat (first | (with_reducible first | exact HB.out | apply below_alloc | apply pw_below_drewN | apply below_drew1) | exact HB.out)⟩⟩
                        · rw [if_neg c26] at H
                          exact absurd H (by simp)
                      · rw [if_neg c25] at H
                        exact absurd H (by simp)
                · rw [if_neg c17] at H
                  exact absurd H (by simp)
              · rw [if_neg c16] at H
                exact absurd H (by simp)
            · rw [if_neg c15] at H
              have c15b0 : decide (x32_2 < (t105.length : Int)) = false := decide_eq_false c15
              clear c15
              by_cases c30 : x13_2 < 0
              · rw [if_pos c30] at H
                have c30b0 : decide (x13_2 < 0) = true := decide_eq_true c30
                clear c30
                simp only [Option.some.injEq, Prod.mk.injEq] at H
                obtain ⟨rfl, rfl, rfl⟩ := H
                go_wp2
                go_ret3
                exact ⟨_, by first | rfl | (simp [errW_none, errW_some] <;> rfl) | (simp [*, errW_none, errW_some] <;> rfl), by first | exact Kd.R_nil _ _ _ _ _ | exact Kd.N_nil _ _ _ _ _ | exact Kd.V_nil _ _ _ _ _ | exact Kd.Q_nil _ _ _ _ _ | exact Kd.S_nil _ _ _ _ _, by repeat (first | (with_reducible first | exact HB.out | apply below_alloc | apply pw_below_drewN | apply below_drew1) | exact HB.out)⟩
              · rw [if_neg c30] at H
                have c30b0 : decide (x13_2 < 0) = false := decide_eq_false c30
                clear c30
                replace H := Option.bind_eq_some_iff.mp H
                obtain ⟨t113, A310, H⟩ := H
                replace H : (branch_town_cheapest.l2 k2 a2 x9_1 x10_1 x11_1 t104 x13_2 t113 (t113.length : Int) 0 a0_0 l0_1) = some (r1, r2, r3) := H
                have A31 := Aside0.mk A310
                clear A310
                have H' := Aside0.mk H
                clear H
                go_wp2_with (first | ((with_reducible refine gate_callee (f := 59) rfl ?_); refine goesL_ (some 61) rfl rfl Try.func59 (by kernel_rfl) rfl #[.pointer (some ⟨g0, 0, none⟩), .int .i64 t104] rfl (by (try simp only [List.map_toArray, List.map_cons, List.map_nil]); first | done | rfl | (simp only [List.length_drop, List.length_take]; rfl)) ?_; (with_reducible refine (branch_town_entering.calls k2 g0 a0_0 A0_1 c0_1 l0_1 a0_2 t104 t113 _ ?side1 ?side2 ?side3 A31.out).mono ?_); (case side1 => exact ((show Below _ _ _ from by repeat (first | (with_reducible first | exact HB.out | apply below_alloc | apply pw_below_drewN | apply below_drew1) | exact HB.out)).block _ (blk_lt HP0.out)).trans HP0.out); (case side2 => repeat (first | exact (Kd.C_below HR0_1.out HB.out) | (with_reducible refine Kd.C_alloc ?_ _) | (with_reducible refine Kd.C_drewN ?_ _) | (with_reducible refine Kd.C_drew ?_))); (case side3 => exact HC0_1.out); rintro e w32 ⟨v114, rfl, ho0, hb⟩; refine ⟨_, rfl, ?_⟩; have n0_ := Aside0.mk (Kd.R_elder' (by (with_reducible repeat (first | apply Kd.R_alloc | apply Kd.R_drewN | apply Kd.R_drew)); exact HO_9.out) (Kd.R_base ho0) hb); have n1_ := Aside0.mk (Kd.R_below (by (with_reducible repeat (first | apply Kd.R_alloc | apply Kd.R_drewN | apply Kd.R_drew)); exact HO_11.out) hb); have n2_ := Aside0.mk (Kd.R_elder' (by (with_reducible repeat (first | apply Kd.R_alloc | apply Kd.R_drewN | apply Kd.R_drew)); exact HO_30.out) (Kd.R_base ho0) hb); have n3_ := Aside0.mk (Kd.R_lower (Kd.R_new' (Kd.R_new' ho0 (Kd.R_lt (by (with_reducible repeat (first | apply Kd.R_alloc | apply Kd.R_drewN | apply Kd.R_drew)); exact HO_9.out))) (Kd.R_lt (by (with_reducible repeat (first | apply Kd.R_alloc | apply Kd.R_drewN | apply Kd.R_drew)); exact HO_30.out))) (below_size (by repeat (first | (with_reducible first | exact HB.out | apply below_alloc | apply pw_below_drewN | apply below_drew1) | exact HB.out)))); have n4_ := Aside0.mk (below_step (by repeat (first | (with_reducible first | exact HB.out | apply below_alloc | apply pw_below_drewN | apply below_drew1) | exact HB.out)) hb); clear HO_9; clear HO_11; clear HO_30; clear HB; have HO_9 := n0_; have HO_11 := n1_; have HO_30 := n2_; have HO115 := n3_; have HB := n4_; clear n0_ n1_ n2_ n3_ n4_; (try clear hb); (try clear hb2); (try clear hk); (try clear hi); (try clear ho0); obtain ⟨Ao33, co33, eo33⟩ := Kd.R_slice HO115.out; subst eo33))
                go_loopg [63] k2 (fun kq v63 w' => ∃ (x9_3 : List Int) (x63_3 : Int), v63 = .int .i64 x63_3 ∧ Aside0 (branch_town_cheapest.l2 kq a2 x9_3 x10_1 x11_1 t104 x13_2 t113 (t113.length : Int) x63_3 a0_0 l0_1 = some (r1, r2, r3)) ∧ Aside0 (kq ≤ k2) ∧ Aside0 (Kd.R (Kd.int .i64) 3 w' w.heap.size (fun k_ => some k_ ≠ ((.slice Ao33 t113.length co33) : Value).ownBlock) (.slice Ao11 x9_1.length co11) x9_3) ∧ Aside0 (Kd.R k41 41 w' w.heap.size (fun _ => True) u11 x11_1) ∧ Aside0 (Kd.R (Kd.int .i64) 3 w' w.heap.size (fun k_ => some k_ ≠ ((.slice Ao11 x9_1.length co11) : Value).ownBlock) (.slice Ao33 t113.length co33) t113) ∧ Aside0 (Below w.heap.size w w'))
                case atStart => exact ⟨(x9_1), (0), (by first | rfl | (simp; done) | (simp [*]; done)), H', ⟨Nat.le_refl _⟩, ⟨by (with_reducible repeat (first | apply Kd.R_alloc | apply Kd.R_drewN | apply Kd.R_drew)); exact Kd.R_mono HO_9.out (fun _ hk => hk.2)⟩, ⟨by (with_reducible repeat (first | apply Kd.R_alloc | apply Kd.R_drewN | apply Kd.R_drew)); exact HO_11.out⟩, ⟨by (with_reducible repeat (first | apply Kd.R_alloc | apply Kd.R_drewN | apply Kd.R_drew)); exact Kd.R_mono HO115.out (fun _ hk => hk.1.2)⟩, ⟨by repeat (first | (with_reducible first | exact HB.out | apply below_alloc | apply pw_below_drewN | apply below_drew1) | exact HB.out)⟩⟩
                case round =>
                  clear H'
                  try clear c1
                  try clear p1
                  try clear q1
                  try clear hx1
                  try clear c2
                  try clear p2
                  try clear c3
                  try clear c4
                  try clear c5
                  try clear c6
                  try clear p6
                  try clear c7
                  try clear c7b0
                  try clear c7b1
                  try clear p10
                  try clear q10
                  try clear hx10
                  try clear p11
                  try clear q11
                  try clear hx11
                  try clear c15
                  try clear c15b0
                  try clear c16
                  try clear c16b0
                  try clear c17
                  try clear c17b0
                  try clear c19
                  try clear c21
                  try clear c21b0
                  try clear c22
                  try clear c22b0
                  try clear c23
                  try clear c23b0
                  try clear c25
                  try clear c25b0
                  try clear c26
                  try clear c26b0
                  try clear c27
                  try clear c27b0
                  try clear c30
                  try clear c30b0
                  try clear hx108_0
                  try clear hx110_0
                  try clear hx111_0
                  try clear hx112_0
                  try clear p108
                  try clear p110
                  try clear p111
                  try clear p112
                  try clear p2
                  try clear q108
                  try clear q110
                  try clear q111
                  try clear q112
                  obtain ⟨x9_3, x63_3, rfl, HA, HK3, HO_9, HO_11, HO_61, HB⟩ := hrel
                  have hl9_3 := (Kd.R_reads' HO_9.out).1
                  rw [hl9_3] at HO_9
                  (try simp only [hl9_3])
                  (try simp only [hl9_3] at HO_11)
                  (try simp only [hl9_3] at HO_61)
                  cases gk with
                  | zero => exact absurd HA.out (by simp [branch_town_cheapest.l2])
                  | succ k3 =>
                    have H := HA.out
                    clear HA
                    simp only [branch_town_cheapest.l2] at H
                    by_cases c34 : x63_3 < (t113.length : Int)
                    · rw [if_pos c34] at H
                      have c34b0 : decide (x63_3 < (t113.length : Int)) = true := decide_eq_true c34
                      (try (have c34b0l := c34b0; simp only [hl9_3] at c34b0l))
                      clear c34
                      by_cases c35 : 0 ≤ x63_3
                      · rw [if_pos c35] at H
                        have c35b0 : decide (0 ≤ x63_3) = true := decide_eq_true c35
                        clear c35
                        by_cases c36 : x63_3 < (t113.length : Int)
                        · rw [if_pos c36] at H
                          have c36b0 : decide (x63_3 < (t113.length : Int)) = true := decide_eq_true c36
                          (try (have c36b0l := c36b0; simp only [hl9_3] at c36b0l))
                          clear c36
                          by_cases c37 : 0 ≤ (rd t113 x63_3)
                          · rw [if_pos c37] at H
                            have c37b0 : decide (0 ≤ (rd t113 x63_3)) = true := decide_eq_true c37
                            clear c37
                            by_cases c38 : (rd t113 x63_3) < (x9_3.length : Int)
                            · rw [if_pos c38] at H
                              have c38b0 : decide ((rd t113 x63_3) < (x9_3.length : Int)) = true := decide_eq_true c38
                              (try (have c38b0l := c38b0; simp only [hl9_3] at c38b0l))
                              clear c38
                              obtain ⟨y118, hy118⟩ : ∃ y_ : List Int, y_ = (x9_3.set ((rd t113 x63_3) : Int).toNat (wrap64 ((rd x9_3 (rd t113 x63_3)) - x13_2))) := ⟨_, rfl⟩
                              replace H : (branch_town_cheapest.l2 k3 a2 y118 x10_1 x11_1 t104 x13_2 t113 (t113.length : Int) (wrap64 (x63_3 + 1)) a0_0 l0_1) = some (r1, r2, r3) := by first | (rw [hy118]; with_reducible exact H) | (have H2_ := (Option.bind_some _ _).symm.trans H; rw [hy118]; with_reducible exact H2_) | (have H2_ := (Option.bind_some _ _).symm.trans H; with_reducible exact H2_) | with_reducible exact H | (rw [hy118]; exact H) | exact H
                              have Ny118 := Aside0.mk hy118
                              clear hy118
                              have H' := Aside0.mk H
                              clear H
                              have p116 : 0 ≤ (x63_3 : Int) := of_decide_eq_true (by first | (with_reducible assumption) | assumption)
                              have q116 : x63_3 < (t113.length : Int) := of_decide_eq_true (by first | (with_reducible assumption) | assumption)
                              obtain ⟨ad116, e116, hx116_0⟩ := Kd.at_int (Kd.R_reads' HO_61.out).2.2 x63_3 p116 q116
                              cases e116
                              replace p116 := eq_true p116
                              replace q116 := eq_true q116
                              have p117 : 0 ≤ ((rd t113 x63_3) : Int) := of_decide_eq_true (by first | (with_reducible assumption) | assumption)
                              have q117 : (rd t113 x63_3) < (x9_3.length : Int) := of_decide_eq_true (by first | (with_reducible assumption) | assumption)
                              obtain ⟨ad117, e117, hx117_0⟩ := Kd.at_int (Kd.R_reads' HO_9.out).2.2 (rd t113 x63_3) p117 q117
                              cases e117
                              replace p117 := eq_true p117
                              replace q117 := eq_true q117
                              have p39 : 0 ≤ ((rd t113 x63_3) : Int) := of_decide_eq_true (by first | (with_reducible assumption) | assumption)
                              have q39 : ((rd t113 x63_3) : Int) < ((x9_3.length : Int) : Int) := of_decide_eq_true (by first | (with_reducible assumption) | assumption)
                              obtain ⟨go39, co39, eo39, gb39, gl39, cl39, HG39⟩ := Kd.R_form HO_9.out (by omega)
                              (first | cases eo39 | (injection eo39 with ea_ en_ ec_; (first | subst ea_ | (injection ea_ with ea_; subst ea_)); subst ec_; clear en_))
                              have GB39 := Aside0.mk gb39
                              have GG39 := Aside0.mk HG39
                              clear gb39 gl39 HG39
                              (first | simp only [add_plain] at hx117_0 | skip)
                              obtain ⟨hx39_0, hf39_0⟩ := Kd.R_celln 0 HO_9.out ((rd t113 x63_3) : Int) p39 q39
                              replace p39 := eq_true p39
                              replace q39 := eq_true q39
                              have HP40 := Kd.R_putg HO_9.out ((rd t113 x63_3) : Int) (wrap64 ((rd x9_3 (rd t113 x63_3)) - x13_2))
                              go_wp2_with (first | ((with_reducible refine gate_store (t := 3) (p := 73) rfl ?_); refine store_event (t := 3) (p := 73) (v := ?vo_w41) (w1 := (wr.setCell ⟨go39, ((rd t113 x63_3) : Int).toNat, none⟩ (.int .i64 (wrap64 ((rd x9_3 (rd t113 x63_3)) - x13_2))))) ?hg ?ho ?hn ?hr ?_; (case ho => rfl); (case hg => rfl); (case hn => rfl); (case hr => first | (go_simp; done) | (go_simp; rfl)); intro w41 hw; have hg : wr.grownBy w41 (some go39) := (by rw [hw]; exact HP40.2); have hp_ : Kd.R (Kd.int .i64) 3 w41 w.heap.size (fun k_ => some k_ ≠ (.slice (some ad116) t113.length co33 : Value).ownBlock) (.slice (some ⟨go39, 0, none⟩) x9_3.length co11) y118 := (by rw [hw, Ny118.out]; exact HP40.1); clear HP40; have n0_ := Aside0.mk (hp_); have n1_ := Aside0.mk (Kd.R_over' (v := (.slice (some ⟨go39, 0, none⟩) x9_3.length co11)) (by (with_reducible repeat (first | apply Kd.R_alloc | apply Kd.R_drewN | apply Kd.R_drew)); exact HO_11.out) (Kd.R_typed HO_9.out) (by decide) hg); have n2_ := Aside0.mk (Kd.R_after (v := (.slice (some ⟨go39, 0, none⟩) x9_3.length co11)) (v1 := (.slice (some ⟨go39, 0, none⟩) x9_3.length co11)) (ok := (fun _ => True)) (by (with_reducible repeat (first | apply Kd.R_alloc | apply Kd.R_drewN | apply Kd.R_drew)); exact Kd.R_mono HO_61.out (fun _ hk => ⟨trivial, hk⟩)) hg (.inl rfl)); have n3_ := Aside0.mk ((by rw [hw]; exact below_set (HB.out) GB39.out : Below w.heap.size w w41)); clear HO_9; clear HO_11; clear HO_61; clear HB; have HO_9 := n0_; have HO_11 := n1_; have HO_61 := n2_; have HB := n3_; clear n0_ n1_ n2_ n3_; clear hg hw hp_))
                              (try simp only [← hl9_3])
                              go_roundg k3
                              case measure => have := HK1.out; have := HK2.out; have := HK3.out; omega
                              case rel => exact ⟨(y118), (wrap64 (x63_3 + 1)), (by first | rfl | (simp; done) | (simp [*]; done)), H', ⟨by have := HK1.out; have := HK2.out; have := HK3.out; omega⟩, ⟨by (try simp only [hl9_3]); (with_reducible repeat (first | apply Kd.R_alloc | apply Kd.R_drewN | apply Kd.R_drew)); exact HO_9.out⟩, ⟨by (try simp only [hl9_3]); (with_reducible repeat (first | apply Kd.R_alloc | apply Kd.R_drewN | apply Kd.R_drew)); exact HO_11.out⟩, ⟨by (try simp only [hl9_3]); (with_reducible repeat (first | apply Kd.R_alloc | apply Kd.R_drewN | apply Kd.R_drew)); exact Kd.R_mono HO_61.out (fun _ hk => hk.2)⟩, ⟨by repeat (first | (with_reducible first | exact HB.out | apply below_alloc | apply pw_below_drewN | apply below_drew1) | exact HB.out)⟩⟩
                            · rw [if_neg c38] at H
                              exact absurd H (by simp)
                          · rw [if_neg c37] at H
                            exact absurd H (by simp)
                        · rw [if_neg c36] at H
                          exact absurd H (by simp)
                      · rw [if_neg c35] at H
                        exact absurd H (by simp)
                    · rw [if_neg c34] at H
                      have c34b0 : decide (x63_3 < (t113.length : Int)) = false := decide_eq_false c34
                      (try (have c34b0l := c34b0; simp only [hl9_3] at c34b0l))
                      clear c34
                      by_cases c42 : x13_2 > 0
                      · rw [if_pos c42] at H
                        have c42b0 : decide (0 < x13_2) = true := decide_eq_true c42
                        clear c42
                        by_cases c43 : x11_1.length < 8796093022208
                        · rw [if_pos c43] at H
                          have LMc43 := Aside0.mk c43
                          clear c43
                          obtain ⟨y119, hy119⟩ : ∃ y_ : List (S41), y_ = (x11_1 ++ [(⟨t104, x13_2⟩ : S41)]) := ⟨_, rfl⟩
                          replace H : (branch_town_cheapest.l0 k3 a2 x9_3 (wrap64 (x10_1 + x13_2)) y119 a0_0 l0_1) = some (r1, r2, r3) := by first | (rw [hy119]; with_reducible exact H) | (have H2_ := (Option.bind_some _ _).symm.trans H; rw [hy119]; with_reducible exact H2_) | (have H2_ := (Option.bind_some _ _).symm.trans H; with_reducible exact H2_) | with_reducible exact H | (rw [hy119]; exact H) | exact H
                          have Ny119 := Aside0.mk hy119
                          clear hy119
                          have H' := Aside0.mk H
                          clear H
                          go_wp2_with (first | ((with_reducible refine gate_builtin (b := .append) (xs := #[.tmp 80, .tmp 84]) rfl ?_); at_builtin; refine Kd.R_append k41 (w0 := w) w.heap.size rfl (.tmp 80) (.tmp 84) 35 41 (.agg #[(.int .i64 0), (.int .i64 0)]) 16 rfl Try.underlying35 info41 rfl (by decide) (by omega) u11 x11_1 (⟨t104, x13_2⟩ : S41) [.int .i64 t104, .int .i64 x13_2] (fun _ => True) (fun _ => False) rfl rfl ?aP (fun _ hk => hk.elim) ?aF ?aO ?aB ?aS ?aL ?_; (case aP => exact k41_mkM _ _ _ (⟨t104, x13_2⟩ : S41)); (case aB => exact (by repeat (first | (with_reducible first | exact HB.out | apply below_alloc | apply pw_below_drewN | apply below_drew1) | exact HB.out))); (case aF => exact (fun _ _ => trivial)); (case aO => exact (by (with_reducible repeat (first | apply Kd.R_alloc | apply Kd.R_drewN | apply Kd.R_drew)); exact HO_11.out)); (case aS => exact (below_size (by repeat (first | (with_reducible first | exact HB.out | apply below_alloc | apply pw_below_drewN | apply below_drew1) | exact HB.out)))); (case aL => have := LMc43.out; omega); intro v120 w44 ho hb hg hat; rw [← Ny119.out] at ho; have n0_ := Aside0.mk (Kd.R_over' (by (with_reducible repeat (first | apply Kd.R_alloc | apply Kd.R_drewN | apply Kd.R_drew)); exact HO_9.out) (Kd.R_typed (by (with_reducible repeat (first | apply Kd.R_alloc | apply Kd.R_drewN | apply Kd.R_drew)); exact HO_11.out)) (by decide) hg); have n1_ := Aside0.mk (Kd.R_over' (by (with_reducible repeat (first | apply Kd.R_alloc | apply Kd.R_drewN | apply Kd.R_drew)); exact HO_61.out) (Kd.R_typed (by (with_reducible repeat (first | apply Kd.R_alloc | apply Kd.R_drewN | apply Kd.R_drew)); exact HO_11.out)) (by decide) hg); have n2_ := Aside0.mk (hb); have n3_ := Aside0.mk (ho); clear HO_9; clear HO_61; clear HB; clear HO_11; have HO_9 := n0_; have HO_61 := n1_; have HB := n2_; have HO121 := n3_; clear n0_ n1_ n2_ n3_; clear ho hb hg hat))
                          (try simp only [← hl9_3])
                          go_roundg k3
                          case measure => have := HK1.out; have := HK2.out; have := HK3.out; omega
                          case rel => exact ⟨(x9_3), (wrap64 (x10_1 + x13_2)), (y119), (by first | rfl | (simp; done) | (simp [*]; done)), H', ⟨by have := HK1.out; have := HK2.out; have := HK3.out; omega⟩, ⟨by (try simp only [hl9_3]); (with_reducible repeat (first | apply Kd.R_alloc | apply Kd.R_drewN | apply Kd.R_drew)); exact Kd.R_mono HO_9.out (fun _ hk => trivial)⟩, ⟨by (try simp only [hl9_3]); (with_reducible repeat (first | apply Kd.R_alloc | apply Kd.R_drewN | apply Kd.R_drew)); exact HO121.out⟩, ⟨by repeat (first | (with_reducible first | exact HB.out | apply below_alloc | apply pw_below_drewN | apply below_drew1) | exact HB.out)⟩⟩
                        · rw [if_neg c43] at H
                          exact absurd H (by simp)
                      · rw [if_neg c42] at H
                        have c42b0 : decide (0 < x13_2) = false := decide_eq_false c42
                        clear c42
                        have H' := Aside0.mk H
                        clear H
                        go_wp2
                        (try simp only [← hl9_3])
                        go_roundg k3
                        case measure => have := HK1.out; have := HK2.out; have := HK3.out; omega
                        case rel => exact ⟨(x9_3), (x10_1), (x11_1), (by first | rfl | (simp; done) | (simp [*]; done)), H', ⟨by have := HK1.out; have := HK2.out; have := HK3.out; omega⟩, ⟨by (try simp only [hl9_3]); (with_reducible repeat (first | apply Kd.R_alloc | apply Kd.R_drewN | apply Kd.R_drew)); exact Kd.R_mono HO_9.out (fun _ hk => trivial)⟩, ⟨by (try simp only [hl9_3]); (with_reducible repeat (first | apply Kd.R_alloc | apply Kd.R_drewN | apply Kd.R_drew)); exact HO_11.out⟩, ⟨by repeat (first | (with_reducible first | exact HB.out | apply below_alloc | apply pw_below_drewN | apply below_drew1) | exact HB.out)⟩⟩
end Go.Proofs.Ytpmadffgdfholaa.B
namespace Go.Proofs.Ytpmadffgdfholaa.B
open Go.RowKit Go.Proofs.YtpmadffgdfholaaW.PrintWords Go.Proofs.YtpmadffgdfholaaW.PrintLast Go.Proofs.YtpmadffgdfholaaW.PrintMore
attribute [local go_sem] max2_int min2_int max_two min_two max_three min_three max_four min_four   -- for this text's walks alone
set_option linter.unusedVariables false
set_option linter.unusedSimpArgs false
def branch_Proof.f (k : Nat) (a0 : Int) (l1 : List (S30)) : Option ((List (S41)) × Int) := (branch_read.f a0 l1).bind fun t139 => (if t139 = 0 then ((branch_town_costs.f k a0 l1).bind fun t141 => ((branch_town_cheapest.f k a0 l1 t141 (fun i_ => branch_Proof_1.f i_)).bind fun bt144 => (if bt144.2.2 = true then (some (bt144.2.1, 0)) else (some (([] : List (S41)), 10))))) else (some (([] : List (S41)), t139)))
set_option maxHeartbeats 8000000 in
set_option maxRecDepth 100000 in
theorem branch_Proof.calls (k : Nat) (a0 : Int) (A1 : Option Addr) (c1 : Nat) (l1 : List (S30)) (r1 : List (S41)) (r2 : Int) (w : World) (hr1 : Kd.C k30 w A1 l1.length l1) (hc1 : l1.length ≤ c1) (h : branch_Proof.f k a0 l1 = some (r1, r2)) :
    Calls Try.prog 21 #[.int .i64 a0, .slice A1 l1.length c1] w fun e w' => ∃ v0_ : Value, e = .returned (.tuple #[v0_, .int .i64 r2]) ∧ Kd.R k41 41 w' w.heap.size (fun _ => True) v0_ r1 ∧ Below w.heap.size w w' := by
  have HR1 := Aside0.mk hr1
  have HC1 := Aside0.mk hc1
  clear hr1 hc1
  have HB := Aside0.mk (Below.refl w.heap.size w)
  have H : ((branch_read.f a0 l1).bind fun t139 => (if t139 = 0 then ((branch_town_costs.f k a0 l1).bind fun t141 => ((branch_town_cheapest.f k a0 l1 t141 (fun i_ => branch_Proof_1.f i_)).bind fun bt144 => (if bt144.2.2 = true then (some (bt144.2.1, 0)) else (some (([] : List (S41)), 10))))) else (some (([] : List (S41)), t139)))) = some (r1, r2) := h
  clear h
  replace H := Option.bind_eq_some_iff.mp H
  obtain ⟨t139, A30, H⟩ := H
  replace H : (if t139 = 0 then ((branch_town_costs.f k a0 l1).bind fun t141 => ((branch_town_cheapest.f k a0 l1 t141 (fun i_ => branch_Proof_1.f i_)).bind fun bt144 => (if bt144.2.2 = true then (some (bt144.2.1, 0)) else (some (([] : List (S41)), 10))))) else (some (([] : List (S41)), t139))) = some (r1, r2) := H
  have A3 := Aside0.mk A30
  clear A30
  by_cases c4 : t139 = 0
  · rw [if_pos c4] at H
    have c4b0 : (t139 == 0) = true := beq_iff_eq.mpr c4
    have c4b1 : (t139 != 0) = false := bne_eq_false_iff_eq.mpr c4
    clear c4
    replace H := Option.bind_eq_some_iff.mp H
    obtain ⟨t141, A50, H⟩ := H
    replace H : ((branch_town_cheapest.f k a0 l1 t141 (fun i_ => branch_Proof_1.f i_)).bind fun bt144 => (if bt144.2.2 = true then (some (bt144.2.1, 0)) else (some (([] : List (S41)), 10)))) = some (r1, r2) := H
    have A5 := Aside0.mk A50
    clear A50
    replace H := Option.bind_eq_some_iff.mp H
    obtain ⟨⟨t144, t145, t146⟩, A60, H⟩ := H
    replace H : (if t146 = true then (some (t145, 0)) else (some (([] : List (S41)), 10))) = some (r1, r2) := H
    have A6 := Aside0.mk A60
    clear A60
    by_cases c7 : t146 = true
    · subst c7
      have H1 : (some (t145, 0)) = some (r1, r2) := by rw [if_pos rfl] at H; exact H
      clear H
      have H := H1
      clear H1
      simp only [Option.some.injEq, Prod.mk.injEq] at H
      obtain ⟨rfl, rfl⟩ := H
      go_enter Try.func21, Try.ntmps21
      go_wp2_with (first | (go_at_call 44; (with_reducible refine (branch_read.calls_ok a0 A1 c1 l1 t139 _ ?side1 ?side2 A3.out (by first | (with_reducible assumption) | assumption)).mono ?_); (case side1 => repeat (first | exact HR1.out | (with_reducible refine Kd.C_alloc ?_ _) | (with_reducible refine Kd.C_drewN ?_ _) | (with_reducible refine Kd.C_drew ?_))); (case side2 => exact HC1.out); rintro e w8 ⟨gb140, mr140, rfl, hg, hbox, hb⟩; have n0_ := Aside0.mk (below_step (by repeat (first | (with_reducible first | exact HB.out | apply below_alloc | apply pw_below_drewN | apply below_drew1) | exact HB.out)) hb); have n1_ := Aside0.mk (hbox); have n2_ := Aside0.mk ((Nat.le_trans (below_size (by repeat (first | (with_reducible first | exact HB.out | apply below_alloc | apply pw_below_drewN | apply below_drew1) | exact HB.out))) hg : w.heap.size ≤ gb140)); have n3_ := Aside0.mk ((Nat.le_trans (below_size (by repeat (first | (with_reducible first | exact HB.out | apply below_alloc | apply pw_below_drewN | apply below_drew1) | exact HB.out))) hg : w.heap.size ≤ gb140)); clear HB; have HB := n0_; have BK140 := n1_; have GW140 := n2_; have GE140 := n3_; clear n0_ n1_ n2_ n3_; clear hb hbox hg) | ((with_reducible refine gate_callee (f := 47) rfl ?_); refine goesL_ (some 23) rfl rfl Try.func47 (by kernel_rfl) rfl #[.pointer (some ⟨gb140, 0, none⟩)] rfl (by (try simp only [List.map_toArray, List.map_cons, List.map_nil]); first | done | rfl | (simp only [List.length_drop, List.length_take]; rfl)) ?_; (with_reducible refine (branch_town_costs.calls k gb140 a0 A1 c1 l1 mr140 t141 _ ?side1 ?side2 ?side3 A5.out).mono ?_); (case side1 => exact by (with_reducible repeat (first | refine blk_drewN ?_ _ | refine blk_drew ?_ | refine blk_alloc ?_ _)); exact BK140.out); (case side2 => repeat (first | exact (Kd.C_below HR1.out HB.out) | (with_reducible refine Kd.C_alloc ?_ _) | (with_reducible refine Kd.C_drewN ?_ _) | (with_reducible refine Kd.C_drew ?_))); (case side3 => exact HC1.out); rintro e w9 ⟨v142, rfl, ho0, hb⟩; refine ⟨_, rfl, ?_⟩; have n0_ := Aside0.mk (Kd.R_lower ho0 (below_size (by repeat (first | (with_reducible first | exact HB.out | apply below_alloc | apply pw_below_drewN | apply below_drew1 | refine below_set ?_ GE140.out) | exact HB.out)))); have n1_ := Aside0.mk (blk_below (g := gb140) (o := .cells #[.int .i64 a0, .slice A1 l1.length c1, .map mr140] 70 (0, 0)) (by (with_reducible repeat (first | refine blk_drewN ?_ _ | refine blk_drew ?_ | refine blk_alloc ?_ _)); exact BK140.out) hb); have n2_ := Aside0.mk (below_step (by repeat (first | (with_reducible first | exact HB.out | apply below_alloc | apply pw_below_drewN | apply below_drew1 | refine below_set ?_ GE140.out) | exact HB.out)) hb); clear BK140; clear HB; have HO143 := n0_; have BK140 := n1_; have HB := n2_; clear n0_ n1_ n2_; (try clear hb); (try clear hb2); (try clear hk); (try clear hi); (try clear ho0); obtain ⟨Ao10, co10, eo10⟩ := Kd.R_slice HO143.out; subst eo10) | ((with_reducible refine gate_callee (f := 46) rfl ?_); refine goesL_ (some 24) rfl rfl Try.func46 (by kernel_rfl) rfl #[.pointer (some ⟨gb140, 0, none⟩), .slice Ao10 t141.length co10, (.func (.func 48) #[] #[])] rfl (by (try simp only [List.map_toArray, List.map_cons, List.map_nil]); first | done | rfl | (simp only [List.length_drop, List.length_take]; rfl)) ?_; (with_reducible refine (branch_town_cheapest.calls k gb140 a0 A1 c1 l1 mr140 _ _ t141 (.func (.func 48) #[] #[]) (fun i_ => branch_Proof_1.f i_) t144 t145 true _ ?side1 ?side2 ?side3 ?side4 ?side5 ?side6 A6.out).mono ?_); (case side1 => exact by (with_reducible repeat (first | refine blk_drewN ?_ _ | refine blk_drew ?_ | refine blk_alloc ?_ _)); exact BK140.out); (case side2 => repeat (first | exact (Kd.C_below HR1.out HB.out) | (with_reducible refine Kd.C_alloc ?_ _) | (with_reducible refine Kd.C_drewN ?_ _) | (with_reducible refine Kd.C_drew ?_))); (case side3 => exact HC1.out); (case side4 => repeat (first | exact (Kd.R_reads' HO143.out).2.2 | (with_reducible refine Kd.C_alloc ?_ _) | (with_reducible refine Kd.C_drewN ?_ _) | (with_reducible refine Kd.C_drew ?_))); (case side5 => exact (Kd.R_reads' HO143.out).2.1); (case side6 => exact ⟨48, #[], Try.f48, rfl, Try.func48, by kernel_rfl, rfl, fun W_ _ i_ r_ h_ => (branch_Proof_1.calls i_ r_ W_ h_).mono (fun e_ w_ x_ => ⟨x_.1, by obtain ⟨_, n_, rfl⟩ := x_; exact pw_below_drewN (Below.refl _ _) n_⟩)⟩); rintro e w11 ⟨v147, rfl, ho0, hb⟩; refine ⟨_, rfl, ?_⟩; have n0_ := Aside0.mk (Kd.R_below (by (with_reducible repeat (first | apply Kd.R_alloc | apply Kd.R_drewN | apply Kd.R_drew)); exact HO143.out) hb); have n1_ := Aside0.mk (Kd.R_lower ho0 (below_size (by repeat (first | (with_reducible first | exact HB.out | apply below_alloc | apply pw_below_drewN | apply below_drew1 | refine below_set ?_ GE140.out) | exact HB.out)))); have n2_ := Aside0.mk (blk_below (g := gb140) (o := .cells #[.int .i64 a0, .slice A1 l1.length c1, .map mr140] 70 (0, 0)) (by (with_reducible repeat (first | refine blk_drewN ?_ _ | refine blk_drew ?_ | refine blk_alloc ?_ _)); exact BK140.out) hb); have n3_ := Aside0.mk (below_step (by repeat (first | (with_reducible first | exact HB.out | apply below_alloc | apply pw_below_drewN | apply below_drew1 | refine below_set ?_ GE140.out) | exact HB.out)) hb); clear HO143; clear BK140; clear HB; have HO143 := n0_; have HO148 := n1_; have BK140 := n2_; have HB := n3_; clear n0_ n1_ n2_ n3_; (try clear hb); (try clear hb2); (try clear hk); (try clear hi); (try clear ho0)))
      go_ret2
      exact ⟨_, by first | rfl | (simp [errW_none, errW_some] <;> rfl) | (simp [*, errW_none, errW_some] <;> rfl), by (with_reducible repeat (first | apply Kd.R_alloc | apply Kd.R_drewN | apply Kd.R_drew)); exact HO148.out, by repeat (first | (with_reducible first | exact HB.out | apply below_alloc | apply pw_below_drewN | apply below_drew1 | refine below_set ?_ GE140.out) | exact HB.out)⟩
    · replace c7 := Bool.eq_false_iff.mpr c7
      subst c7
      have H1 : (some (([] : List (S41)), 10)) = some (r1, r2) := by rw [if_neg (show ¬ (false = true) by decide)] at H; exact H
      clear H
      have H := H1
      clear H1
      simp only [Option.some.injEq, Prod.mk.injEq] at H
      obtain ⟨rfl, rfl⟩ := H
      go_enter Try.func21, Try.ntmps21
      go_wp2_with (first | (go_at_call 44; (with_reducible refine (branch_read.calls_ok a0 A1 c1 l1 t139 _ ?side1 ?side2 A3.out (by first | (with_reducible assumption) | assumption)).mono ?_); (case side1 => repeat (first | exact HR1.out | (with_reducible refine Kd.C_alloc ?_ _) | (with_reducible refine Kd.C_drewN ?_ _) | (with_reducible refine Kd.C_drew ?_))); (case side2 => exact HC1.out); rintro e w12 ⟨gb140, mr140, rfl, hg, hbox, hb⟩; have n0_ := Aside0.mk (below_step (by repeat (first | (with_reducible first | exact HB.out | apply below_alloc | apply pw_below_drewN | apply below_drew1) | exact HB.out)) hb); have n1_ := Aside0.mk (hbox); have n2_ := Aside0.mk ((Nat.le_trans (below_size (by repeat (first | (with_reducible first | exact HB.out | apply below_alloc | apply pw_below_drewN | apply below_drew1) | exact HB.out))) hg : w.heap.size ≤ gb140)); have n3_ := Aside0.mk ((Nat.le_trans (below_size (by repeat (first | (with_reducible first | exact HB.out | apply below_alloc | apply pw_below_drewN | apply below_drew1) | exact HB.out))) hg : w.heap.size ≤ gb140)); clear HB; have HB := n0_; have BK140 := n1_; have GW140 := n2_; have GE140 := n3_; clear n0_ n1_ n2_ n3_; clear hb hbox hg) | ((with_reducible refine gate_callee (f := 47) rfl ?_); refine goesL_ (some 23) rfl rfl Try.func47 (by kernel_rfl) rfl #[.pointer (some ⟨gb140, 0, none⟩)] rfl (by (try simp only [List.map_toArray, List.map_cons, List.map_nil]); first | done | rfl | (simp only [List.length_drop, List.length_take]; rfl)) ?_; (with_reducible refine (branch_town_costs.calls k gb140 a0 A1 c1 l1 mr140 t141 _ ?side1 ?side2 ?side3 A5.out).mono ?_); (case side1 => exact by (with_reducible repeat (first | refine blk_drewN ?_ _ | refine blk_drew ?_ | refine blk_alloc ?_ _)); exact BK140.out); (case side2 => repeat (first | exact (Kd.C_below HR1.out HB.out) | (with_reducible refine Kd.C_alloc ?_ _) | (with_reducible refine Kd.C_drewN ?_ _) | (with_reducible refine Kd.C_drew ?_))); (case side3 => exact HC1.out); rintro e w13 ⟨v142, rfl, ho0, hb⟩; refine ⟨_, rfl, ?_⟩; have n0_ := Aside0.mk (Kd.R_lower ho0 (below_size (by repeat (first | (with_reducible first | exact HB.out | apply below_alloc | apply pw_below_drewN | apply below_drew1 | refine below_set ?_ GE140.out) | exact HB.out)))); have n1_ := Aside0.mk (blk_below (g := gb140) (o := .cells #[.int .i64 a0, .slice A1 l1.length c1, .map mr140] 70 (0, 0)) (by (with_reducible repeat (first | refine blk_drewN ?_ _ | refine blk_drew ?_ | refine blk_alloc ?_ _)); exact BK140.out) hb); have n2_ := Aside0.mk (below_step (by repeat (first | (with_reducible first | exact HB.out | apply below_alloc | apply pw_below_drewN | apply below_drew1 | refine below_set ?_ GE140.out) | exact HB.out)) hb); clear BK140; clear HB; have HO143 := n0_; have BK140 := n1_; have HB := n2_; clear n0_ n1_ n2_; (try clear hb); (try clear hb2); (try clear hk); (try clear hi); (try clear ho0); obtain ⟨Ao14, co14, eo14⟩ := Kd.R_slice HO143.out; subst eo14) | ((with_reducible refine gate_callee (f := 46) rfl ?_); refine goesL_ (some 24) rfl rfl Try.func46 (by kernel_rfl) rfl #[.pointer (some ⟨gb140, 0, none⟩), .slice Ao14 t141.length co14, (.func (.func 48) #[] #[])] rfl (by (try simp only [List.map_toArray, List.map_cons, List.map_nil]); first | done | rfl | (simp only [List.length_drop, List.length_take]; rfl)) ?_; (with_reducible refine (branch_town_cheapest.calls k gb140 a0 A1 c1 l1 mr140 _ _ t141 (.func (.func 48) #[] #[]) (fun i_ => branch_Proof_1.f i_) t144 t145 false _ ?side1 ?side2 ?side3 ?side4 ?side5 ?side6 A6.out).mono ?_); (case side1 => exact by (with_reducible repeat (first | refine blk_drewN ?_ _ | refine blk_drew ?_ | refine blk_alloc ?_ _)); exact BK140.out); (case side2 => repeat (first | exact (Kd.C_below HR1.out HB.out) | (with_reducible refine Kd.C_alloc ?_ _) | (with_reducible refine Kd.C_drewN ?_ _) | (with_reducible refine Kd.C_drew ?_))); (case side3 => exact HC1.out); (case side4 => repeat (first | exact (Kd.R_reads' HO143.out).2.2 | (with_reducible refine Kd.C_alloc ?_ _) | (with_reducible refine Kd.C_drewN ?_ _) | (with_reducible refine Kd.C_drew ?_))); (case side5 => exact (Kd.R_reads' HO143.out).2.1); (case side6 => exact ⟨48, #[], Try.f48, rfl, Try.func48, by kernel_rfl, rfl, fun W_ _ i_ r_ h_ => (branch_Proof_1.calls i_ r_ W_ h_).mono (fun e_ w_ x_ => ⟨x_.1, by obtain ⟨_, n_, rfl⟩ := x_; exact pw_below_drewN (Below.refl _ _) n_⟩)⟩); rintro e w15 ⟨v147, rfl, ho0, hb⟩; refine ⟨_, rfl, ?_⟩; have n0_ := Aside0.mk (Kd.R_below (by (with_reducible repeat (first | apply Kd.R_alloc | apply Kd.R_drewN | apply Kd.R_drew)); exact HO143.out) hb); have n1_ := Aside0.mk (Kd.R_lower ho0 (below_size (by repeat (first | (with_reducible first | exact HB.out | apply below_alloc | apply pw_below_drewN | apply below_drew1 | refine below_set ?_ GE140.out) | exact HB.out)))); have n2_ := Aside0.mk (blk_below (g := gb140) (o := .cells #[.int .i64 a0, .slice A1 l1.length c1, .map mr140] 70 (0, 0)) (by (with_reducible repeat (first | refine blk_drewN ?_ _ | refine blk_drew ?_ | refine blk_alloc ?_ _)); exact BK140.out) hb); have n3_ := Aside0.mk (below_step (by repeat (first | (with_reducible first | exact HB.out | apply below_alloc | apply pw_below_drewN | apply below_drew1 | refine below_set ?_ GE140.out) | exact HB.out)) hb); clear HO143; clear BK140; clear HB; have HO143 := n0_; have HO148 := n1_; have BK140 := n2_; have HB := n3_; clear n0_ n1_ n2_ n3_; (try clear hb); (try clear hb2); (try clear hk); (try clear hi); (try clear ho0)))
      go_ret2
      exact ⟨_, by first | rfl | (simp [errW_none, errW_some] <;> rfl) | (simp [*, errW_none, errW_some] <;> rfl), by first | exact Kd.R_nil _ _ _ _ _ | exact Kd.N_nil _ _ _ _ _ | exact Kd.V_nil _ _ _ _ _ | exact Kd.Q_nil _ _ _ _ _ | exact Kd.S_nil _ _ _ _ _, by repeat (first | (with_reducible first | exact HB.out | apply below_alloc | apply pw_below_drewN | apply below_drew1 | refine below_set ?_ GE140.out) | exact HB.out)⟩
  · rw [if_neg c4] at H
    have c4b0 : (t139 == 0) = false := beq_eq_false_iff_ne.mpr c4
    have c4b1 : (t139 != 0) = true := bne_iff_ne.mpr c4
    simp only [Option.some.injEq, Prod.mk.injEq] at H
    obtain ⟨rfl, rfl⟩ := H
    go_enter Try.func21, Try.ntmps21
    go_wp2_with (first | (go_at_call 44; (with_reducible refine (branch_read.calls_err a0 A1 c1 l1 t139 _ ?side1 ?side2 A3.out (by first | (with_reducible assumption) | assumption)).mono ?_); (case side1 => repeat (first | exact HR1.out | (with_reducible refine Kd.C_alloc ?_ _) | (with_reducible refine Kd.C_drewN ?_ _) | (with_reducible refine Kd.C_drew ?_))); (case side2 => exact HC1.out); rintro e w16 ⟨rfl, hb⟩; have n0_ := Aside0.mk (below_step (by repeat (first | (with_reducible first | exact HB.out | apply below_alloc | apply pw_below_drewN | apply below_drew1) | exact HB.out)) hb); clear HB; have HB := n0_; clear n0_; (try clear hb)))
    go_ret2
    exact ⟨_, by first | rfl | (simp [errW_none, errW_some] <;> rfl) | (simp [*, errW_none, errW_some] <;> rfl), by first | exact Kd.R_nil _ _ _ _ _ | exact Kd.N_nil _ _ _ _ _ | exact Kd.V_nil _ _ _ _ _ | exact Kd.Q_nil _ _ _ _ _ | exact Kd.S_nil _ _ _ _ _, by repeat (first | (with_reducible first | exact HB.out | apply below_alloc | apply pw_below_drewN | apply below_drew1) | exact HB.out)⟩
end Go.Proofs.Ytpmadffgdfholaa.B
namespace Go.Proofs.Ytpmadffgdfholaa.B
open Go.RowKit Go.Proofs.YtpmadffgdfholaaW.PrintWords Go.Proofs.YtpmadffgdfholaaW.PrintLast Go.Proofs.YtpmadffgdfholaaW.PrintMore
attribute [local go_sem] max2_int min2_int max_two min_two max_three min_three max_four min_four   -- for this text's walks alone
set_option linter.unusedVariables false
set_option linter.unusedSimpArgs false
def trishawlaw03_same.l0 : Nat → List Int → List Int → Int → Option (Bool)
  | 0, _, _, _ => none
  | k + 1, x0, x1, x5 => if x5 < (x0.length : Int) then (if 0 ≤ x5 then (if x5 < (x1.length : Int) then (if (rd x0 x5) = (rd x1 x5) then (trishawlaw03_same.l0 k x0 x1 (wrap64 (x5 + 1))) else (some false)) else (none)) else (none)) else (some true)
def trishawlaw03_same.f (k : Nat) (l0 : List Int) (l1 : List Int) : Option (Bool) := if (l0.length : Int) = (l1.length : Int) then (trishawlaw03_same.l0 k l0 l1 0) else (some false)
theorem trishawlaw03_same.mono_l : ∀ k, (∀ y0 y1 y2, LeO (trishawlaw03_same.l0 k y0 y1 y2) (trishawlaw03_same.l0 (k + 1) y0 y1 y2))
  | 0 => fun _ _ _ r h => by simp [trishawlaw03_same.l0] at h
  | k + 1 => by
    have ih0 := trishawlaw03_same.mono_l k
    · intro y0 y1 y2
      unfold trishawlaw03_same.l0
      repeat' first
      | (with_reducible exact ih0 _ _ _)
      | (with_reducible exact LeO.refl _)
      | (with_reducible exact LeO.none _)
      | (with_reducible refine LeO.ite ?_ ?_)
      | (with_reducible refine LeO.bind ?_ (fun _ => ?_))
      | exact ih0 _ _ _
      | exact LeO.none _
      | refine LeO.ite ?_ ?_
      | refine LeO.bind ?_ (fun _ => ?_)
theorem trishawlaw03_same.mono : ∀ a0 a1 k, LeO (trishawlaw03_same.f k a0 a1) (trishawlaw03_same.f (k + 1) a0 a1) := by
  intro a0 a1 k
  have ih0 := trishawlaw03_same.mono_l k
  unfold trishawlaw03_same.f
  repeat' first
      | (with_reducible exact ih0 _ _ _)
      | (with_reducible exact LeO.refl _)
      | (with_reducible exact LeO.none _)
      | (with_reducible refine LeO.ite ?_ ?_)
      | (with_reducible refine LeO.bind ?_ (fun _ => ?_))
      | exact ih0 _ _ _
      | exact LeO.none _
      | refine LeO.ite ?_ ?_
      | refine LeO.bind ?_ (fun _ => ?_)
set_option maxHeartbeats 8000000 in
set_option maxRecDepth 100000 in
theorem trishawlaw03_same.calls (k : Nat) (A0 : Option Addr) (c0 : Nat) (l0 : List Int) (A1 : Option Addr) (c1 : Nat) (l1 : List Int) (r : Bool) (w : World) (hr0 : Kd.C (Kd.int .i64) w A0 l0.length l0) (hc0 : l0.length ≤ c0) (hr1 : Kd.C (Kd.int .i64) w A1 l1.length l1) (hc1 : l1.length ≤ c1) (h : trishawlaw03_same.f k l0 l1 = some r) :
    Calls Try.prog 25 #[.slice A0 l0.length c0, .slice A1 l1.length c1] w fun e w' => e = .returned (.bool r) ∧ Drawn0 w w' := by
  have HR0 := Aside0.mk hr0
  have HC0 := Aside0.mk hc0
  clear hr0 hc0
  have HR1 := Aside0.mk hr1
  have HC1 := Aside0.mk hc1
  clear hr1 hc1
  have H : (if (l0.length : Int) = (l1.length : Int) then (trishawlaw03_same.l0 k l0 l1 0) else (some false)) = some r := h
  clear h
  by_cases c3 : (l0.length : Int) = (l1.length : Int)
  · rw [if_pos c3] at H
    have c3b0 : ((l0.length : Int) == (l1.length : Int)) = true := beq_iff_eq.mpr c3
    have c3b1 : ((l0.length : Int) != (l1.length : Int)) = false := bne_eq_false_iff_eq.mpr c3
    have c3b2 : (l0.length == l1.length) = true := by first | simpa using c3 | (simp at c3 ⊢; omega)
    clear c3
    have H' := Aside0.mk H
    clear H
    go_enter Try.func25, Try.ntmps25
    go_wp2
    repeat (go_quiet (fail); try go_wp2)
    go_loopg [5] k (fun kq v5 w' => ∃ (x5_1 : Int), v5 = .int .i64 x5_1 ∧ Aside0 (trishawlaw03_same.l0 kq l0 l1 x5_1 = some r) ∧ Aside0 (kq ≤ k) ∧ Drawn0 w w')
    case atStart => exact ⟨(0), (by first | rfl | (simp; done) | (simp [*]; done)), H', ⟨Nat.le_refl _⟩, by repeat (first | exact Drawn0.refl _ | apply Drawn0.step)⟩
    case round =>
      clear H'
      try clear c1
      try clear c2
      try clear p2
      try clear c3
      try clear c3b0
      try clear c3b1
      try clear c3b2
      obtain ⟨x5_1, rfl, HA, HK1, ⟨m1, rfl⟩⟩ := hrel
      cases gk with
      | zero => exact absurd HA.out (by simp [trishawlaw03_same.l0])
      | succ k1 =>
        have H := HA.out
        clear HA
        simp only [trishawlaw03_same.l0] at H
        by_cases c4 : x5_1 < (l0.length : Int)
        · rw [if_pos c4] at H
          have c4b0 : decide (x5_1 < (l0.length : Int)) = true := decide_eq_true c4
          clear c4
          by_cases c5 : 0 ≤ x5_1
          · rw [if_pos c5] at H
            have c5b0 : decide (0 ≤ x5_1) = true := decide_eq_true c5
            clear c5
            by_cases c6 : x5_1 < (l1.length : Int)
            · rw [if_pos c6] at H
              have c6b0 : decide (x5_1 < (l1.length : Int)) = true := decide_eq_true c6
              clear c6
              by_cases c7 : (rd l0 x5_1) = (rd l1 x5_1)
              · rw [if_pos c7] at H
                have c7b0 : ((rd l0 x5_1) == (rd l1 x5_1)) = true := beq_iff_eq.mpr c7
                have c7b1 : ((rd l0 x5_1) != (rd l1 x5_1)) = false := bne_eq_false_iff_eq.mpr c7
                clear c7
                have H' := Aside0.mk H
                clear H
                have p119 : 0 ≤ (x5_1 : Int) := of_decide_eq_true (by first | (with_reducible assumption) | assumption)
                have q119 : x5_1 < (l0.length : Int) := of_decide_eq_true (by first | (with_reducible assumption) | assumption)
                obtain ⟨ad119, e119, hx119_0⟩ := Kd.at_int HR0.out x5_1 p119 q119
                cases e119
                replace p119 := eq_true p119
                replace q119 := eq_true q119
                have p120 : 0 ≤ (x5_1 : Int) := of_decide_eq_true (by first | (with_reducible assumption) | assumption)
                have q120 : x5_1 < (l1.length : Int) := of_decide_eq_true (by first | (with_reducible assumption) | assumption)
                obtain ⟨ad120, e120, hx120_0⟩ := Kd.at_int HR1.out x5_1 p120 q120
                cases e120
                replace p120 := eq_true p120
                replace q120 := eq_true q120
                go_wp2
                repeat (go_quiet (fail); try go_wp2)
                go_roundg k1
                case measure => have := HK1.out; omega
                case rel => exact ⟨(wrap64 (x5_1 + 1)), (by first | rfl | (simp; done) | (simp [*]; done)), H', ⟨by have := HK1.out; omega⟩, by repeat (first | exact Drawn0.refl _ | apply Drawn0.step)⟩
              · rw [if_neg c7] at H
                have c7b0 : ((rd l0 x5_1) == (rd l1 x5_1)) = false := beq_eq_false_iff_ne.mpr c7
                have c7b1 : ((rd l0 x5_1) != (rd l1 x5_1)) = true := bne_iff_ne.mpr c7
                obtain rfl := Option.some.inj H
                have p119 : 0 ≤ (x5_1 : Int) := of_decide_eq_true (by first | (with_reducible assumption) | assumption)
                have q119 : x5_1 < (l0.length : Int) := of_decide_eq_true (by first | (with_reducible assumption) | assumption)
                obtain ⟨ad119, e119, hx119_0⟩ := Kd.at_int HR0.out x5_1 p119 q119
                cases e119
                replace p119 := eq_true p119
                replace q119 := eq_true q119
                have p120 : 0 ≤ (x5_1 : Int) := of_decide_eq_true (by first | (with_reducible assumption) | assumption)
                have q120 : x5_1 < (l1.length : Int) := of_decide_eq_true (by first | (with_reducible assumption) | assumption)
                obtain ⟨ad120, e120, hx120_0⟩ := Kd.at_int HR1.out x5_1 p120 q120
                cases e120
                replace p120 := eq_true p120
                replace q120 := eq_true q120
                go_wp2
                repeat (go_quiet (fail); try go_wp2)
                go_ret
                exact ⟨by first | rfl | (simp; done) | (simp [*]; done), by repeat (first | exact Drawn0.refl _ | apply Drawn0.step)⟩
            · rw [if_neg c6] at H
              exact absurd H (by simp)
          · rw [if_neg c5] at H
            exact absurd H (by simp)
        · rw [if_neg c4] at H
          have c4b0 : decide (x5_1 < (l0.length : Int)) = false := decide_eq_false c4
          clear c4
          obtain rfl := Option.some.inj H
          go_wp2
          repeat (go_quiet (fail); try go_wp2)
          go_ret
          exact ⟨by first | rfl | (simp; done) | (simp [*]; done), by repeat (first | exact Drawn0.refl _ | apply Drawn0.step)⟩
  · rw [if_neg c3] at H
    have c3b0 : ((l0.length : Int) == (l1.length : Int)) = false := beq_eq_false_iff_ne.mpr c3
    have c3b1 : ((l0.length : Int) != (l1.length : Int)) = true := bne_iff_ne.mpr c3
    have c3b2 : (l0.length == l1.length) = false := by first | simpa using c3 | (simp at c3 ⊢; omega)
    obtain rfl := Option.some.inj H
    go_enter Try.func25, Try.ntmps25
    go_wp2
    repeat (go_quiet (fail); try go_wp2)
    go_ret
    exact ⟨by first | rfl | (simp; done) | (simp [*]; done), by repeat (first | exact Drawn0.refl _ | apply Drawn0.step)⟩
end Go.Proofs.Ytpmadffgdfholaa.B
namespace Go.Proofs.Ytpmadffgdfholaa.B
open Go.RowKit Go.Proofs.YtpmadffgdfholaaW.PrintWords Go.Proofs.YtpmadffgdfholaaW.PrintLast Go.Proofs.YtpmadffgdfholaaW.PrintMore
attribute [local go_sem] max2_int min2_int max_two min_two max_three min_three max_four min_four   -- for this text's walks alone
set_option linter.unusedVariables false
set_option linter.unusedSimpArgs false
mutual
def trishawref03_IsBranching.l0 : Nat → Int → List (S30) → List Int → Int → Int → Option (Bool)
  | 0, _, _, _, _, _ => none
  | k + 1, x0, x1, x2, x7, x8 => if x8 < (x2.length : Int) then (if 0 ≤ x8 then (if (rd x2 x8) < 0 then (trishawref03_IsBranching.j1 k x0 x1 x2 x7 x8 true) else (if (rd x2 x8) ≥ (x1.length : Int) then (trishawref03_IsBranching.j1 k x0 x1 x2 x7 x8 true) else (if x8 > 0 then (if 0 ≤ (wrap64 (x8 - 1)) then (if (wrap64 (x8 - 1)) < (x2.length : Int) then (if (rd x2 x8) ≤ (rd x2 (wrap64 (x8 - 1))) then (trishawref03_IsBranching.j1 k x0 x1 x2 x7 x8 true) else (if 0 ≤ (rd x2 x8) then (if (rd x2 x8) < (x1.length : Int) then (if 0 ≤ ((rd_T30 x1 (rd x2 x8)).f1) then (trishawref03_IsBranching.j1 k x0 x1 x2 x7 x8 ((Int.tmod (shr .i64 x7 ((rd_T30 x1 (rd x2 x8)).f1)) 2) == 1)) else (none)) else (none)) else (none))) else (none)) else (none)) else (if 0 ≤ (rd x2 x8) then (if (rd x2 x8) < (x1.length : Int) then (if 0 ≤ ((rd_T30 x1 (rd x2 x8)).f1) then (trishawref03_IsBranching.j1 k x0 x1 x2 x7 x8 ((Int.tmod (shr .i64 x7 ((rd_T30 x1 (rd x2 x8)).f1)) 2) == 1)) else (none)) else (none)) else (none))))) else (none)) else ((trishawref03_reached.f k x1 x2).bind fun t148 => (if 0 ≤ x0 then (some (t148 == (wrap64 ((shl .i64 1 x0) - 1)))) else (none)))
def trishawref03_IsBranching.j1 : Nat → Int → List (S30) → List Int → Int → Int → Bool → Option (Bool)
  | 0, _, _, _, _, _, _ => none
  | k + 1, x0, x1, x2, x7, x8, x63 => if x63 = true then (some false) else (if 0 ≤ x8 then (if x8 < (x2.length : Int) then (if 0 ≤ (rd x2 x8) then (if (rd x2 x8) < (x1.length : Int) then (if 0 ≤ ((rd_T30 x1 (rd x2 x8)).f1) then (trishawref03_IsBranching.l0 k x0 x1 x2 (wrap64 (x7 + (shl .i64 1 ((rd_T30 x1 (rd x2 x8)).f1)))) (wrap64 (x8 + 1))) else (none)) else (none)) else (none)) else (none)) else (none))
end
def trishawref03_IsBranching.f (k : Nat) (a0 : Int) (l1 : List (S30)) (l2 : List Int) : Option (Bool) := if (l2.length : Int) = (wrap64 (a0 - 1)) then (trishawref03_IsBranching.l0 k a0 l1 l2 1 0) else (some false)
end Go.Proofs.Ytpmadffgdfholaa.B
namespace Go.Proofs.Ytpmadffgdfholaa.B
open Go.RowKit Go.Proofs.YtpmadffgdfholaaW.PrintWords Go.Proofs.YtpmadffgdfholaaW.PrintLast Go.Proofs.YtpmadffgdfholaaW.PrintMore
attribute [local go_sem] max2_int min2_int max_two min_two max_three min_three max_four min_four   -- for this text's walks alone
set_option linter.unusedVariables false
set_option linter.unusedSimpArgs false
def trishawref03_cost.l0 : Nat → List (S30) → List Int → Int → Int → Option (Int)
  | 0, _, _, _, _ => none
  | k + 1, x0, x1, x5, x6 => if x6 < (x1.length : Int) then (if 0 ≤ x6 then (if 0 ≤ (rd x1 x6) then (if (rd x1 x6) < (x0.length : Int) then (trishawref03_cost.l0 k x0 x1 (wrap64 (x5 + ((rd_T30 x0 (rd x1 x6)).f2))) (wrap64 (x6 + 1))) else (none)) else (none)) else (none)) else (some x5)
def trishawref03_cost.f (k : Nat) (l0 : List (S30)) (l1 : List Int) : Option (Int) := trishawref03_cost.l0 k l0 l1 0 0
def trishawref03_Is.f (k : Nat) (a0 : Int) (l1 : List (S30)) (l2 : List Int) : Option (Int × Bool × Int) := (trishawref03_Town.f k a0 l1).bind fun t161 => (if t161 = 0 then ((trishawref03_IsBranching.f k a0 l1 l2).bind fun t162 => (if t162 = true then ((trishawref03_cost.f k l1 l2).bind fun t163 => (some (t163, true, 0))) else (some (0, false, 0)))) else (some (0, false, t161)))
end Go.Proofs.Ytpmadffgdfholaa.B
