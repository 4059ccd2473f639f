/- Texts behind the row of BranchFinds, part 2: contracts of the functions it reaches, words that their walks use, and lemmas in plain Lean. -/
import Derived.Below
import Derived.Deep.Draws
import Derived.Deep.AppendLies
import Derived.Maps.AppendAt
import Derived.OwnWalk
import Derived.Laws.BytesArg
import Derived.Laws.MakeOwn
import Derived.Laws.OwnMore
import Derived.Deep.OwnRows
import Derived.Tactics
import Derived.Lib.ConvBytes
import Derived.Laws.Slices
import Derived.WalkKit
import Derived.KernelRfl
import Derived.RowKit3
import Derived.Deep.LoopGhost
import Derived.Deep.QuietTactic
import Derived.BigQuiet
import Derived.WideLaws
import Derived.Deep.DeepCutAuto
import Derived.Deep.CutBlock
import Derived.Deep.RegionHeld3
import Derived.Laws.Rows
import Derived.Lib.AppendStr
import Derived.ArgAppend
import Derived.Laws.IdiomCopy
import Derived.RowKit
import Derived.OrdersHeld
import Derived.Laws.BitsLemmas
import Derived.Test.YtpmadffgdfholaaProg
import Derived.Laws.StructEq
import Derived.WalkSpells
import Derived.MapKept
import Derived.Deep.DrawnRows
import Derived.Test.YtpmadffgdfholaaK1
namespace Go.Proofs.Ytpmadffgdfholaa.B
open Go.RowKit Go.Proofs.YtpmadffgdfholaaW.PrintWords Go.Proofs.YtpmadffgdfholaaW.PrintLast Go.Proofs.YtpmadffgdfholaaW.PrintMore
attribute [local go_sem] max2_int min2_int max_two min_two max_three min_three max_four min_four   -- for this text's walks alone
set_option linter.unusedVariables false
set_option linter.unusedSimpArgs false
mutual
def branch_determinant.l0 : Nat → List (List Int) → Int → Int → List Int → Int → Int → Option (Int)
  | 0, _, _, _, _, _, _ => none
  | k + 1, x0, x3, x4, x15, x16, x17 => if x17 < x16 then (if 0 ≤ x17 then (if x17 < (x15.length : Int) then (if (rd x15 x17) = 0 then (branch_determinant.l0 k x0 x3 (wrap64 (-x4)) x15 x16 (wrap64 (x17 + 1))) else (if 1 ≤ (x0.length : Int) then ((some (x0.drop 1 : List (List Int))).bind fun y103 => (branch_determinant.l1 k x0 x3 x4 x17 (rd x15 x17) ([] : List (List Int)) x15 x16 x17 y103 (y103.length : Int) 0)) else (none))) else (none)) else (none)) else (some x3)
def branch_determinant.l1 : Nat → List (List Int) → Int → Int → Int → Int → List (List Int) → List Int → Int → Int → List (List Int) → Int → Int → Option (Int)
  | 0, _, _, _, _, _, _, _, _, _, _, _, _ => none
  | k + 1, x0, x3, x4, x5, x6, x7, x15, x16, x17, x25, x26, x27 => if x27 < x26 then (if 0 ≤ x27 then (if x27 < (x25.length : Int) then (if 0 ≤ x5 then (if x5 ≤ ((rd_L12 x25 x27).length : Int) then ((slices_Clone.f ((rd_L12 x25 x27).take (x5 : Int).toNat)).bind fun t109 => (if 0 ≤ (wrap64 (x5 + 1)) then (if (wrap64 (x5 + 1)) ≤ ((rd_L12 x25 x27).length : Int) then (if t109.length + ((rd_L12 x25 x27).drop ((wrap64 (x5 + 1)) : Int).toNat).length < 17592186044416 then (if x7.length < 5864062014805 then (branch_determinant.l1 k x0 x3 x4 x5 x6 (x7 ++ [(t109 ++ ((rd_L12 x25 x27).drop ((wrap64 (x5 + 1)) : Int).toNat))]) x15 x16 x17 x25 x26 (wrap64 (x27 + 1))) else (none)) else (none)) else (none)) else (none))) else (none)) else (none)) else (none)) else (none)) else ((branch_determinant.f k x7).bind fun t119 => (branch_determinant.l0 k x0 (wrap64 (x3 + (wrap64 ((wrap64 (x4 * x6)) * t119)))) (wrap64 (-x4)) x15 x16 (wrap64 (x17 + 1))))
def branch_determinant.f : Nat → List (List Int) → Option (Int)
  | 0, _ => none
  | k + 1, l0 => if (l0.length : Int) = 0 then (some 1) else (if 0 < (l0.length : Int) then (branch_determinant.l0 k l0 0 1 (rd_L12 l0 0) ((rd_L12 l0 0).length : Int) 0) else (none))
end
theorem branch_determinant.mono_l : ∀ k, (∀ y0, LeO (branch_determinant.f k y0) (branch_determinant.f (k + 1) y0)) ∧ (∀ y0 y1 y2 y3 y4 y5, LeO (branch_determinant.l0 k y0 y1 y2 y3 y4 y5) (branch_determinant.l0 (k + 1) y0 y1 y2 y3 y4 y5)) ∧ (∀ y0 y1 y2 y3 y4 y5 y6 y7 y8 y9 y10 y11, LeO (branch_determinant.l1 k y0 y1 y2 y3 y4 y5 y6 y7 y8 y9 y10 y11) (branch_determinant.l1 (k + 1) y0 y1 y2 y3 y4 y5 y6 y7 y8 y9 y10 y11))
  | 0 => ⟨fun _ r h => by simp [branch_determinant.f] at h, fun _ _ _ _ _ _ r h => by simp [branch_determinant.l0] at h, fun _ _ _ _ _ _ _ _ _ _ _ _ r h => by simp [branch_determinant.l1] at h⟩
  | k + 1 => by
    obtain ⟨ih0, ih1, ih2⟩ := branch_determinant.mono_l k
    refine ⟨?_, ?_, ?_⟩
    · intro y0
      unfold branch_determinant.f
      repeat' first
      | (with_reducible exact ih0 _)
      | (with_reducible exact ih1 _ _ _ _ _ _)
      | (with_reducible exact ih2 _ _ _ _ _ _ _ _ _ _ _ _)
      | (with_reducible exact LeO.refl _)
      | (with_reducible exact LeO.none _)
      | (with_reducible refine LeO.ite ?_ ?_)
      | (with_reducible refine LeO.bind ?_ (fun _ => ?_))
      | exact ih0 _
      | exact ih1 _ _ _ _ _ _
      | exact ih2 _ _ _ _ _ _ _ _ _ _ _ _
      | exact LeO.none _
      | refine LeO.ite ?_ ?_
      | refine LeO.bind ?_ (fun _ => ?_)
    · intro y0 y1 y2 y3 y4 y5
      unfold branch_determinant.l0
      repeat' first
      | (with_reducible exact ih0 _)
      | (with_reducible exact ih1 _ _ _ _ _ _)
      | (with_reducible exact ih2 _ _ _ _ _ _ _ _ _ _ _ _)
      | (with_reducible exact LeO.refl _)
      | (with_reducible exact LeO.none _)
      | (with_reducible refine LeO.ite ?_ ?_)
      | (with_reducible refine LeO.bind ?_ (fun _ => ?_))
      | exact ih0 _
      | exact ih1 _ _ _ _ _ _
      | exact ih2 _ _ _ _ _ _ _ _ _ _ _ _
      | exact LeO.none _
      | refine LeO.ite ?_ ?_
      | refine LeO.bind ?_ (fun _ => ?_)
    · intro y0 y1 y2 y3 y4 y5 y6 y7 y8 y9 y10 y11
      unfold branch_determinant.l1
      repeat' first
      | (with_reducible exact ih0 _)
      | (with_reducible exact ih1 _ _ _ _ _ _)
      | (with_reducible exact ih2 _ _ _ _ _ _ _ _ _ _ _ _)
      | (with_reducible exact LeO.refl _)
      | (with_reducible exact LeO.none _)
      | (with_reducible refine LeO.ite ?_ ?_)
      | (with_reducible refine LeO.bind ?_ (fun _ => ?_))
      | exact ih0 _
      | exact ih1 _ _ _ _ _ _
      | exact ih2 _ _ _ _ _ _ _ _ _ _ _ _
      | exact LeO.none _
      | refine LeO.ite ?_ ?_
      | refine LeO.bind ?_ (fun _ => ?_)
theorem branch_determinant.mono : ∀ a0 k, LeO (branch_determinant.f k a0) (branch_determinant.f (k + 1) a0) := by
  intro a0 k
  obtain ⟨ih0, ih1, ih2⟩ := branch_determinant.mono_l k
  exact ih0 a0
def branch_determinant.T12 : Bool × List (List Nat × List Nat) := (true, [([], []), ([], []), ([], []), ([1, 2], [1, 2]), ([3], [3]), ([], []), ([], []), ([6], [6]), ([5, 7], [5, 7]), ([4, 8, 4], [4, 8]), ([9], [9]), ([0, 10, 9], [0, 10]), ([11, 11, 0, 1, 2, 3, 4, 5, 6, 7, 8, 9, 10, 11], [0, 11])])
def branch_determinant.B12 : List Nat := [0, 0, 0, 6, 14, 0, 0, 64, 224, 510, 1022, 2047, 4095]
theorem branch_determinant.tab12 : rtab .any (opsOf Try.f45 12) = branch_determinant.T12 := by kernel_rfl
theorem branch_determinant.bits12 : waitsOk branch_determinant.T12.2 branch_determinant.B12 = true := by kernel_rfl
set_option maxHeartbeats 8000000 in
set_option maxRecDepth 100000 in
theorem branch_determinant.calls (k : Nat) : ∀ (A0 : Option Addr) (c0 : Nat) (l0 : List (List Int)) (r : Int) (w : World) (hr0 : Kd.C (Kd.slice 3 (Kd.int .i64)) w A0 l0.length l0) (hc0 : l0.length ≤ c0) (h : branch_determinant.f k l0 = some r),
    Calls Try.prog 45 #[.slice A0 l0.length c0] w fun e w' => e = .returned (.int .i64 r) ∧ Below w.heap.size w w' := by
  induction k using Nat.strongRecOn with
  | _ k ih =>
  intro A0 c0 l0 r w hr0 hc0 h
  cases k with
  | zero => exact absurd h (by simp [branch_determinant.f])
  | succ k =>
  simp only [branch_determinant.f] at h
  have HR0 := Aside0.mk hr0
  have HC0 := Aside0.mk hc0
  clear hr0 hc0
  have HB := Aside0.mk (Below.refl w.heap.size w)
  have H : (if (l0.length : Int) = 0 then (some 1) else (if 0 < (l0.length : Int) then (branch_determinant.l0 k l0 0 1 (rd_L12 l0 0) ((rd_L12 l0 0).length : Int) 0) else (none))) = some r := h
  clear h
  by_cases c2 : (l0.length : Int) = 0
  · rw [if_pos c2] at H
    have c2b0 : ((l0.length : Int) == 0) = true := beq_iff_eq.mpr c2
    have c2b1 : ((l0.length : Int) != 0) = false := bne_eq_false_iff_eq.mpr c2
    clear c2
    obtain rfl := Option.some.inj H
    go_enter Try.func45, Try.ntmps45
    go_wp2
    go_ret
    exact ⟨by first | rfl | (simp [errW_none, errW_some] <;> rfl) | (simp [*, errW_none, errW_some] <;> rfl), by repeat (first | (with_reducible first | exact HB.out | apply below_alloc | apply pw_below_drewN | apply below_drew1) | exact HB.out)⟩
  · rw [if_neg c2] at H
    have c2b0 : ((l0.length : Int) == 0) = false := beq_eq_false_iff_ne.mpr c2
    have c2b1 : ((l0.length : Int) != 0) = true := bne_iff_ne.mpr c2
    have c2b2 : ¬ (l0 = []) := fun h_ => c2 (by rw [h_]; rfl)
    by_cases c3 : 0 < (l0.length : Int)
    · rw [if_pos c3] at H
      have c3b0 : decide (0 < (l0.length : Int)) = true := decide_eq_true c3
      have c3b1 : decide (0 < l0.length) = true := decide_eq_true (by omega)
      clear c3
      have H' := Aside0.mk H
      clear H
      have p101 : 0 ≤ (0 : Int) := (by omega)
      have q101 : 0 < (l0.length : Int) := of_decide_eq_true (by first | (with_reducible assumption) | assumption)
      obtain ⟨ad101, A101_0, c101_0, e101, hx101_0, hl101_0, hi101_0⟩ := at_L12 HR0.out 0 p101 q101
      cases e101
      have qi101 : (0 < l0.length) = True := eq_true (by omega)
      (try rw [show ((0 : Int)).toNat = 0 from rfl] at hx101_0)
      (try rw [Addr.add_zero'] at hx101_0)
      have HR101_0 := Aside0.mk hi101_0
      have HC101_0 := Aside0.mk hl101_0
      clear hi101_0 hl101_0
      replace p101 := eq_true p101
      replace q101 := eq_true q101
      go_enter Try.func45, Try.ntmps45
      go_wp2
      go_loopg [3, 4, 17] k (fun kq v3 v4 v17 w' => ∃ (x3_1 : Int) (x4_1 : Int) (x17_1 : Int), v3 = .int .i64 x3_1 ∧ v4 = .int .i64 x4_1 ∧ v17 = .int .i64 x17_1 ∧ Aside0 (branch_determinant.l0 kq l0 x3_1 x4_1 (rd_L12 l0 0) ((rd_L12 l0 0).length : Int) x17_1 = some r) ∧ Aside0 (kq ≤ k) ∧ Aside0 (Below w.heap.size w w'))
      case atStart => exact ⟨(0), (1), (0), (by first | rfl | (simp; done) | (simp [*]; done)), (by first | rfl | (simp; done) | (simp [*]; done)), (by first | rfl | (simp; done) | (simp [*]; done)), H', ⟨Nat.le_refl _⟩, ⟨by repeat (first | (with_reducible first | exact HB.out | apply below_alloc | apply pw_below_drewN | apply below_drew1) | exact HB.out)⟩⟩
      case round =>
        clear H'
        try clear c1
        try clear p1
        try clear q1
        try clear hx1
        try clear qi1
        try clear c2
        try clear c2b0
        try clear c2b1
        try clear c2b2
        try clear p2
        try clear c3
        try clear c3b0
        try clear c3b1
        try clear hx101_0
        try clear p101
        try clear q101
        obtain ⟨x3_1, x4_1, x17_1, rfl, rfl, rfl, HA, HK1, HB⟩ := hrel
        cases gk with
        | zero => exact absurd HA.out (by simp [branch_determinant.l0])
        | succ k1 =>
          have H := HA.out
          clear HA
          simp only [branch_determinant.l0] at H
          by_cases c4 : x17_1 < ((rd_L12 l0 0).length : Int)
          · rw [if_pos c4] at H
            have c4b0 : decide (x17_1 < ((rd_L12 l0 0).length : Int)) = true := decide_eq_true c4
            clear c4
            by_cases c5 : 0 ≤ x17_1
            · rw [if_pos c5] at H
              have c5b0 : decide (0 ≤ x17_1) = true := decide_eq_true c5
              clear c5
              by_cases c6 : x17_1 < ((rd_L12 l0 0).length : Int)
              · rw [if_pos c6] at H
                have c6b0 : decide (x17_1 < ((rd_L12 l0 0).length : Int)) = true := decide_eq_true c6
                clear c6
                by_cases c7 : (rd (rd_L12 l0 0) x17_1) = 0
                · rw [if_pos c7] at H
                  have c7b0 : ((rd (rd_L12 l0 0) x17_1) == 0) = true := beq_iff_eq.mpr c7
                  have c7b1 : ((rd (rd_L12 l0 0) x17_1) != 0) = false := bne_eq_false_iff_eq.mpr c7
                  clear c7
                  have H' := Aside0.mk H
                  clear H
                  have p102 : 0 ≤ (x17_1 : Int) := of_decide_eq_true (by first | (with_reducible assumption) | assumption)
                  have q102 : x17_1 < ((rd_L12 l0 0).length : Int) := of_decide_eq_true (by first | (with_reducible assumption) | assumption)
                  obtain ⟨ad102, e102, hx102_0⟩ := Kd.at_int HR101_0.out x17_1 p102 q102
                  cases e102
                  replace hx102_0 := (HB.out.cell (World.block_lt_of_cell? w _ hx102_0)).trans hx102_0
                  replace p102 := eq_true p102
                  replace q102 := eq_true q102
                  go_wp2
                  go_roundg k1
                  case measure => have := HK1.out; omega
                  case rel => exact ⟨(x3_1), (wrap64 (-x4_1)), (wrap64 (x17_1 + 1)), (by first | rfl | (simp; done) | (simp [*]; done)), (by first | rfl | (simp; done) | (simp [*]; done)), (by first | rfl | (simp; done) | (simp [*]; done)), H', ⟨by have := HK1.out; omega⟩, ⟨by repeat (first | (with_reducible first | exact HB.out | apply below_alloc | apply pw_below_drewN | apply below_drew1) | exact HB.out)⟩⟩
                · rw [if_neg c7] at H
                  have c7b0 : ((rd (rd_L12 l0 0) x17_1) == 0) = false := beq_eq_false_iff_ne.mpr c7
                  have c7b1 : ((rd (rd_L12 l0 0) x17_1) != 0) = true := bne_iff_ne.mpr c7
                  by_cases c8 : 1 ≤ (l0.length : Int)
                  · rw [if_pos c8] at H
                    have c8b0 := eq_true c8
                    have c8b1 : decide (1 ≤ (l0.length : Int)) = true := decide_eq_true c8
                    clear c8
                    obtain ⟨y103, hy103⟩ : ∃ y_ : List (List Int), y_ = (l0.drop 1) := ⟨_, rfl⟩
                    replace H : (branch_determinant.l1 k1 l0 x3_1 x4_1 x17_1 (rd (rd_L12 l0 0) x17_1) ([] : List (List Int)) (rd_L12 l0 0) ((rd_L12 l0 0).length : Int) x17_1 y103 (y103.length : Int) 0) = some r := by first | (rw [hy103]; with_reducible exact H) | (have H2_ := (Option.bind_some _ _).symm.trans H; rw [hy103]; with_reducible exact H2_) | (have H2_ := (Option.bind_some _ _).symm.trans H; with_reducible exact H2_) | with_reducible exact H | (rw [hy103]; exact H) | exact H
                    have Ny103 := Aside0.mk hy103
                    clear hy103
                    have H' := Aside0.mk H
                    clear H
                    have p102 : 0 ≤ (x17_1 : Int) := of_decide_eq_true (by first | (with_reducible assumption) | assumption)
                    have q102 : x17_1 < ((rd_L12 l0 0).length : Int) := of_decide_eq_true (by first | (with_reducible assumption) | assumption)
                    obtain ⟨ad102, e102, hx102_0⟩ := Kd.at_int HR101_0.out x17_1 p102 q102
                    cases e102
                    replace hx102_0 := (HB.out.cell (World.block_lt_of_cell? w _ hx102_0)).trans hx102_0
                    replace p102 := eq_true p102
                    replace q102 := eq_true q102
                    have q9 : (1 : Int) ≤ ((l0.length : Int) : Int) := of_decide_eq_true (by first | (with_reducible assumption) | assumption)
                    obtain ⟨i09, hi09, _, hsz9, _⟩ := info_parts info28
                    have hroom9 : l0.length ≤ c0 := HC0.out
                    have hC9 : Kd.C (Kd.slice 3 (Kd.int .i64)) _ (some ad101) l0.length l0 := HR0.out
                    have hcut9 := cut_from (P := Try.prog) 27 28 .i64 Try.underlying27 hi09 1 hsz9 (some ad101) l0.length c0 1 (by omega) q9
                    have hr9 := Kd.C_drop (m := (1 : Int).toNat) (c := c0) hC9 (by omega) hroom9
                    obtain ⟨A9, hA9⟩ : ∃ A1, A1 = (if c0 = (1 : Int).toNat then (some ad101) else ((some ad101) : Option Addr).map (·.add ((1 : Int).toNat * 1))) := ⟨_, rfl⟩
                    obtain ⟨c9, hc9⟩ : ∃ c1, c1 = c0 - (1 : Int).toNat := ⟨_, rfl⟩
                    have hy9 : y103.length = l0.length - (1 : Int).toNat := (by rw [Ny103.out, List.length_drop] <;> omega)
                    rw [show (l0).drop (1 : Int).toNat = y103 from Ny103.out.symm] at hr9
                    replace hr9 : Kd.C (Kd.slice 3 (Kd.int .i64)) _ A9 y103.length y103 := (by rw [hA9]; exact hr9)
                    rw [← hy9, ← hA9, ← hc9] at hcut9
                    have HR106 := Aside0.mk hr9
                    have HC106 := Aside0.mk (show y103.length ≤ c9 from by rw [hy9, hc9]; exact Nat.sub_le_sub_right hroom9 _)
                    clear hr9 hC9 hroom9 hi09 hsz9 hc9
                    have KY9 := Aside0.mk hy9
                    have KA9 := Aside0.mk hA9
                    clear hy9 hA9
                    replace q9 := eq_true q9
                    go_wp2
                    go_loopg [7, 27] k1 (fun kq v7 v27 w' => ∃ (x7_2 : List (List Int)) (x27_2 : Int), v27 = .int .i64 x27_2 ∧ Aside0 (branch_determinant.l1 kq l0 x3_1 x4_1 x17_1 (rd (rd_L12 l0 0) x17_1) x7_2 (rd_L12 l0 0) ((rd_L12 l0 0).length : Int) x17_1 y103 (y103.length : Int) x27_2 = some r) ∧ Aside0 (kq ≤ k1) ∧ Aside0 (Kd.S (Kd.slice 3 (Kd.int .i64)) 28 w' w.heap.size (fun _ => True) v7 x7_2) ∧ Aside0 (Below w.heap.size w w'))
                    case atStart => exact ⟨(([] : List (List Int))), (0), (by first | rfl | (simp; done) | (simp [*]; done)), H', ⟨Nat.le_refl _⟩, ⟨by first | exact Kd.S_nil _ _ _ _ _ | exact Kd.N_nil _ _ _ _ _ | exact Kd.V_nil _ _ _ _ _ | exact Kd.Q_nil _ _ _ _ _ | exact Kd.R_nil _ _ _ _ _⟩, ⟨by repeat (first | (with_reducible first | exact HB.out | apply below_alloc | apply pw_below_drewN | apply below_drew1) | exact HB.out)⟩⟩
                    case round =>
                      clear H'
                      try clear c1
                      try clear p1
                      try clear q1
                      try clear hx1
                      try clear qi1
                      try clear c2
                      try clear c2b0
                      try clear c2b1
                      try clear c2b2
                      try clear p2
                      try clear c3
                      try clear c3b0
                      try clear c3b1
                      try clear c4
                      try clear c4b0
                      try clear c5
                      try clear c5b0
                      try clear c6
                      try clear c6b0
                      try clear p6
                      try clear c7
                      try clear c7b0
                      try clear c7b1
                      try clear c8
                      try clear c8b0
                      try clear c8b1
                      try clear c9
                      try clear q9
                      try clear hx101_0
                      try clear hx102_0
                      try clear p1
                      try clear p101
                      try clear p102
                      try clear p2
                      try clear q1
                      try clear q101
                      try clear q102
                      try clear q9
                      obtain ⟨x7_2, x27_2, rfl, HA, HK2, HO_7, HB⟩ := hrel
                      cases gk with
                      | zero => exact absurd HA.out (by simp [branch_determinant.l1])
                      | succ k2 =>
                        have H := HA.out
                        clear HA
                        simp only [branch_determinant.l1] at H
                        by_cases c10 : x27_2 < (y103.length : Int)
                        · rw [if_pos c10] at H
                          have c10b0 : decide (x27_2 < (y103.length : Int)) = true := decide_eq_true c10
                          clear c10
                          by_cases c11 : 0 ≤ x27_2
                          · rw [if_pos c11] at H
                            have c11b0 : decide (0 ≤ x27_2) = true := decide_eq_true c11
                            clear c11
                            by_cases c12 : x27_2 < (y103.length : Int)
                            · rw [if_pos c12] at H
                              have c12b0 : decide (x27_2 < (y103.length : Int)) = true := decide_eq_true c12
                              clear c12
                              by_cases c13 : 0 ≤ x17_1
                              · rw [if_pos c13] at H
                                have c13b0 := eq_true c13
                                have c13b1 : decide (0 ≤ x17_1) = true := decide_eq_true c13
                                clear c13
                                by_cases c14 : x17_1 ≤ ((rd_L12 y103 x27_2).length : Int)
                                · rw [if_pos c14] at H
                                  have c14b0 := eq_true c14
                                  have c14b1 : decide (x17_1 ≤ ((rd_L12 y103 x27_2).length : Int)) = true := decide_eq_true c14
                                  clear c14
                                  replace H := Option.bind_eq_some_iff.mp H
                                  obtain ⟨t109, A150, H⟩ := H
                                  replace H : (if 0 ≤ (wrap64 (x17_1 + 1)) then (if (wrap64 (x17_1 + 1)) ≤ ((rd_L12 y103 x27_2).length : Int) then (if t109.length + ((rd_L12 y103 x27_2).drop ((wrap64 (x17_1 + 1)) : Int).toNat).length < 17592186044416 then (if x7_2.length < 5864062014805 then (branch_determinant.l1 k2 l0 x3_1 x4_1 x17_1 (rd (rd_L12 l0 0) x17_1) (x7_2 ++ [(t109 ++ ((rd_L12 y103 x27_2).drop ((wrap64 (x17_1 + 1)) : Int).toNat))]) (rd_L12 l0 0) ((rd_L12 l0 0).length : Int) x17_1 y103 (y103.length : Int) (wrap64 (x27_2 + 1))) else (none)) else (none)) else (none)) else (none)) = some r := H
                                  have A15 := Aside0.mk A150
                                  clear A150
                                  obtain ⟨ji16, hji16⟩ : ∃ j_ : Int, (wrap64 (x17_1 + 1)) = j_ := ⟨_, rfl⟩
                                  replace H : (if 0 ≤ (ji16) then (if (ji16) ≤ ((rd_L12 y103 x27_2).length : Int) then (if t109.length + ((rd_L12 y103 x27_2).drop ((ji16) : Int).toNat).length < 17592186044416 then (if x7_2.length < 5864062014805 then (branch_determinant.l1 k2 l0 x3_1 x4_1 x17_1 (rd (rd_L12 l0 0) x17_1) (x7_2 ++ [(t109 ++ ((rd_L12 y103 x27_2).drop ((ji16) : Int).toNat))]) (rd_L12 l0 0) ((rd_L12 l0 0).length : Int) x17_1 y103 (y103.length : Int) (wrap64 (x27_2 + 1))) else (none)) else (none)) else (none)) else (none)) = some r := by first | (rw [hji16] at H; exact H) | (simp only [hji16] at H ⊢; exact H)
                                  (try rw [hji16] at A15)
                                  have hji16w : (IntKind.i64.wrap (x17_1 + 1)) = ji16 := (i64_w _).trans hji16
                                  by_cases c17 : 0 ≤ (ji16)
                                  · rw [if_pos c17] at H
                                    have c17b0 := eq_true c17
                                    have c17b1 : decide (0 ≤ (ji16)) = true := decide_eq_true c17
                                    clear c17
                                    by_cases c18 : (ji16) ≤ ((rd_L12 y103 x27_2).length : Int)
                                    · rw [if_pos c18] at H
                                      have c18b0 := eq_true c18
                                      have c18b1 : decide ((ji16) ≤ ((rd_L12 y103 x27_2).length : Int)) = true := decide_eq_true c18
                                      clear c18
                                      by_cases c19 : t109.length + ((rd_L12 y103 x27_2).drop ((ji16) : Int).toNat).length < 17592186044416
                                      · rw [if_pos c19] at H
                                        have LMc19 := Aside0.mk c19
                                        clear c19
                                        obtain ⟨y113, hy113⟩ : ∃ y_ : List Int, y_ = (t109 ++ ((rd_L12 y103 x27_2).drop ((ji16) : Int).toNat)) := ⟨_, rfl⟩
                                        replace H : (if x7_2.length < 5864062014805 then (branch_determinant.l1 k2 l0 x3_1 x4_1 x17_1 (rd (rd_L12 l0 0) x17_1) (x7_2 ++ [y113]) (rd_L12 l0 0) ((rd_L12 l0 0).length : Int) x17_1 y103 (y103.length : Int) (wrap64 (x27_2 + 1))) else (none)) = some r := by first | (rw [hy113]; with_reducible exact H) | (have H2_ := (Option.bind_some _ _).symm.trans H; rw [hy113]; with_reducible exact H2_) | (have H2_ := (Option.bind_some _ _).symm.trans H; with_reducible exact H2_) | with_reducible exact H | (rw [hy113]; exact H) | exact H
                                        have Ny113 := Aside0.mk hy113
                                        clear hy113
                                        by_cases c20 : x7_2.length < 5864062014805
                                        · rw [if_pos c20] at H
                                          have LMc20 := Aside0.mk c20
                                          clear c20
                                          obtain ⟨y116, hy116⟩ : ∃ y_ : List (List Int), y_ = (x7_2 ++ [y113]) := ⟨_, rfl⟩
                                          replace H : (branch_determinant.l1 k2 l0 x3_1 x4_1 x17_1 (rd (rd_L12 l0 0) x17_1) y116 (rd_L12 l0 0) ((rd_L12 l0 0).length : Int) x17_1 y103 (y103.length : Int) (wrap64 (x27_2 + 1))) = some r := by first | (rw [hy116]; with_reducible exact H) | (have H2_ := (Option.bind_some _ _).symm.trans H; rw [hy116]; with_reducible exact H2_) | (have H2_ := (Option.bind_some _ _).symm.trans H; with_reducible exact H2_) | with_reducible exact H | (rw [hy116]; exact H) | exact H
                                          have Ny116 := Aside0.mk hy116
                                          clear hy116
                                          have H' := Aside0.mk H
                                          clear H
                                          have p107 : 0 ≤ (x27_2 : Int) := of_decide_eq_true (by first | (with_reducible assumption) | assumption)
                                          have q107 : x27_2 < (y103.length : Int) := of_decide_eq_true (by first | (with_reducible assumption) | assumption)
                                          obtain ⟨ad107, A107_0, c107_0, e107, hx107_0, hl107_0, hi107_0⟩ := at_L12 HR106.out x27_2 p107 q107
                                          cases e107
                                          replace hx107_0 := (HB.out.cell (World.block_lt_of_cell? w _ hx107_0)).trans hx107_0
                                          have HR107_0 := Aside0.mk hi107_0
                                          have HC107_0 := Aside0.mk hl107_0
                                          clear hi107_0 hl107_0
                                          replace p107 := eq_true p107
                                          replace q107 := eq_true q107
                                          try go_wp2
                                          have n0_ := Aside0.mk (Kd.S_drew HO_7.out)
                                          have n1_ := Aside0.mk (below_drew1 HB.out)
                                          clear HO_7
                                          clear HB
                                          have HO_7 := n0_
                                          have HB := n1_
                                          clear n0_ n1_
                                          obtain ⟨i022, hi022, _, hsz22, _⟩ := info_parts info3
                                          obtain ⟨hcut22, hA22, hC22⟩ := print_take_of (P := Try.prog) (Value.int .i64) 0 28 3 .i64 Try.underlying28 hi022 hsz22 A107_0 c107_0 (rd_L12 y103 x27_2) x17_1 (of_decide_eq_true (by first | (with_reducible assumption) | assumption)) (of_decide_eq_true (by first | (with_reducible assumption) | assumption)) HC107_0.out
                                          have HR108 := Aside0.mk (Kd.C_of_reads (h1 := fun _ => rfl) (hA22 _ (Kd.reads_of_C HR107_0.out)))
                                          have HC108 := Aside0.mk hC22
                                          clear hA22 hC22 hi022 hsz22
                                          obtain ⟨i023, hi023, _, hsz23, _⟩ := info_parts info3
                                          obtain ⟨A23, hcut23, hA23, hC23⟩ := print_drop_of (P := Try.prog) (Value.int .i64) 0 28 3 .i64 Try.underlying28 hi023 hsz23 A107_0 c107_0 (rd_L12 y103 x27_2) (ji16) (of_decide_eq_true (by first | (with_reducible assumption) | assumption)) (of_decide_eq_true (by first | (with_reducible assumption) | assumption)) HC107_0.out
                                          have HR112 := Aside0.mk (Kd.C_of_reads (h1 := fun _ => rfl) (hA23 _ (Kd.reads_of_C HR107_0.out)))
                                          have HC112 := Aside0.mk hC23
                                          clear hA23 hC23 hi023 hsz23
                                          refine start_ (n := 13) (S := fun w' => True) (ds := []) #[false, false, false, false, false, false, false, false, false, false, false, false, false] (by kernel_rfl) rfl rfl trivial (fun hHeld => ?_); refine with_tabW branch_determinant.tab12 branch_determinant.bits12 (fun HT_ HW_ => ?_)
                                          generalize wr.drew = w21 at HO_7 HB HR108 HR112 hHeld ⊢
                                          refine pure_ (i := 0) (N := some 31) (v := ?_) (a' := ?_) #[true, false, false, false, false, false, false, false, false, false, false, false, false] rfl rfl (any_of HT_.out (by kernel_rfl)) (fun _ _ _ h => h) (Or.inl ⟨by rfl, ?_⟩) ?_ ?_
                                          rotate_left
                                          · intro w'
                                            go_simp
                                            with_reducible rfl
                                          rotate_left
                                          · simp only [Act.put, List.setIfInBounds_toArray, List.set_cons_zero, List.set_cons_succ, i64_w, i32_w]
                                            rfl
                                          refine pure_ (i := 1) (N := some 32) (v := ?_) (a' := ?_) #[true, true, false, false, false, false, false, false, false, false, false, false, false] rfl rfl (any_of HT_.out (by kernel_rfl)) (fun _ _ _ h => h) (Or.inl ⟨by rfl, ?_⟩) ?_ ?_
                                          rotate_left
                                          · intro w'
                                            go_simp
                                            with_reducible rfl
                                          rotate_left
                                          · simp only [Act.put, List.setIfInBounds_toArray, List.set_cons_zero, List.set_cons_succ, i64_w, i32_w]
                                            rfl
                                          refine pure_ (i := 2) (N := some 33) (v := ?_) (a' := ?_) #[true, true, true, false, false, false, false, false, false, false, false, false, false] rfl rfl (any_of HT_.out (by kernel_rfl)) (fun _ _ _ h => h) (Or.inl ⟨by rfl, ?_⟩) ?_ ?_
                                          rotate_left
                                          · intro w'
                                            go_simp
                                            with_reducible rfl
                                          rotate_left
                                          · simp only [Act.put, List.setIfInBounds_toArray, List.set_cons_zero, List.set_cons_succ, i64_w, i32_w]
                                            rfl
                                          refine pure_ (i := 3) (N := some 34) (v := ?_) (a' := ?_) #[true, true, true, true, false, false, false, false, false, false, false, false, false] rfl rfl (any_of HT_.out (by kernel_rfl)) (fun _ _ _ h => h) (Or.inl ⟨by rfl, ?_⟩) ?_ ?_
                                          rotate_left
                                          · intro w'
                                            go_simp
                                            with_reducible rfl
                                          rotate_left
                                          · simp only [Act.put, List.setIfInBounds_toArray, List.set_cons_zero, List.set_cons_succ, i64_w, i32_w]
                                            rfl
                                          refine pure_ (i := 5) (N := some 36) (v := ?_) (a' := ?_) #[true, true, true, true, false, true, false, false, false, false, false, false, false] rfl rfl (any_of HT_.out (by kernel_rfl)) (fun _ _ _ h => h) (Or.inl ⟨by rfl, ?_⟩) ?_ ?_
                                          rotate_left
                                          · intro w'
                                            go_simp
                                            with_reducible rfl
                                          rotate_left
                                          · simp only [Act.put, List.setIfInBounds_toArray, List.set_cons_zero, List.set_cons_succ, i64_w, i32_w]
                                            rfl
                                          refine pure_ (i := 6) (N := some 37) (v := ?_) (a' := ?_) #[true, true, true, true, false, true, true, false, false, false, false, false, false] rfl rfl (any_of HT_.out (by kernel_rfl)) (fun _ _ _ h => h) (Or.inl ⟨by rfl, ?_⟩) ?_ ?_
                                          rotate_left
                                          · intro w'
                                            go_simp
                                            with_reducible rfl
                                          rotate_left
                                          · simp only [Act.put, List.setIfInBounds_toArray, List.set_cons_zero, List.set_cons_succ, i64_w, i32_w]
                                            rfl
                                          refine pure_ (i := 7) (N := some 38) (v := ?_) (a' := ?_) #[true, true, true, true, false, true, true, true, false, false, false, false, false] rfl rfl (any_of HT_.out (by kernel_rfl)) (fun _ _ _ h => h) (Or.inl ⟨by rfl, ?_⟩) ?_ ?_
                                          rotate_left
                                          · intro w'
                                            go_simp
                                            with_reducible rfl
                                          rotate_left
                                          · simp only [Act.put, List.setIfInBounds_toArray, List.set_cons_zero, List.set_cons_succ, i64_w, i32_w]
                                            rfl
                                          refine pure_ (i := 8) (N := some 39) (v := ?_) (a' := ?_) #[true, true, true, true, false, true, true, true, true, false, false, false, false] rfl rfl (any_of HT_.out (by kernel_rfl)) (fun _ _ _ h => h) (Or.inl ⟨by rfl, ?_⟩) ?_ ?_
                                          rotate_left
                                          · intro w'
                                            go_simp
                                            with_reducible rfl
                                          rotate_left
                                          · simp only [Act.put, List.setIfInBounds_toArray, List.set_cons_zero, List.set_cons_succ, i64_w, i32_w]
                                            rfl
                                          refine one_ (i := 4) (N := some 35) #[true, true, true, true, true, true, true, true, true, false, false, false, false] rfl rfl (one_of HT_.out (by kernel_rfl)) (by decide) (fun K hK => ?_)
                                          refine goes_ Try.func67 (by kernel_rfl) rfl #[.slice A107_0 ((rd_L12 y103 x27_2).take (x17_1 : Int).toNat).length c107_0] (by rfl) rfl rfl (by (try simp only [List.map_toArray, List.map_cons, List.map_nil]); first | done | (rw [show ((rd_L12 y103 x27_2).take (x17_1 : Int).toNat).length = x17_1.toNat from (by rw [List.length_take]; have h_ : (x17_1 : Int) ≤ ((rd_L12 y103 x27_2).length : Int) := of_decide_eq_true (by first | (with_reducible assumption) | assumption); omega)] <;> rfl) | rfl | (simp only [List.length_drop, List.length_take]; rfl)) ?_
                                          with_reducible refine (slices_Clone.calls _ _ ((rd_L12 y103 x27_2).take (x17_1 : Int).toNat) t109 _ ?side1 ?side2 A15.out).mono ?_
                                          (case side1 => repeat (first | exact (Kd.C_below HR108.out HB.out) | (with_reducible refine Kd.C_alloc ?_ _) | (with_reducible refine Kd.C_drewN ?_ _) | (with_reducible refine Kd.C_drew ?_)))
                                          (case side2 => exact HC108.out)
                                          rintro e w24 ⟨v110, rfl, ho0, hb⟩
                                          refine ⟨_, rfl, ?_⟩
                                          have n0_ := Aside0.mk (Kd.S_elder' (by (with_reducible repeat (first | apply Kd.S_alloc | apply Kd.S_drewN | apply Kd.S_drew)); exact HO_7.out) (Kd.R_base ho0) hb)
                                          have n1_ := Aside0.mk (Kd.R_lower ho0 (below_size (by repeat (first | (with_reducible first | exact HB.out | apply below_alloc | apply pw_below_drewN | apply below_drew1) | exact HB.out))))
                                          have n2_ := Aside0.mk (below_step (by repeat (first | (with_reducible first | exact HB.out | apply below_alloc | apply pw_below_drewN | apply below_drew1) | exact HB.out)) hb)
                                          clear HO_7
                                          clear HB
                                          have HO_7 := n0_
                                          have HO111 := n1_
                                          have HB := n2_
                                          clear n0_ n1_ n2_
                                          (try clear hb)
                                          (try clear hb2)
                                          (try clear hk)
                                          (try clear hi)
                                          (try clear ho0)
                                          refine hK.out _ _ trivial (fun hHeld => ?_)
                                          clear hK K
                                          refine norm_ (a' := ?_) ?_ ?_
                                          rotate_left
                                          · show Act.put _ (some 35) _ = _
                                            simp only [Act.put, List.setIfInBounds_toArray, List.set_cons_zero, List.set_cons_succ, i64_w, i32_w]
                                            rfl
                                          refine one_ (i := 9) (N := some 40) #[true, true, true, true, true, true, true, true, true, true, false, false, false] rfl rfl (one_of HT_.out (by kernel_rfl)) (by decide) (fun K hK => ?_)
                                          refine Kd.R_append_rows_step (Kd.int .i64) (w0 := w) w.heap.size (by rfl) (.tmp 35) (.tmp 39) 28 3 (.int .i64 0) 8 rfl Try.underlying28 info3 rfl (by decide) (by omega) v110 t109 ((rd_L12 y103 x27_2).drop ((ji16) : Int).toNat) _ _ _ (fun _ => True) (fun _ => False) rfl rfl ?aO ?aR (fun _ _ h => h) (fun _ h => h.elim) ?aF ?aB ?aS ?aL ?_
                                          (case aR => first | (have hq_ := (Kd.C_below HR112.out HB.out); rw [show ((rd_L12 y103 x27_2).drop ((ji16) : Int).toNat).length = ((rd_L12 y103 x27_2).length - (ji16).toNat) from List.length_drop] at hq_; exact hq_) | (rw [← show ((rd_L12 y103 x27_2).drop ((ji16) : Int).toNat).length = ((rd_L12 y103 x27_2).length - (ji16).toNat) from List.length_drop]; repeat (first | exact (Kd.C_below HR112.out HB.out) | (with_reducible refine Kd.C_alloc ?_ _) | (with_reducible refine Kd.C_drewN ?_ _) | (with_reducible refine Kd.C_drew ?_))) | (repeat (first | exact (Kd.C_below HR112.out HB.out) | (with_reducible refine Kd.C_alloc ?_ _) | (with_reducible refine Kd.C_drewN ?_ _) | (with_reducible refine Kd.C_drew ?_))))
                                          (case aB => exact (by repeat (first | (with_reducible first | exact HB.out | apply below_alloc | apply pw_below_drewN | apply below_drew1) | exact HB.out)))
                                          (case aF => exact (fun _ _ => trivial))
                                          (case aO => exact (by (with_reducible repeat (first | apply Kd.R_alloc | apply Kd.R_drewN | apply Kd.R_drew)); exact HO111.out))
                                          (case aS => exact (below_size (by repeat (first | (with_reducible first | exact HB.out | apply below_alloc | apply pw_below_drewN | apply below_drew1) | exact HB.out))))
                                          (case aL => have := LMc19.out; have hlx_ := (show ((rd_L12 y103 x27_2).drop ((ji16) : Int).toNat).length = ((rd_L12 y103 x27_2).length - (ji16).toNat) from List.length_drop); omega)
                                          intro v114 w25 ho hb hg hat
                                          rw [← Ny113.out] at ho
                                          have n0_ := Aside0.mk (Kd.S_after (ok := (fun _ => True)) (by (with_reducible repeat (first | apply Kd.S_alloc | apply Kd.S_drewN | apply Kd.S_drew)); exact HO_7.out) hg hat)
                                          have n1_ := Aside0.mk (hb)
                                          have n2_ := Aside0.mk (ho)
                                          clear HO_7
                                          clear HB
                                          clear HO111
                                          have HO_7 := n0_
                                          have HB := n1_
                                          have HO115 := n2_
                                          clear n0_ n1_ n2_
                                          clear ho hb hg hat
                                          obtain ⟨Ao27, co27, eo27⟩ := Kd.R_slice HO115.out
                                          (first | subst eo27 | (injection eo27 with f1_ f2_ f3_; have f4_ := f1_.symm; have f5_ := f3_.symm; clear f1_ f2_ f3_; subst f4_; subst f5_))
                                          refine hK.out _ _ trivial (fun hHeld => ?_)
                                          clear hK K
                                          refine norm_ (a' := ?_) ?_ ?_
                                          rotate_left
                                          · show Act.put _ (some 40) _ = _
                                            simp only [Act.put, List.setIfInBounds_toArray, List.set_cons_zero, List.set_cons_succ, i64_w, i32_w]
                                            rfl
                                          refine one_ (i := 10) (N := some 41) #[true, true, true, true, true, true, true, true, true, true, true, false, false] rfl rfl (one_of HT_.out (by kernel_rfl)) (by decide) (fun K hK => ?_)
                                          refine value_ (w1 := ?_) (v := ?_) (by rfl) rfl ?_ ?_
                                          rotate_left 2
                                          · go_simp
                                            constructor
                                            · rfl
                                            · rfl
                                          refine hK.out _ _ trivial (fun hHeld => ?_)
                                          clear hK K
                                          refine norm_ (a' := ?_) ?_ ?_
                                          rotate_left
                                          · show Act.put _ (some 41) _ = _
                                            simp only [Act.put, List.setIfInBounds_toArray, List.set_cons_zero, List.set_cons_succ, i64_w, i32_w]
                                            rfl
                                          refine one_ (i := 11) (N := some 42) #[true, true, true, true, true, true, true, true, true, true, true, true, false] rfl rfl (one_of HT_.out (by kernel_rfl)) (by decide) (fun K hK => ?_)
                                          refine Kd.S_append_step (Kd.slice 3 (Kd.int .i64)) (w0 := w) w.heap.size (by rfl) (.tmp 31) (.tmp 41) 27 28 (.slice none 0 0) 24 rfl Try.underlying27 info28 rfl (by decide) (by omega) u7 x7_2 y113 [.slice Ao27 y113.length co27] (fun _ => True) (fun k_ => some k_ = (.slice Ao27 y113.length co27 : Value).ownBlock) rfl rfl ?aP (fun k_ hk_ => ((Kd.R_mono (ok' := fun k_ => ((fun _ => True)) k_ ∧ some k_ ≠ (u7 : Value).ownBlock) (Kd.R_apart' (HO115.out) (Kd.S_typed HO_7.out) (by decide)) (fun k_ hk => ⟨trivial, hk.2⟩))).1 k_ hk_.symm) ?aF ?aO ?aB ?aS ?aL ?_
                                          (case aP => exact Kd.M_row (Kd.R_mono (Kd.R_tight rfl (Kd.R_mono (ok' := fun k_ => ((fun _ => True)) k_ ∧ some k_ ≠ (u7 : Value).ownBlock) (Kd.R_apart' (HO115.out) (Kd.S_typed HO_7.out) (by decide)) (fun k_ hk => ⟨trivial, hk.2⟩))) (fun _ h_ => h_)))
                                          (case aB => exact (by repeat (first | (with_reducible first | exact HB.out | apply below_alloc | apply pw_below_drewN | apply below_drew1) | exact HB.out)))
                                          (case aF => exact (fun _ _ => trivial))
                                          (case aO => exact (by (with_reducible repeat (first | apply Kd.S_alloc | apply Kd.S_drewN | apply Kd.S_drew)); exact Kd.S_mono HO_7.out (fun k_ hk => ⟨trivial, fun e_ => hk.2 e_⟩)))
                                          (case aS => exact (below_size (by repeat (first | (with_reducible first | exact HB.out | apply below_alloc | apply pw_below_drewN | apply below_drew1) | exact HB.out))))
                                          (case aL => have := LMc20.out; omega)
                                          intro v117 w26 ho hb hg hat
                                          rw [← Ny116.out] at ho
                                          have n0_ := Aside0.mk (hb)
                                          have n1_ := Aside0.mk (ho)
                                          clear HB
                                          clear HO_7
                                          clear HO115
                                          have HB := n0_
                                          have HO118 := n1_
                                          clear n0_ n1_
                                          clear ho hb hg hat
                                          refine hK.out _ _ trivial (fun hHeld => ?_)
                                          clear hK K
                                          refine norm_ (a' := ?_) ?_ ?_
                                          rotate_left
                                          · show Act.put _ (some 42) _ = _
                                            simp only [Act.put, List.setIfInBounds_toArray, List.set_cons_zero, List.set_cons_succ, i64_w, i32_w]
                                            rfl
                                          refine pure_ (i := 12) (N := some 7) (v := ?_) (a' := ?_) #[true, true, true, true, true, true, true, true, true, true, true, true, true] rfl rfl (any_of HT_.out (by kernel_rfl)) (fun _ _ _ h => h) (Or.inl ⟨by rfl, ?_⟩) ?_ ?_
                                          rotate_left
                                          · intro w'
                                            go_simp
                                            with_reducible rfl
                                          rotate_left
                                          · simp only [Act.put, List.setIfInBounds_toArray, List.set_cons_zero, List.set_cons_succ, i64_w, i32_w]
                                            rfl
                                          refine done_ (done_of HT_.out (by kernel_rfl)) ?_
                                          try go_wp2
                                          go_roundg k2
                                          case measure => have := HK1.out; have := HK2.out; omega
                                          case rel => exact ⟨(y116), (wrap64 (x27_2 + 1)), (by first | rfl | (simp; done) | (simp [*]; done)), H', ⟨by have := HK1.out; have := HK2.out; omega⟩, ⟨by (with_reducible repeat (first | apply Kd.S_alloc | apply Kd.S_drewN | apply Kd.S_drew)); exact HO118.out⟩, ⟨by repeat (first | (with_reducible first | exact HB.out | apply below_alloc | apply pw_below_drewN | apply below_drew1) | exact HB.out)⟩⟩
                                        · rw [if_neg c20] at H
                                          exact absurd H (by simp)
                                      · rw [if_neg c19] at H
                                        exact absurd H (by simp)
                                    · rw [if_neg c18] at H
                                      exact absurd H (by simp)
                                  · rw [if_neg c17] at H
                                    exact absurd H (by simp)
                                · rw [if_neg c14] at H
                                  exact absurd H (by simp)
                              · rw [if_neg c13] at H
                                exact absurd H (by simp)
                            · rw [if_neg c12] at H
                              exact absurd H (by simp)
                          · rw [if_neg c11] at H
                            exact absurd H (by simp)
                        · rw [if_neg c10] at H
                          have c10b0 : decide (x27_2 < (y103.length : Int)) = false := decide_eq_false c10
                          clear c10
                          replace H := Option.bind_eq_some_iff.mp H
                          obtain ⟨t119, A280, H⟩ := H
                          replace H : (branch_determinant.l0 k2 l0 (wrap64 (x3_1 + (wrap64 ((wrap64 (x4_1 * (rd (rd_L12 l0 0) x17_1))) * t119)))) (wrap64 (-x4_1)) (rd_L12 l0 0) ((rd_L12 l0 0).length : Int) (wrap64 (x17_1 + 1))) = some r := H
                          have A28 := Aside0.mk A280
                          clear A280
                          have H' := Aside0.mk H
                          clear H
                          obtain ⟨Ao29, co29, eo29⟩ := Kd.S_slice HO_7.out
                          subst eo29
                          go_wp2_with (first | ((with_reducible refine gate_callee (f := 45) rfl ?_); refine goesL_ (some 49) rfl rfl Try.func45 (by kernel_rfl) rfl #[.slice Ao29 x7_2.length co29] rfl (by (try simp only [List.map_toArray, List.map_cons, List.map_nil]); first | done | rfl | (simp only [List.length_drop, List.length_take]; rfl)) ?_; (with_reducible refine (ih k2 (by have := HK1.out; have := HK2.out; omega) _ _ x7_2 t119 _ ?side1 ?side2 A28.out).mono ?_); (case side1 => repeat (first | exact (Kd.S_reads' HO_7.out).2.2 | (with_reducible refine Kd.C_alloc ?_ _) | (with_reducible refine Kd.C_drewN ?_ _) | (with_reducible refine Kd.C_drew ?_))); (case side2 => exact (Kd.S_reads' HO_7.out).2.1); rintro e w30 ⟨rfl, hb⟩; refine ⟨_, rfl, ?_⟩; have n0_ := Aside0.mk (Kd.S_below (by (with_reducible repeat (first | apply Kd.S_alloc | apply Kd.S_drewN | apply Kd.S_drew)); exact HO_7.out) hb); have n1_ := Aside0.mk (below_step (by repeat (first | (with_reducible first | exact HB.out | apply below_alloc | apply pw_below_drewN | apply below_drew1) | exact HB.out)) hb); clear HO_7; clear HB; have HO_7 := n0_; have HB := n1_; clear n0_ n1_; (try clear hb); (try clear hb2); (try clear hk); (try clear hi)))
                          go_roundg k2
                          case measure => have := HK1.out; have := HK2.out; omega
                          case rel => exact ⟨(wrap64 (x3_1 + (wrap64 ((wrap64 (x4_1 * (rd (rd_L12 l0 0) x17_1))) * t119)))), (wrap64 (-x4_1)), (wrap64 (x17_1 + 1)), (by first | rfl | (simp; done) | (simp [*]; done)), (by first | rfl | (simp; done) | (simp [*]; done)), (by first | rfl | (simp; done) | (simp [*]; done)), H', ⟨by have := HK1.out; have := HK2.out; omega⟩, ⟨by repeat (first | (with_reducible first | exact HB.out | apply below_alloc | apply pw_below_drewN | apply below_drew1) | exact HB.out)⟩⟩
                  · rw [if_neg c8] at H
                    exact absurd H (by simp)
              · rw [if_neg c6] at H
                exact absurd H (by simp)
            · rw [if_neg c5] at H
              exact absurd H (by simp)
          · rw [if_neg c4] at H
            have c4b0 : decide (x17_1 < ((rd_L12 l0 0).length : Int)) = false := decide_eq_false c4
            clear c4
            obtain rfl := Option.some.inj H
            go_wp2
            go_ret
            exact ⟨by first | rfl | (simp [errW_none, errW_some] <;> rfl) | (simp [*, errW_none, errW_some] <;> rfl), by repeat (first | (with_reducible first | exact HB.out | apply below_alloc | apply pw_below_drewN | apply below_drew1) | exact HB.out)⟩
    · rw [if_neg c3] at H
      exact absurd H (by simp)
def slices_IndexFunc_int_int.l0 : Nat → List Int → (Int → Option Bool) → Int → Int → Option (Int)
  | 0, _, _, _, _ => none
  | k + 1, x0, x1, x7, x8 => if x8 < x7 then (if 0 ≤ x8 then (if x8 < (x0.length : Int) then ((x1 (rd x0 x8)).bind fun t121 => (if t121 = true then (some x8) else (slices_IndexFunc_int_int.l0 k x0 x1 x7 (wrap64 (x8 + 1))))) else (none)) else (none)) else (some (-1))
def slices_IndexFunc_int_int.f (k : Nat) (l0 : List Int) (a1 : (Int → Option Bool)) : Option (Int) := slices_IndexFunc_int_int.l0 k l0 a1 (l0.length : Int) 0
theorem slices_IndexFunc_int_int.mono_l : ∀ k, (∀ y0 y1 y2 y3, LeO (slices_IndexFunc_int_int.l0 k y0 y1 y2 y3) (slices_IndexFunc_int_int.l0 (k + 1) y0 y1 y2 y3))
  | 0 => fun _ _ _ _ r h => by simp [slices_IndexFunc_int_int.l0] at h
  | k + 1 => by
    have ih0 := slices_IndexFunc_int_int.mono_l k
    · intro y0 y1 y2 y3
      unfold slices_IndexFunc_int_int.l0
      repeat' first
      | (with_reducible exact ih0 _ _ _ _)
      | (with_reducible exact LeO.refl _)
      | (with_reducible exact LeO.none _)
      | (with_reducible refine LeO.ite ?_ ?_)
      | (with_reducible refine LeO.bind ?_ (fun _ => ?_))
      | exact ih0 _ _ _ _
      | exact LeO.none _
      | refine LeO.ite ?_ ?_
      | refine LeO.bind ?_ (fun _ => ?_)
theorem slices_IndexFunc_int_int.mono : ∀ a0 a1 k, LeO (slices_IndexFunc_int_int.f k a0 a1) (slices_IndexFunc_int_int.f (k + 1) a0 a1) := by
  intro a0 a1 k
  have ih0 := slices_IndexFunc_int_int.mono_l k
  unfold slices_IndexFunc_int_int.f
  repeat' first
      | (with_reducible exact ih0 _ _ _ _)
      | (with_reducible exact LeO.refl _)
      | (with_reducible exact LeO.none _)
      | (with_reducible refine LeO.ite ?_ ?_)
      | (with_reducible refine LeO.bind ?_ (fun _ => ?_))
      | exact ih0 _ _ _ _
      | exact LeO.none _
      | refine LeO.ite ?_ ?_
      | refine LeO.bind ?_ (fun _ => ?_)
set_option maxHeartbeats 8000000 in
set_option maxRecDepth 100000 in
theorem slices_IndexFunc_int_int.calls (k : Nat) (A0 : Option Addr) (c0 : Nat) (l0 : List Int) (vf1 : Value) (a1 : (Int → Option Bool)) (r : Int) (w : World) (hr0 : Kd.C (Kd.int .i64) w A0 l0.length l0) (hc0 : l0.length ≤ c0) (hF1 : IsFn Try.prog w vf1 a1) (h : slices_IndexFunc_int_int.f k l0 a1 = some r) :
    Calls Try.prog 81 #[.slice A0 l0.length c0, vf1] w fun e w' => e = .returned (.int .i64 r) ∧ Below w.heap.size w w' := by
  have HR0 := Aside0.mk hr0
  have HC0 := Aside0.mk hc0
  clear hr0 hc0
  have HF1 := Aside0.mk hF1
  clear hF1
  have HB := Aside0.mk (Below.refl w.heap.size w)
  have H : (slices_IndexFunc_int_int.l0 k l0 a1 (l0.length : Int) 0) = some r := h
  clear h
  have H' := Aside0.mk H
  clear H
  go_enter Try.func81, Try.ntmps81
  go_wp2
  go_loopg [8] k (fun kq v8 w' => ∃ (x8_1 : Int), v8 = .int .i64 x8_1 ∧ Aside0 (slices_IndexFunc_int_int.l0 kq l0 a1 (l0.length : Int) x8_1 = some r) ∧ Aside0 (kq ≤ k) ∧ Aside0 (Below w.heap.size w w'))
  case atStart => exact ⟨(0), (by first | rfl | (simp; done) | (simp [*]; done)), H', ⟨Nat.le_refl _⟩, ⟨by repeat (first | (with_reducible first | exact HB.out | apply below_alloc | apply pw_below_drewN | apply below_drew1) | exact HB.out)⟩⟩
  case round =>
    clear H'
    try clear p2
    obtain ⟨x8_1, rfl, HA, HK1, HB⟩ := hrel
    cases gk with
    | zero => exact absurd HA.out (by simp [slices_IndexFunc_int_int.l0])
    | succ k1 =>
      have H := HA.out
      clear HA
      simp only [slices_IndexFunc_int_int.l0] at H
      by_cases c3 : x8_1 < (l0.length : Int)
      · rw [if_pos c3] at H
        have c3b0 : decide (x8_1 < (l0.length : Int)) = true := decide_eq_true c3
        clear c3
        by_cases c4 : 0 ≤ x8_1
        · rw [if_pos c4] at H
          have c4b0 : decide (0 ≤ x8_1) = true := decide_eq_true c4
          clear c4
          by_cases c5 : x8_1 < (l0.length : Int)
          · rw [if_pos c5] at H
            have c5b0 : decide (x8_1 < (l0.length : Int)) = true := decide_eq_true c5
            clear c5
            replace H := Option.bind_eq_some_iff.mp H
            obtain ⟨t121, A60, H⟩ := H
            replace H : (if t121 = true then (some x8_1) else (slices_IndexFunc_int_int.l0 k1 l0 a1 (l0.length : Int) (wrap64 (x8_1 + 1)))) = some r := H
            have A6 := Aside0.mk A60
            clear A60
            by_cases c7 : t121 = true
            · subst c7
              have H1 : (some x8_1) = some r := by rw [if_pos rfl] at H; exact H
              clear H
              have H := H1
              clear H1
              obtain rfl := Option.some.inj H
              have p120 : 0 ≤ (x8_1 : Int) := of_decide_eq_true (by first | (with_reducible assumption) | assumption)
              have q120 : x8_1 < (l0.length : Int) := of_decide_eq_true (by first | (with_reducible assumption) | assumption)
              obtain ⟨ad120, e120, hx120_0⟩ := Kd.at_int HR0.out x8_1 p120 q120
              cases e120
              replace hx120_0 := (HB.out.cell (World.block_lt_of_cell? w _ hx120_0)).trans hx120_0
              replace p120 := eq_true p120
              replace q120 := eq_true q120
              go_wp2_with (first | ((with_reducible refine gate_dst (N := 16) rfl ?_); refine goesF_ (some 16) rfl rfl HF1.out rfl rfl (i := (rd l0 x8_1)) rfl ?sideB A6.out ?_; (case sideB => exact by repeat (first | (with_reducible first | exact HB.out | apply below_alloc | apply pw_below_drewN | apply below_drew1) | exact HB.out)); intro w8 hb; have n0_ := Aside0.mk (below_step (by repeat (first | (with_reducible first | exact HB.out | apply below_alloc | apply pw_below_drewN | apply below_drew1) | exact HB.out)) hb); clear HB; have HB := n0_; clear n0_; (try clear hb); (try clear hb2); (try clear hk); (try clear hi)))
              go_ret
              exact ⟨by first | rfl | (simp [errW_none, errW_some] <;> rfl) | (simp [*, errW_none, errW_some] <;> rfl), by repeat (first | (with_reducible first | exact HB.out | apply below_alloc | apply pw_below_drewN | apply below_drew1) | exact HB.out)⟩
            · replace c7 := Bool.eq_false_iff.mpr c7
              subst c7
              have H1 : (slices_IndexFunc_int_int.l0 k1 l0 a1 (l0.length : Int) (wrap64 (x8_1 + 1))) = some r := by rw [if_neg (show ¬ (false = true) by decide)] at H; exact H
              clear H
              have H := H1
              clear H1
              have H' := Aside0.mk H
              clear H
              have p120 : 0 ≤ (x8_1 : Int) := of_decide_eq_true (by first | (with_reducible assumption) | assumption)
              have q120 : x8_1 < (l0.length : Int) := of_decide_eq_true (by first | (with_reducible assumption) | assumption)
              obtain ⟨ad120, e120, hx120_0⟩ := Kd.at_int HR0.out x8_1 p120 q120
              cases e120
              replace hx120_0 := (HB.out.cell (World.block_lt_of_cell? w _ hx120_0)).trans hx120_0
              replace p120 := eq_true p120
              replace q120 := eq_true q120
              go_wp2_with (first | ((with_reducible refine gate_dst (N := 16) rfl ?_); refine goesF_ (some 16) rfl rfl HF1.out rfl rfl (i := (rd l0 x8_1)) rfl ?sideB A6.out ?_; (case sideB => exact by repeat (first | (with_reducible first | exact HB.out | apply below_alloc | apply pw_below_drewN | apply below_drew1) | exact HB.out)); intro w9 hb; have n0_ := Aside0.mk (below_step (by repeat (first | (with_reducible first | exact HB.out | apply below_alloc | apply pw_below_drewN | apply below_drew1) | exact HB.out)) hb); clear HB; have HB := n0_; clear n0_; (try clear hb); (try clear hb2); (try clear hk); (try clear hi)))
              go_roundg k1
              case measure => have := HK1.out; omega
              case rel => exact ⟨(wrap64 (x8_1 + 1)), (by first | rfl | (simp; done) | (simp [*]; done)), H', ⟨by have := HK1.out; omega⟩, ⟨by repeat (first | (with_reducible first | exact HB.out | apply below_alloc | apply pw_below_drewN | apply below_drew1) | exact HB.out)⟩⟩
          · rw [if_neg c5] at H
            exact absurd H (by simp)
        · rw [if_neg c4] at H
          exact absurd H (by simp)
      · rw [if_neg c3] at H
        have c3b0 : decide (x8_1 < (l0.length : Int)) = false := decide_eq_false c3
        clear c3
        obtain rfl := Option.some.inj H
        go_wp2
        go_ret
        exact ⟨by first | rfl | (simp [errW_none, errW_some] <;> rfl) | (simp [*, errW_none, errW_some] <;> rfl), by repeat (first | (with_reducible first | exact HB.out | apply below_alloc | apply pw_below_drewN | apply below_drew1) | exact HB.out)⟩
def slices_ContainsFunc_int_int.f (k : Nat) (l0 : List Int) (a1 : (Int → Option Bool)) : Option (Bool) := (slices_IndexFunc_int_int.f k l0 a1).bind fun t122 => (some (decide (t122 ≥ 0)))
theorem slices_ContainsFunc_int_int.mono : ∀ a0 a1 k, LeO (slices_ContainsFunc_int_int.f k a0 a1) (slices_ContainsFunc_int_int.f (k + 1) a0 a1) := by
  intro a0 a1 k
  unfold slices_ContainsFunc_int_int.f
  repeat' first
      | (with_reducible exact slices_IndexFunc_int_int.mono _ _ _)
      | (with_reducible exact LeO.refl _)
      | (with_reducible exact LeO.none _)
      | (with_reducible refine LeO.ite ?_ ?_)
      | (with_reducible refine LeO.bind ?_ (fun _ => ?_))
      | exact slices_IndexFunc_int_int.mono _ _ _
      | exact LeO.none _
      | refine LeO.ite ?_ ?_
      | refine LeO.bind ?_ (fun _ => ?_)
set_option maxHeartbeats 8000000 in
set_option maxRecDepth 100000 in
theorem slices_ContainsFunc_int_int.calls (k : Nat) (A0 : Option Addr) (c0 : Nat) (l0 : List Int) (vf1 : Value) (a1 : (Int → Option Bool)) (r : Bool) (w : World) (hr0 : Kd.C (Kd.int .i64) w A0 l0.length l0) (hc0 : l0.length ≤ c0) (hF1 : IsFn Try.prog w vf1 a1) (h : slices_ContainsFunc_int_int.f k l0 a1 = some r) :
    Calls Try.prog 70 #[.slice A0 l0.length c0, vf1] w fun e w' => e = .returned (.bool r) ∧ Below w.heap.size w w' := by
  have HR0 := Aside0.mk hr0
  have HC0 := Aside0.mk hc0
  clear hr0 hc0
  have HF1 := Aside0.mk hF1
  clear hF1
  have HB := Aside0.mk (Below.refl w.heap.size w)
  have H : ((slices_IndexFunc_int_int.f k l0 a1).bind fun t122 => (some (decide (t122 ≥ 0)))) = some r := h
  clear h
  replace H := Option.bind_eq_some_iff.mp H
  obtain ⟨t122, A30, H⟩ := H
  replace H : (some (decide (t122 ≥ 0))) = some r := H
  have A3 := Aside0.mk A30
  clear A30
  obtain rfl := Option.some.inj H
  go_enter Try.func70, Try.ntmps70
  go_wp2_with (first | ((with_reducible refine gate_callee (f := 81) rfl ?_); refine goesL_ (some 7) rfl rfl Try.func81 (by kernel_rfl) rfl #[.slice A0 l0.length c0, vf1] rfl (by (try simp only [List.map_toArray, List.map_cons, List.map_nil]); first | done | rfl | (simp only [List.length_drop, List.length_take]; rfl)) ?_; (with_reducible refine (slices_IndexFunc_int_int.calls k _ _ l0 vf1 a1 t122 _ ?side1 ?side2 ?side3 A3.out).mono ?_); (case side1 => repeat (first | exact HR0.out | (with_reducible refine Kd.C_alloc ?_ _) | (with_reducible refine Kd.C_drewN ?_ _) | (with_reducible refine Kd.C_drew ?_))); (case side2 => exact HC0.out); (case side3 => exact IsFn.below HF1.out (by repeat (first | (with_reducible first | exact HB.out | apply below_alloc | apply pw_below_drewN | apply below_drew1) | exact HB.out))); rintro e w4 ⟨rfl, hb⟩; refine ⟨_, rfl, ?_⟩; have n0_ := Aside0.mk (below_step (by repeat (first | (with_reducible first | exact HB.out | apply below_alloc | apply pw_below_drewN | apply below_drew1) | exact HB.out)) hb); clear HB; have HB := n0_; clear n0_; (try clear hb); (try clear hb2); (try clear hk); (try clear hi)))
  go_ret
  exact ⟨by first | rfl | (simp [errW_none, errW_some] <;> rfl) | (simp [*, errW_none, errW_some] <;> rfl), by repeat (first | (with_reducible first | exact HB.out | apply below_alloc | apply pw_below_drewN | apply below_drew1) | exact HB.out)⟩
end Go.Proofs.Ytpmadffgdfholaa.B
namespace Go.Proofs.Ytpmadffgdfholaa.B
open Go.RowKit Go.MapKept Go.Proofs.YtpmadffgdfholaaW.PrintWords Go.Proofs.YtpmadffgdfholaaW.PrintLast Go.Proofs.YtpmadffgdfholaaW.PrintMore
/-- Entries whose keys are whole numbers, each once, with stamps of their own. -/
structure Good (es : Array MapEntry) (clock : Nat) : Prop where
  keys : ∀ e ∈ es.toList, ∃ i, e.key = .int .i64 i
  once : (es.toList.map (·.key)).Nodup
  born : (es.toList.map (·.born)).Nodup
  old : ∀ e ∈ es.toList, e.born < clock
theorem Good.isKey {es : Array MapEntry} {clock : Nat} (h : Good es clock) : ∀ x ∈ es.toList, IsKey (.int .i64) x.key := by
  intro x hx
  obtain ⟨i, hi⟩ := h.keys x hx
  rw [hi]; exact rfl
theorem Good.empty (clock : Nat) : Good #[] clock := ⟨by simp, by simp, by simp, by simp⟩
theorem Good.push {es : Array MapEntry} {clock : Nat} (h : Good es clock) (i : Int) (v : Value) (hn : ∀ e ∈ es.toList, e.key ≠ .int .i64 i) : Good (es.push { key := .int .i64 i, val := v, born := clock }) (clock + 1) := by
  refine ⟨?_, ?_, ?_, ?_⟩
  · intro e he
    simp only [Array.toList_push, List.mem_append, List.mem_singleton] at he
    rcases he with he | rfl
    · exact h.keys e he
    · exact ⟨i, rfl⟩
  · simp only [Array.toList_push, List.map_append, List.map_cons, List.map_nil]
    rw [List.nodup_append]
    refine ⟨h.once, by simp, ?_⟩
    intro a ha b hb
    simp only [List.mem_singleton] at hb
    subst hb
    obtain ⟨e, he, rfl⟩ := List.mem_map.1 ha
    exact hn e he
  · simp only [Array.toList_push, List.map_append, List.map_cons, List.map_nil]
    rw [List.nodup_append]
    refine ⟨h.born, by simp, ?_⟩
    intro a ha b hb
    simp only [List.mem_singleton] at hb
    subst hb
    obtain ⟨e, he, rfl⟩ := List.mem_map.1 ha
    have := h.old e he
    omega
  · intro e he
    simp only [Array.toList_push, List.mem_append, List.mem_singleton] at he
    rcases he with he | rfl
    · exact Nat.lt_succ_of_lt (h.old e he)
    · exact Nat.lt_succ_self _
theorem modify_toList (es : Array MapEntry) (j : Nat) (k v : Value) : (es.modify j fun e => { e with key := k, val := v }).toList = es.toList.modify j (fun e => { e with key := k, val := v }) := by simp
theorem map_modify_id {β : Type} (g : MapEntry → β) (f : MapEntry → MapEntry) (l : List MapEntry) (j : Nat) (h : ∀ e, l[j]? = some e → g (f e) = g e) : (l.modify j f).map g = l.map g := by
  apply List.ext_getElem?
  intro q
  simp only [List.getElem?_map, List.getElem?_modify]
  by_cases hq : j = q
  · subst hq
    cases e : l[j]? with
    | none => simp
    | some x => simp [h x e]
  · simp [hq]
theorem Good.modify {es : Array MapEntry} {clock : Nat} (h : Good es clock) (i : Int) (v : Value) (j : Nat) (hj : ∀ e, es.toList[j]? = some e → e.key = .int .i64 i) : Good (es.modify j fun e => { e with key := .int .i64 i, val := v }) clock := by
  have hk : (es.toList.modify j fun e => { e with key := .int .i64 i, val := v }).map (·.key) = es.toList.map (·.key) := map_modify_id _ _ _ _ fun e he => (hj e he).symm
  have hb : (es.toList.modify j fun e => { e with key := .int .i64 i, val := v }).map (·.born) = es.toList.map (·.born) := map_modify_id _ _ _ _ fun e he => rfl
  refine ⟨?_, ?_, ?_, ?_⟩
  · intro e he
    rw [modify_toList] at he
    have : e.key ∈ es.toList.map (·.key) := hk ▸ List.mem_map_of_mem he
    obtain ⟨x, hx, ex⟩ := List.mem_map.1 this
    obtain ⟨q, hq⟩ := h.keys x hx
    exact ⟨q, by rw [← ex, hq]⟩
  · rw [modify_toList, hk]; exact h.once
  · rw [modify_toList, hb]; exact h.born
  · intro e he
    rw [modify_toList] at he
    have : e.born ∈ es.toList.map (·.born) := hb ▸ List.mem_map_of_mem he
    obtain ⟨x, hx, ex⟩ := List.mem_map.1 this
    rw [← ex]; exact h.old x hx
section
variable {P : Program} {w : World} {m mt kt et : Nat} {es : Array MapEntry} {clock : Nat}
theorem run_lookup_in (ht : P.underlying mt = some (.map kt et)) (hk : P.underlying kt = some (.int .i64)) (hb : w.heap[m]? = some (.map es clock)) (hg : Good es clock) (i : Int) {e : MapEntry} (he : e ∈ es.toList) (hi : e.key = .int .i64 i) :
    (Instr.lookup mt (.map (some m)) (.int .i64 i) false).run P w = .ok e.val w := by
  rcases findNow_spec (d := .int .i64) (k := .int .i64 i) rfl es.toList 0 hg.isKey with ⟨_, h2⟩ | ⟨j, e', h1, h2, h3⟩
  · exact absurd hi (h2 e he)
  · have hee : e' = e := by
      have hm := List.mem_of_getElem? h2
      have := hg.once
      have inj : ∀ {l : List MapEntry}, (l.map (·.key)).Nodup → ∀ a ∈ l, ∀ b ∈ l, a.key = b.key → a = b := by
        intro l hl
        induction l with
        | nil => intro a ha; cases ha
        | cons x l ih =>
          simp only [List.map_cons, List.nodup_cons] at hl
          intro a ha b hb hab
          rcases List.mem_cons.1 ha with ea | ha <;> rcases List.mem_cons.1 hb with eb | hb
          · rw [ea, eb]
          · exact absurd (List.mem_map.2 ⟨b, hb, by rw [← hab, ea]⟩) hl.1
          · exact absurd (List.mem_map.2 ⟨a, ha, by rw [hab, eb]⟩) hl.1
          · exact ih hl.2 a ha b hb hab
      exact inj hg.once _ hm _ he (h3.trans hi.symm)
    subst hee
    simp only [Nat.zero_add] at h1
    simp [Instr.lookup, run_underlying ht, Result.andThen, MapKept.run_getObj_map hb, run_checkKey (e := es.isEmpty) (n := 9999) hk (show IsKey (.int .i64) (.int .i64 i) from rfl), run_findKey hk h1]
theorem run_lookup_out (ht : P.underlying mt = some (.map kt et)) (hk : P.underlying kt = some (.int .i64)) (hb : w.heap[m]? = some (.map es clock)) (hg : Good es clock) (i : Int) (hn : ∀ e ∈ es.toList, e.key ≠ .int .i64 i) {z : Value} (hz : (zeroValue et).run P w = .ok z w) :
    (Instr.lookup mt (.map (some m)) (.int .i64 i) false).run P w = .ok z w := by
  rcases findNow_spec (d := .int .i64) (k := .int .i64 i) rfl es.toList 0 hg.isKey with ⟨h1, _⟩ | ⟨j, e', _, h2, h3⟩
  · simp [Instr.lookup, run_underlying ht, Result.andThen, MapKept.run_getObj_map hb, run_checkKey (e := es.isEmpty) (n := 9999) hk (show IsKey (.int .i64) (.int .i64 i) from rfl), run_findKey hk h1, hz]
  · exact absurd h3 (hn e' (List.mem_of_getElem? h2))
theorem run_lookup_nil (ht : P.underlying mt = some (.map kt et)) (hk : P.underlying kt = some (.int .i64)) (i : Int) {z : Value} (hz : (zeroValue et).run P w = .ok z w) :
    (Instr.lookup mt (.map none) (.int .i64 i) false).run P w = .ok z w := by
  have h1 : Instr.findNow (.int .i64) (.int .i64 i) [] 0 = some none := rfl
  simp [Instr.lookup, run_underlying ht, Result.andThen, run_checkKey (e := true) (n := 9999) hk (show IsKey (.int .i64) (.int .i64 i) from rfl), run_findKey hk h1, hz]
/-- A store into a map: what its entries are behind it. -/
theorem run_update (ht : P.underlying mt = some (.map kt et)) (hk : P.underlying kt = some (.int .i64)) (hb : w.heap[m]? = some (.map es clock)) (hg : Good es clock) (i : Int) (v : Value) :
    ∃ es' clock', (Instr.mapUpdate mt (.map (some m)) (.int .i64 i) v).run P w = .ok () { w with heap := w.heap.setIfInBounds m (.map es' clock') } ∧ Good es' clock' ∧
      (∃ e ∈ es'.toList, e.key = .int .i64 i ∧ e.val = v) ∧ (∀ e ∈ es'.toList, e.key ≠ .int .i64 i → ∃ e0 ∈ es.toList, e0.key = e.key ∧ e0.val = e.val) ∧ (∀ e ∈ es.toList, e.key ≠ .int .i64 i → ∃ e0 ∈ es'.toList, e0.key = e.key ∧ e0.val = e.val) ∧ (∀ e ∈ es'.toList, e.key = .int .i64 i → e.val = v) := by
  rcases findNow_spec (d := .int .i64) (k := .int .i64 i) rfl es.toList 0 hg.isKey with ⟨h1, h2⟩ | ⟨j, e', h1, h2, h3⟩
  · refine ⟨es.push { key := .int .i64 i, val := v, born := clock }, clock + 1, ?_, hg.push i v h2, ⟨{ key := .int .i64 i, val := v, born := clock }, by simp, rfl, rfl⟩, ?_, ?_, ?_⟩
    · simp [Instr.mapUpdate, run_underlying ht, Result.andThen, MapKept.run_getObj_map hb, run_checkKey (e := false) (n := 9999) hk (show IsKey (.int .i64) (.int .i64 i) from rfl), run_findKey hk h1, MapKept.run_setObj_map _ hb]
    · intro e he hne
      simp only [Array.toList_push, List.mem_append, List.mem_singleton] at he
      rcases he with he | rfl
      · exact ⟨e, he, rfl, rfl⟩
      · exact absurd rfl hne
    · intro e he hne
      exact ⟨e, by simp; exact .inl (by simpa using he), rfl, rfl⟩
    · intro e he heq
      simp only [Array.toList_push, List.mem_append, List.mem_singleton] at he
      rcases he with he | rfl
      · exact absurd heq (h2 e he)
      · rfl
  · simp only [Nat.zero_add] at h1
    have hj : ∀ e, es.toList[j]? = some e → e.key = .int .i64 i := fun e he => by rw [h2] at he; injection he with he; rw [← he]; exact h3
    have hsame : Instr.sameBits 10000 (((es[j]?).map (·.key)).getD (.int .i64 i)) (.int .i64 i) = true := by
      have : es[j]? = some e' := by simpa using h2
      rw [this]
      simp [h3, Instr.sameBits]
    have hget : ∀ q, (es.toList.modify j fun e => { e with key := .int .i64 i, val := v })[q]? = if j = q then (es.toList[q]?).map (fun e => { e with key := .int .i64 i, val := v }) else es.toList[q]? := by
      intro q; rw [List.getElem?_modify]; split <;> simp
    refine ⟨es.modify j fun e => { e with key := .int .i64 i, val := v }, clock, ?_, hg.modify i v j hj, ?_, ?_, ?_, ?_⟩
    · simp [Instr.mapUpdate, run_underlying ht, Result.andThen, MapKept.run_getObj_map hb, run_checkKey (e := false) (n := 9999) hk (show IsKey (.int .i64) (.int .i64 i) from rfl), run_findKey hk h1, Instr.keyThatStays, hsame, MapKept.run_setObj_map _ hb]
    · refine ⟨{ e' with key := .int .i64 i, val := v }, ?_, rfl, rfl⟩
      rw [modify_toList]
      exact List.mem_of_getElem? (i := j) (by rw [hget, if_pos rfl, h2]; rfl)
    · intro e he hne
      rw [modify_toList] at he
      obtain ⟨q, hq⟩ := List.getElem?_of_mem he
      rw [hget] at hq
      split at hq
      · rename_i hjq
        subst hjq
        rw [h2] at hq
        injection hq with hq
        exact absurd (by rw [← hq]) hne
      · exact ⟨e, List.mem_of_getElem? hq, rfl, rfl⟩
    · intro e he hne
      obtain ⟨q, hq⟩ := List.getElem?_of_mem he
      have hjq : j ≠ q := fun h => hne (hj e (h ▸ hq))
      refine ⟨e, ?_, rfl, rfl⟩
      rw [modify_toList]
      exact List.mem_of_getElem? (i := q) (by rw [hget, if_neg hjq]; exact hq)
    · intro e he heq
      rw [modify_toList] at he
      obtain ⟨q, hq⟩ := List.getElem?_of_mem he
      rw [hget] at hq
      split at hq
      · rename_i hjq
        subst hjq
        rw [h2] at hq
        injection hq with hq
        rw [← hq]
      · rename_i hjq
        exfalso
        have hn := hg.once
        have hq1 : (es.toList.map (·.key))[q]? = some (.int .i64 i) := by rw [List.getElem?_map, hq]; simp [heq]
        have hq2 : (es.toList.map (·.key))[j]? = some (.int .i64 i) := by rw [List.getElem?_map, h2]; simp [h3]
        obtain ⟨l2, e2⟩ := List.getElem?_eq_some_iff.1 hq2
        exact hjq ((List.getElem?_inj l2 hn).1 (hq2.trans hq1.symm))
end
/-- Block m is a map whose keys are those at which g is true, and whose elements are all true. -/
def SetM (w : World) (m : Nat) (g : Int → Bool) : Prop :=
  ∃ es clock, w.heap[m]? = some (.map es clock) ∧ Good es clock ∧ (∀ e ∈ es.toList, e.val = .bool true) ∧ ∀ i, g i = true ↔ ∃ e ∈ es.toList, e.key = .int .i64 i
theorem SetM.lt {w : World} {m : Nat} {g : Int → Bool} (h : SetM w m g) : m < w.heap.size := by
  obtain ⟨es, clock, hb, _⟩ := h
  exact blk_lt hb
theorem SetM.of_block {w w1 : World} {m : Nat} {g : Int → Bool} (h : SetM w m g) (hm : w1.heap[m]? = w.heap[m]?) : SetM w1 m g := by
  obtain ⟨es, clock, hb, r⟩ := h
  exact ⟨es, clock, hm.trans hb, r⟩
theorem SetM.below {w w1 : World} {m : Nat} {g : Int → Bool} (h : SetM w m g) (hb : Below w.heap.size w w1) : SetM w1 m g := h.of_block (hb.block m h.lt)
theorem SetM.far {w : World} {m : Nat} {g : Int → Bool} (h : SetM w m g) {p : Addr} (hne : m ≠ p.block) (u : Value) : SetM (w.setCell p u) m g := h.of_block (Below.heap_setCell w p u m hne)
/-- What is no row of cells is no map. -/
theorem SetM.ne_cells {w : World} {m a : Nat} {g : Int → Bool} {cs : Array Value} {t : TypeId} {fr : Nat × Nat} (h : SetM w m g) (hb : w.heap[a]? = some (.cells cs t fr)) : m ≠ a := by
  rintro rfl
  obtain ⟨es, clock, hb2, _⟩ := h
  rw [hb] at hb2; injection hb2 with hb2; cases hb2
section
variable {P : Program} {w : World} {m mt kt et : Nat} {g : Int → Bool}
theorem SetM.lookup (h : SetM w m g) (ht : P.underlying mt = some (.map kt et)) (hk : P.underlying kt = some (.int .i64)) (i : Int) (hz : (zeroValue et).run P w = .ok (.bool false) w) :
    (Instr.lookup mt (.map (some m)) (.int .i64 i) false).run P w = .ok (.bool (g i)) w := by
  obtain ⟨es, clock, hb, hg, hv, hi⟩ := h
  cases hgi : g i with
  | true =>
    obtain ⟨e, he, hk2⟩ := (hi i).1 hgi
    rw [run_lookup_in ht hk hb hg i he hk2, hv e he]
  | false =>
    exact run_lookup_out ht hk hb hg i (fun e he hk2 => by rw [(hi i).2 ⟨e, he, hk2⟩] at hgi; cases hgi) hz
theorem SetM.update (h : SetM w m g) (ht : P.underlying mt = some (.map kt et)) (hk : P.underlying kt = some (.int .i64)) (i : Int) :
    ∃ w1, (Instr.mapUpdate mt (.map (some m)) (.int .i64 i) (.bool true)).run P w = .ok () w1 ∧ SetM w1 m (fun j => decide (j = i) || g j) ∧ w.grownBy w1 (some m) := by
  obtain ⟨es, clock, hb, hg, hv, hi⟩ := h
  obtain ⟨es', clock', hrun, hg', hin, hback, hforth, hval⟩ := run_update ht hk hb hg i (.bool true)
  have hs := heap_set (o' := Obj.map es' clock') hb
  refine ⟨_, hrun, ⟨es', clock', hs.1, hg', fun e he => ?_, fun j => ?_⟩, ⟨rfl, rfl, rfl, by simp, fun k hk hne => hs.2 k (fun h => hne (by rw [h]))⟩⟩
  · by_cases hek : e.key = .int .i64 i
    · exact hval e he hek
    · obtain ⟨e0, h0, _, h2⟩ := hback e he hek
      rw [← h2]; exact hv e0 h0
  · by_cases hji : j = i
    · subst hji
      simp only [decide_true, Bool.true_or, true_iff]
      obtain ⟨e, he, h1, _⟩ := hin
      exact ⟨e, he, h1⟩
    · simp only [hji, decide_false, Bool.false_or]
      rw [hi j]
      constructor
      · rintro ⟨e, he, hk2⟩
        obtain ⟨e0, h0, h1, _⟩ := hforth e he (by rw [hk2]; intro hh; injection hh with _ hh; exact hji hh)
        exact ⟨e0, h0, h1.trans hk2⟩
      · rintro ⟨e, he, hk2⟩
        obtain ⟨e0, h0, h1, _⟩ := hback e he (by rw [hk2]; intro hh; injection hh with _ hh; exact hji hh)
        exact ⟨e0, h0, h1.trans hk2⟩
end
/-- v is a map told as_ a set: a lookup of i gives what o says, in every world that stands above w. -/
def IsLook (P : Program) (mt : Nat) (w : World) (v : Value) (o : Int → Option Bool) : Prop :=
  ∀ W, Below w.heap.size w W → ∀ i r, o i = some r → (Instr.lookup mt v (.int .i64 i) false).run P W = .ok (.bool r) W
theorem IsLook.below {P : Program} {mt : Nat} {w W : World} {v : Value} {o : Int → Option Bool} (h : IsLook P mt w v o) (hB : Below w.heap.size w W) : IsLook P mt W v o :=
  fun W2 hW2 => h W2 (below_step hB hW2)
theorem IsLook.nil {P : Program} {mt kt et : Nat} (ht : P.underlying mt = some (.map kt et)) (hk : P.underlying kt = some (.int .i64)) (hz : ∀ w, (zeroValue et).run P w = .ok (.bool false) w) (w : World) : IsLook P mt w (.map none) (fun _ => some false) :=
  fun W _ i r h => by obtain rfl := Option.some.inj h; exact run_lookup_nil ht hk i (hz W)
section
variable {P : Program} {ops : Array Oper} {Q : Exit → Act → World → Prop}
/-- A lookup in such a map, as_ one step. -/
theorem goesK_ {rest : List Oper} {oi : Oper} {a : Act} {w0 w : World} (N : Option Tmp) (hd : oi.dst = N) (hg : oi.guard = none) {mt : Nat} {v : Value} {o : Int → Option Bool} (hF : IsLook P mt w0 v o) {x y : Operand}
    (hop : oi.op = .lookup mt x y false) (hx : a.eval x = v) {i : Int} (hy : a.eval y = .int .i64 i) (hB : Below w0.heap.size w0 w) {r : Bool} (ho : o i = some r)
    (h : ∀ w2, Below w.heap.size w w2 → wpList P ops Q rest (a.put N (.bool r)) w2) : wpList P ops Q (oi :: rest) a w := by
  refine wpList_plain hg fun K hK => ?_
  have hr := hF w hB i r ho
  unfold Oper.wp
  simp only [execOp, hop, hx, hy]
  simp [hr, Result.andThen]
  subst hd
  exact hK _ _ (h w (Below.refl _ _))
end
end Go.Proofs.Ytpmadffgdfholaa.B
namespace Go.Proofs.Ytpmadffgdfholaa.B
open Go.RowKit Go.MapKept Go.Proofs.YtpmadffgdfholaaW.PrintWords Go.Proofs.YtpmadffgdfholaaW.PrintLast Go.Proofs.YtpmadffgdfholaaW.PrintMore
/-- Block m is a map of rows: row i holds g i; rows of two keys lie apart. -/
def GrpM (w : World) (base m : Nat) (g : Int → List Int) : Prop :=
  ∃ es clock, w.heap[m]? = some (.map es clock) ∧ Good es clock ∧
    (∀ e ∈ es.toList, ∀ i, e.key = .int .i64 i → Kd.R (Kd.int .i64) 3 w base (fun _ => True) e.val (g i)) ∧
    (∀ i, g i ≠ [] → ∃ e ∈ es.toList, e.key = .int .i64 i) ∧
    (∀ x ∈ es.toList, ∀ y ∈ es.toList, x.key ≠ y.key → ∀ k, x.val.ownBlock = some k → y.val.ownBlock ≠ some k)
theorem GrpM.lt {w : World} {base m : Nat} {g : Int → List Int} (h : GrpM w base m g) : m < w.heap.size := by
  obtain ⟨es, clock, hb, _⟩ := h
  exact blk_lt hb
theorem GrpM.step {w w1 : World} {base m : Nat} {g : Int → List Int} (h : GrpM w base m g) (hk : ∀ k, k < w.heap.size → (k = m ∨ ∃ cells, w.heap[k]? = some (.cells cells 3 (0, 0))) → w1.heap[k]? = w.heap[k]?) : GrpM w1 base m g := by
  obtain ⟨es, clock, hb, hg, hr, hin, hap⟩ := h
  refine ⟨es, clock, (hk m (blk_lt hb) (.inl rfl)).trans hb, hg, fun e he i hi => ?_, hin, hap⟩
  refine Kd.R_mono (Kd.R_move (Kd.R_bound (hr e he i hi)) (fun k h => ?_)) (fun _ _ => trivial)
  obtain ⟨_, _, hlt, q, hq, cells, hc⟩ := h
  have : q = 3 := by
    rcases List.mem_cons.1 hq with h | h
    · exact h
    · exact absurd h (by simp [Kd.int, Kd.scalar])
  subst this
  exact hk k hlt (.inr ⟨cells, hc⟩)
theorem GrpM.below {w w1 : World} {base m : Nat} {g : Int → List Int} (h : GrpM w base m g) (hb : Below w.heap.size w w1) : GrpM w1 base m g := h.step fun k hk _ => hb.block k hk
theorem GrpM.drew {w : World} {base m : Nat} {g : Int → List Int} (h : GrpM w base m g) : GrpM w.drew base m g := h.step fun _ _ _ => rfl
theorem GrpM.far {w : World} {base m : Nat} {g : Int → List Int} (h : GrpM w base m g) {a i : Nat} {cs : Array Value} {t : TypeId} (hb : w.heap[a]? = some (.cells cs t (0, 0))) (ht : t ≠ 3) (u : Value) : GrpM (w.setCell ⟨a, i, none⟩ u) base m g := by
  refine h.step fun k hk hor => Below.heap_setCell w ⟨a, i, none⟩ u k ?_
  rintro rfl
  rcases hor with rfl | ⟨cells, hc⟩
  · obtain ⟨es, clock, hb2, _⟩ := h
    rw [hb] at hb2; injection hb2 with hb2; cases hb2
  · rw [hb] at hc; injection hc with hc; injection hc with _ hc; exact ht hc
theorem GrpM.ne_cells {w : World} {base m a : Nat} {g : Int → List Int} {cs : Array Value} {t : TypeId} {fr : Nat × Nat} (h : GrpM w base m g) (hb : w.heap[a]? = some (.cells cs t fr)) : m ≠ a := by
  rintro rfl
  obtain ⟨es, clock, hb2, _⟩ := h
  rw [hb] at hb2; injection hb2 with hb2; cases hb2
/-- A lookup, what it gives, and what a longer row in the same place makes of the map. -/
theorem GrpM.lookup {P : Program} {w : World} {base m mt kt et : Nat} {g : Int → List Int} (h : GrpM w base m g) (ht : P.underlying mt = some (.map kt et)) (hk : P.underlying kt = some (.int .i64)) (i : Int) (hz : ∀ w, (zeroValue et).run P w = .ok (.slice none 0 0) w) :
    ∃ v, (∀ w', w'.heap[m]? = w.heap[m]? → (Instr.lookup mt (.map (some m)) (.int .i64 i) false).run P w' = .ok v w') ∧
      Kd.R (Kd.int .i64) 3 w base (fun _ => True) v (g i) ∧ v.ownBlock ≠ some m ∧
      ∀ (w1 : World) (v' : Value) (zs : List Int), w.grownBy w1 v.ownBlock → Kd.R (Kd.int .i64) 3 w1 base (fun _ => True) v' zs → (v'.ownBlock = v.ownBlock ∨ ∃ b, v'.ownBlock = some b ∧ w.heap.size ≤ b) →
        ∃ w2, (Instr.mapUpdate mt (.map (some m)) (.int .i64 i) v').run P w1 = .ok () w2 ∧ GrpM w2 base m (fun j => if j = i then zs else g j) ∧ w1.grownBy w2 (some m) := by
  obtain ⟨es, clock, hb, hg, hr, hin, hap⟩ := h
  have hrow : ∀ {W : World} {v : Value} {zs : List Int}, W.heap[m]? = some (.map es clock) → Kd.R (Kd.int .i64) 3 W base (fun _ => True) v zs → v.ownBlock ≠ some m := by
    intro W v zs hB hR he
    obtain ⟨inner, ho⟩ := Kd.R_own hR
    obtain ⟨cells, hc⟩ := own_typed ho m he
    rw [hB] at hc; injection hc with hc; cases hc
  have back : ∀ (v : Value), v.ownBlock ≠ some m → (∀ x ∈ es.toList, x.key ≠ .int .i64 i → ∀ k, x.val.ownBlock = some k → v.ownBlock ≠ some k) →
      ∀ (w1 : World) (v' : Value) (zs : List Int), w.grownBy w1 v.ownBlock → Kd.R (Kd.int .i64) 3 w1 base (fun _ => True) v' zs → (v'.ownBlock = v.ownBlock ∨ ∃ b, v'.ownBlock = some b ∧ w.heap.size ≤ b) →
        ∃ w2, (Instr.mapUpdate mt (.map (some m)) (.int .i64 i) v').run P w1 = .ok () w2 ∧ GrpM w2 base m (fun j => if j = i then zs else g j) ∧ w1.grownBy w2 (some m) := by
    intro v hvm hvap w1 v' zs hgr hR' hloc
    have hb1 : w1.heap[m]? = some (.map es clock) := (hgr.block m (blk_lt hb) (fun h => hvm h.symm)).trans hb
    obtain ⟨es', clock', hrun, hg', hin', hback, hforth, hval⟩ := run_update ht hk hb1 hg i v'
    have hs := heap_set (o' := Obj.map es' clock') hb1
    have hgr2 : w1.grownBy { w1 with heap := w1.heap.setIfInBounds m (.map es' clock') } (some m) := ⟨rfl, rfl, rfl, by simp, fun k hk hne => hs.2 k (fun h => hne (by rw [h]))⟩
    refine ⟨_, hrun, ⟨es', clock', hs.1, hg', fun e he j hj => ?_, fun j hj => ?_, fun x hx y hy hne k hkx => ?_⟩, hgr2⟩
    · by_cases hji : j = i
      · subst hji
        simp only [↓reduceIte]
        rw [hval e he hj]
        have hR3 : Kd.R (Kd.int .i64) 3 w1 base (fun k => v'.ownBlock = some k) v' zs := Kd.R_of_own (Kd.own_of_R hR') (fun _ h => h)
        exact Kd.R_mono (Kd.R_step hR3 fun k hkk hlt => hgr2.block k hlt (fun h => by
          injection h with h; subst h
          exact hrow hb1 hR' hkk)) (fun _ _ => trivial)
      · simp only [if_neg hji]
        have hek : e.key ≠ .int .i64 i := by rw [hj]; intro hh; injection hh with _ hh; exact hji hh
        obtain ⟨e0, h0, h1, h2⟩ := hback e he hek
        rw [← h2]
        have hR0 := hr e0 h0 j (h1.trans hj)
        have hne0 : ∀ k, e0.val.ownBlock = some k → v.ownBlock ≠ some k := hvap e0 h0 (by rw [h1]; exact hek)
        have hR1 : Kd.R (Kd.int .i64) 3 w base (fun k => e0.val.ownBlock = some k) e0.val (g j) := Kd.R_of_own (Kd.own_of_R hR0) (fun _ h => h)
        have hR2 := Kd.R_grown hR1 hgr (fun k hk h => hne0 k hk h.symm)
        exact Kd.R_mono (Kd.R_step hR2 fun k hkk hlt => hgr2.block k hlt (fun h => by
          injection h with h; subst h
          exact hrow hb hR0 hkk)) (fun _ _ => trivial)
    · by_cases hji : j = i
      · obtain ⟨e, he, h1, _⟩ := hin'
        exact ⟨e, he, hji ▸ h1⟩
      · simp only [if_neg hji] at hj
        obtain ⟨e, he, h1⟩ := hin j hj
        obtain ⟨e0, h0, h2, _⟩ := hforth e he (by rw [h1]; intro hh; injection hh with _ hh; exact hji hh)
        exact ⟨e0, h0, h2.trans h1⟩
    · have old : ∀ z ∈ es'.toList, z.key ≠ .int .i64 i → ∃ z0 ∈ es.toList, z0.key = z.key ∧ z0.val = z.val := hback
      have lo : ∀ z ∈ es.toList, ∀ k, z.val.ownBlock = some k → k < w.heap.size := fun z hz k hk => by
        obtain ⟨j, hj⟩ := hg.keys z hz
        exact own_lt (Kd.own_of_R (hr z hz j hj)) k hk
      have new : ∀ z ∈ es.toList, z.key ≠ .int .i64 i → ∀ k, z.val.ownBlock = some k → v'.ownBlock ≠ some k := fun z hz hzk k hk h' => by
        rcases hloc with h | ⟨b, h, hge⟩
        · exact hvap z hz hzk k hk (h ▸ h')
        · have := lo z hz k hk
          rw [h] at h'; injection h' with h'; omega
      by_cases hxi : x.key = .int .i64 i
      · have hyi : y.key ≠ .int .i64 i := fun h => hne (hxi.trans h.symm)
        obtain ⟨y0, hy0, e1, e2⟩ := old y hy hyi
        rw [hval x hx hxi] at hkx
        rw [← e2]
        intro hyk
        exact new y0 hy0 (e1 ▸ hyi) k hyk hkx
      · obtain ⟨x0, hx0, e1, e2⟩ := old x hx hxi
        rw [← e2] at hkx
        by_cases hyi : y.key = .int .i64 i
        · rw [hval y hy hyi]
          exact new x0 hx0 (e1 ▸ hxi) k hkx
        · obtain ⟨y0, hy0, e3, e4⟩ := old y hy hyi
          rw [← e4]
          exact hap x0 hx0 y0 hy0 (by rw [e1, e3]; exact hne) k hkx
  by_cases hex : ∃ e ∈ es.toList, e.key = .int .i64 i
  · obtain ⟨e, he, hi⟩ := hex
    have hm := hrow hb (hr e he i hi)
    exact ⟨e.val, fun w' hw' => run_lookup_in ht hk (hw'.trans hb) hg i he hi, hr e he i hi, hm, back e.val hm (fun x hx hne k hkx => hap x hx e he (by rw [hi]; exact hne) k hkx)⟩
  · have hg0 : g i = [] := Classical.byContradiction fun h => hex (hin i h)
    refine ⟨.slice none 0 0, fun w' hw' => run_lookup_out ht hk (hw'.trans hb) hg i (fun e he h => hex ⟨e, he, h⟩) (hz w'), by rw [hg0]; exact Kd.R_nil _ _ _ _ _, by simp [Value.ownBlock], back _ (by simp [Value.ownBlock]) (fun x _ _ k _ => by simp [Value.ownBlock])⟩
end Go.Proofs.Ytpmadffgdfholaa.B
namespace Go.Proofs.Ytpmadffgdfholaa.B
open Go.RowKit Go.MapKept Go.Proofs.YtpmadffgdfholaaW.PrintWords Go.Proofs.YtpmadffgdfholaaW.PrintLast Go.Proofs.YtpmadffgdfholaaW.PrintMore
set_option linter.unusedVariables false
set_option linter.unusedSimpArgs false
attribute [local go_sem ↓] Go.wp_at_zero Go.wp_at_succ
/-- A street that read takes. -/
def wayOk (n : Int) (x : S30) : Bool := !(decide (mn x.f0 x.f1 < 0) || decide (n ≤ mx x.f0 x.f1) || (x.f0 == x.f1) || decide (x.f2 < 0) || decide (1000 < x.f2))
/-- What read answers: 0, 2 or 3. -/
def readB (n : Int) (l : List S30) : Int := if n < 2 ∨ 7 < n then 2 else if 30 < l.length then 3 else if l.all (wayOk n) then 0 else 2
/-- The numbers of the first j streets that lead to b. -/
def toB (l : List S30) (j : Nat) (b : Int) : List Int := ((List.range j).filter fun q : Nat => (rd_T30 l (q : Int)).f1 == b).map (fun q : Nat => (q : Int))
theorem toB_succ (l : List S30) (j : Nat) (b : Int) : toB l (j + 1) b = if (rd_T30 l (j : Int)).f1 = b then toB l j b ++ [(j : Int)] else toB l j b := by
  unfold toB
  rw [List.range_succ, List.filter_append, List.map_append]
  by_cases h : (rd_T30 l (j : Int)).f1 = b <;> simp [h]
theorem toB_len (l : List S30) (j : Nat) (b : Int) : (toB l j b).length ≤ j := by
  induction j with
  | zero => simp [toB]
  | succ j ih => rw [toB_succ]; split <;> (try simp) <;> omega
theorem all_upto (p : S30 → Bool) (l : List S30) (h : ∀ j : Nat, j < l.length → p (rd_T30 l (j : Int)) = true) : l.all p = true := by
  rw [List.all_eq_true]
  intro x hx
  obtain ⟨j, hj, rfl⟩ := List.getElem_of_mem hx
  have := h j hj
  simpa [rd_T30, List.getD, List.getElem?_eq_getElem hj] using this
theorem not_all (p : S30 → Bool) (l : List S30) (j : Nat) (hj : j < l.length) (h : p (rd_T30 l (j : Int)) = false) : l.all p = false := by
  rw [List.all_eq_false]
  refine ⟨l[j], List.getElem_mem hj, ?_⟩
  simpa [rd_T30, List.getD, List.getElem?_eq_getElem hj] using h
theorem map_event {P : Program} {ops : Array Oper} {rest : List Oper} {o : Oper} {a : Act} {Q : Exit → Act → World → Prop} {W : World} (hgd : o.guard = none) {N : Tmp} (_hd : o.dst = some N)
    (hrun : (execOp a.eval o).run P W = .ok (.value (.map (some W.heap.size))) (W.alloc (.map #[] 0)))
    (h : ∀ m, m = W.heap.size → ∀ w1, w1.heap[m]? = some (.map #[] 0) → Below W.heap.size W w1 → wpList P ops Q rest (a.put o.dst (.map (some m))) w1) : wpList P ops Q (o :: rest) a W :=
  Kd.event_run hgd hrun (h _ rfl _ (blk_new W _) (below_alloc (Below.refl _ _) _))
theorem GrpM.new {w : World} {base m : Nat} (h : w.heap[m]? = some (.map #[] 0)) : GrpM w base m (fun _ => []) :=
  ⟨#[], 0, h, Good.empty 0, by simp, fun _ h => absurd rfl h, by simp⟩
theorem SetM.new {w : World} {m : Nat} (h : w.heap[m]? = some (.map #[] 0)) : SetM w m (fun _ => false) := ⟨#[], 0, h, Good.empty 0, by simp, by simp⟩
theorem GrpM.self {w : World} {base m : Nat} {g : Int → List Int} (_ : GrpM w base m g) : Below w.heap.size w w := Below.refl _ _
theorem toB_step (l : List S30) (i : Nat) (b : Int) (hx : (rd_T30 l (i : Int)).f1 = b) : toB l (i + 1) = (fun j => if j = b then toB l i b ++ [(i : Int)] else toB l i j) := by
  funext j
  rw [toB_succ, hx]
  by_cases h : b = j
  · subst h; simp
  · rw [if_neg h, if_neg (fun h2 => h h2.symm)]
theorem val_succ (i : Nat) (h : i < 1000000) : Value.int .i64 (wrap64 ((i : Int) + 1)) = Value.int .i64 ((i + 1 : Nat) : Int) := by rw [show wrap64 ((i : Int) + 1) = ((i + 1 : Nat) : Int) from by unfold wrap64; omega]
theorem step_lookup {P : Program} {ops : Array Oper} {o : Oper} {a : Act} {w : World} {K : Act → World → Prop} {Q : Exit → Act → World → Prop} {E : Prop} (hgd : o.guard = none) (m x : Operand) (t : TypeId)
    (ho : o.op = Op.lookup t m x false) {mv kv v : Value} (hm : a.eval m = mv) (hx : a.eval x = kv) (hrun : (Instr.lookup t mv kv false).run P w = .ok v w) (h : K (a.put o.dst v) w) :
    if Region.wanted o (yielded ops a.tmps) = true then Oper.wp P o a w K Q else E := by
  have hw : Region.wanted o (yielded ops a.tmps) = true := by simp [Region.wanted, hgd]
  rw [if_pos hw]
  unfold Oper.wp
  simp [execOp, ho, hm, hx, hrun, Result.andThen]
  exact h
theorem grown_then {w w1 w2 : World} {row : Option Nat} (h : Below w.heap.size w w1) (hg : w1.grownBy w2 row) : w.grownBy w2 row :=
  ⟨hg.os.trans h.os, hg.tape.trans h.tape, hg.output.trans h.output, Nat.le_trans h.size hg.size, fun k hk hne => (hg.block k (Nat.lt_of_lt_of_le hk h.size) hne).trans (h.block k hk)⟩
set_option maxHeartbeats 8000000 in
set_option maxRecDepth 100000 in
theorem read_calls (n : Int) (A : Option Addr) (c : Nat) (l : List S30) (w : World) (hr1 : Kd.C k30 w A l.length l) (hc1 : l.length ≤ c) :
    Calls Try.prog 44 #[.int .i64 n, .slice A l.length c] w fun e w' => (readB n l = 0 ∧ ∃ g m, e = .returned (.tuple #[.pointer (some ⟨g, 0, none⟩), .int .i64 0]) ∧ w.heap.size ≤ g ∧ w.heap.size ≤ m ∧
      w'.heap[g]? = some (.cells #[.int .i64 n, .slice A l.length c, .map (some m)] 70 (0, 0)) ∧ GrpM w' w.heap.size m (toB l l.length) ∧ Below w.heap.size w w') ∨
      (readB n l ≠ 0 ∧ e = .returned (.tuple #[.pointer none, .int .i64 (readB n l)]) ∧ Below w.heap.size w w') := by
  have hu30 := Try.underlying30
  have HR1 := Aside0.mk hr1
  have HC1 := Aside0.mk hc1
  clear hr1 hc1
  have HB := Aside0.mk (Below.refl w.heap.size w)
  go_enter Try.func44, Try.ntmps44
  by_cases c1 : n < 2
  · have c1b : decide (n < 2) = true := decide_eq_true c1
    have hR : readB n l = 2 := by unfold readB; rw [if_pos (.inl c1)]
    have HRX := Aside0.mk hR
    clear hR
    go_wp2
    go_ret2
    exact .inr ⟨by rw [HRX.out]; decide, by rw [HRX.out]; rfl, HB.out⟩
  have c1b : decide (n < 2) = false := decide_eq_false c1
  by_cases c2 : 7 < n
  · have c2b : decide (7 < n) = true := decide_eq_true c2
    have hR : readB n l = 2 := by unfold readB; rw [if_pos (.inr c2)]
    have HRX := Aside0.mk hR
    clear hR
    go_wp2
    go_ret2
    exact .inr ⟨by rw [HRX.out]; decide, by rw [HRX.out]; rfl, HB.out⟩
  have c2b : decide (7 < n) = false := decide_eq_false c2
  by_cases c3 : 30 < (l.length : Int)
  · have c3b : decide (30 < (l.length : Int)) = true := decide_eq_true c3
    have c3b2 : decide (30 < l.length) = true := decide_eq_true (by omega)
    have hR : readB n l = 3 := by unfold readB; rw [if_neg (by omega), if_pos (by omega)]
    have HRX := Aside0.mk hR
    clear hR
    go_wp2
    go_ret2
    exact .inr ⟨by rw [HRX.out]; decide, by rw [HRX.out]; rfl, HB.out⟩
  have c3b : decide (30 < (l.length : Int)) = false := decide_eq_false c3
  have c3b2 : decide (30 < l.length) = false := decide_eq_false (by omega)
  have HL := Aside0.mk (show l.length ≤ 30 by omega)
  have hR : readB n l = if l.all (wayOk n) then 0 else 2 := by unfold readB; rw [if_neg (by omega), if_neg (by omega)]
  have HRB := Aside0.mk hR
  clear hR c1 c2 c3
  have h0 : (0 : Int) ≤ n := by have := of_decide_eq_false c1b; omega
  go_wp2_with (first | ((with_reducible refine gate_dst (N := 22) rfl ?_); refine map_event ?hg (N := 22) ?hd ?hr ?_; (case hd => rfl); (case hg => rfl); (case hr => rfl); intro m hm w1 hmap hb; have n0_ := Aside0.mk (GrpM.new (base := w.heap.size) hmap); have n1_ := Aside0.mk (below_step (by repeat (first | (with_reducible first | exact HB.out | apply below_alloc | apply pw_below_drewN | apply below_drew1) | exact HB.out)) hb); have GM := Aside0.mk ((by rw [hm]; exact (below_size (by repeat (first | (with_reducible first | exact HB.out | apply below_alloc | apply pw_below_drewN | apply below_drew1) | exact HB.out)))) : w.heap.size ≤ m); clear HB; have HG := n0_; have HB := n1_; clear n0_ n1_; clear hm hmap hb) | ((with_reducible refine gate_dst (N := 24) rfl ?_); refine box_event ?hg (N := 24) ?hd (cs := #[.int .i64 n, .slice A l.length c, .map (some m)]) (t := 70) ?hr ?_; (case hd => rfl); (case hg => rfl); (case hr => first | (go_simp; done) | (go_simp; rfl)); intro gt hg w2 hbox hb; have n0_ := Aside0.mk (GrpM.below (w1 := w2) (by repeat (first | exact HG.out | refine GrpM.drew ?_)) hb); have n1_ := Aside0.mk (below_step (by repeat (first | (with_reducible first | exact HB.out | apply below_alloc | apply pw_below_drewN | apply below_drew1) | exact HB.out)) hb); have HT := Aside0.mk hbox; have GT := Aside0.mk ((by rw [hg]; exact (below_size (by repeat (first | (with_reducible first | exact HB.out | apply below_alloc | apply pw_below_drewN | apply below_drew1) | exact HB.out)))) : w.heap.size ≤ gt); clear HG HB; have HG := n0_; have HB := n1_; clear n0_ n1_; clear hg hbox hb))
  go_loopg [27] l.length (fun kq v27 w' => ∃ i : Nat, v27 = .int .i64 (i : Int) ∧ Aside0 (i + kq = l.length) ∧ Aside0 (∀ j : Nat, j < i → wayOk n (rd_T30 l (j : Int)) = true) ∧ Aside0 (w'.heap[gt]? = some (.cells #[.int .i64 n, .slice A l.length c, .map (some m)] 70 (0, 0))) ∧ Aside0 (GrpM w' w.heap.size m (toB l i)) ∧ Aside0 (Below w.heap.size w w'))
  case atStart => exact ⟨0, rfl, ⟨by simp⟩, ⟨fun j h => absurd h (by omega)⟩, HT, ⟨HG.out⟩, HB⟩
  case round =>
    clear HT HG HB
    obtain ⟨i, rfl, HI, HA, HT, HG, HB⟩ := hrel
    cases gk with
    | zero =>
      have hi := HI.out
      have c4b : decide ((i : Int) < (l.length : Int)) = false := decide_eq_false (by omega)
      have c4b2 : decide (i < l.length) = false := decide_eq_false (by omega)
      have hl : i = l.length := by omega
      have HLI := Aside0.mk hl
      clear hl hi
      go_wp2
      go_ret2
      exact .inl ⟨by rw [HRB.out, if_pos (all_upto _ l (HLI.out ▸ HA.out))], gt, m, rfl, GT.out, GM.out, HT.out, HLI.out ▸ HG.out, HB.out⟩
    | succ k1 =>
      have hi0 : (0 : Int) ≤ (i : Int) := Int.natCast_nonneg _
      have hi1 : (i : Int) < (l.length : Int) := by have := HI.out; omega
      have c4b : decide ((i : Int) < (l.length : Int)) = true := decide_eq_true hi1
      have c4b2 : decide (i < l.length) = true := decide_eq_true (by omega)
      have hi2 : i < l.length := by omega
      replace hi2 := eq_true hi2
      have c4c : decide ((0 : Int) ≤ (i : Int)) = true := decide_eq_true hi0
      obtain ⟨ad, e, hx_0, hx_1, hx_2⟩ := at_T30 HR1.out (i : Int) hi0 hi1
      cases e
      obtain ⟨x, hx⟩ : ∃ x, rd_T30 l (i : Int) = x := ⟨_, rfl⟩
      have HX := Aside0.mk hx
      rw [hx] at hx_0 hx_1 hx_2
      clear hx
      simp only [Int.toNat_natCast] at hx_0 hx_1 hx_2
      replace hx_0 := (HB.out.cell (World.block_lt_of_cell? w _ hx_0)).trans hx_0
      replace hx_1 := (HB.out.cell (World.block_lt_of_cell? w _ hx_1)).trans hx_1
      replace hx_2 := (HB.out.cell (World.block_lt_of_cell? w _ hx_2)).trans hx_2
      replace hi0 := eq_true hi0
      replace hi1 := eq_true hi1
      have HB0 := Aside0.mk HG.out.self
      go_upto_region 9 with (fail)
      (try simp only [Act.put, List.setIfInBounds_toArray, List.set_cons_zero, List.set_cons_succ])
      obtain ⟨gb, hgb⟩ : ∃ gb, wr.heap.size = gb := ⟨_, rfl⟩
      rw [hgb]
      obtain ⟨wq, hwq⟩ : ∃ wq, wr.alloc (.cells #[.int .i64 x.f0, .int .i64 x.f1, .int .i64 x.f2] 30) = wq := ⟨_, rfl⟩
      rw [hwq]
      have HB1 := Aside0.mk (hwq ▸ below_alloc HB0.out _ : Below wr.heap.size wr wq)
      have BK := Aside0.mk (hgb ▸ hwq ▸ heap_alloc_new wr _ : wq.heap[gb]? = some (.cells #[.int .i64 x.f0, .int .i64 x.f1, .int .i64 x.f2] 30 (0, 0)))
      have GEB := Aside0.mk (hgb ▸ HB.out.size : w.heap.size ≤ gb)
      have HB2 := Aside0.mk (below_step HB.out HB1.out)
      have HT2 := Aside0.mk (blk_below HT.out HB1.out)
      have HG2 := Aside0.mk (GrpM.below HG.out HB1.out)
      clear hgb hwq HB HT HG HB0 HB1 hx_0 hx_1 hx_2
      have hb_0 : wq.cell? ⟨gb, 0, none⟩ = some (.int .i64 x.f0) := (blk_cell BK.out 0).trans rfl
      have hb_1 : wq.cell? ⟨gb, 1, none⟩ = some (.int .i64 x.f1) := (blk_cell BK.out 1).trans rfl
      have hb_2 : wq.cell? ⟨gb, 2, none⟩ = some (.int .i64 x.f2) := (blk_cell BK.out 2).trans rfl
      go_cut [63] (fun v63 wc => ∃ b, v63 = .bool b ∧ Aside0 (b = !wayOk n x) ∧ Aside0 (wc.heap[gb]? = some (.cells #[.int .i64 x.f0, .int .i64 x.f1, .int .i64 x.f2] 30 (0, 0))) ∧ Aside0 (wc.heap[gt]? = some (.cells #[.int .i64 n, .slice (some ad) l.length c, .map (some m)] 70 (0, 0))) ∧ Aside0 (GrpM wc w.heap.size m (toB l i)) ∧ Aside0 (Below w.heap.size w wc))
      case first =>
        obtain ⟨jm, hjm⟩ : ∃ j_ : Int, mn x.f0 x.f1 = j_ := ⟨_, rfl⟩
        have hjm_ : (if x.f1 < x.f0 then x.f1 else x.f0) = jm := hjm
        obtain ⟨jx, hjx⟩ : ∃ j_ : Int, mx x.f0 x.f1 = j_ := ⟨_, rfl⟩
        have hjx_ : (if x.f0 < x.f1 then x.f1 else x.f0) = jx := hjx
        have HW := Aside0.mk (show (!wayOk n x) = (decide (jm < 0) || decide (n ≤ jx) || (x.f0 == x.f1) || decide (x.f2 < 0) || decide (1000 < x.f2)) by rw [← hjm, ← hjx]; simp [wayOk])
        clear hjm hjx
        by_cases t0 : jm < 0
        · have s0 : decide (jm < 0) = true := decide_eq_true t0
          clear t0
          go_wp2
          go_meet
          case rel => exact ⟨_, rfl, ⟨by rw [HW.out]; simp only [s0, Bool.true_or, Bool.or_true]⟩, BK, HT2, HG2, HB2⟩
        have s0 : decide (jm < 0) = false := decide_eq_false t0
        clear t0
        by_cases t1 : n ≤ jx
        · have s1 : decide (n ≤ jx) = true := decide_eq_true t1
          clear t1
          go_wp2
          go_meet
          case rel => exact ⟨_, rfl, ⟨by rw [HW.out]; simp only [s0, s1, Bool.true_or, Bool.or_true]⟩, BK, HT2, HG2, HB2⟩
        have s1 : decide (n ≤ jx) = false := decide_eq_false t1
        clear t1
        by_cases t2 : x.f0 = x.f1
        · have s2 : (x.f0 == x.f1) = true := beq_iff_eq.mpr t2
          clear t2
          go_wp2
          go_meet
          case rel => exact ⟨_, rfl, ⟨by rw [HW.out]; simp only [s0, s1, s2, Bool.true_or, Bool.or_true]⟩, BK, HT2, HG2, HB2⟩
        have s2 : (x.f0 == x.f1) = false := beq_eq_false_iff_ne.mpr t2
        clear t2
        by_cases t3 : x.f2 < 0
        · have s3 : decide (x.f2 < 0) = true := decide_eq_true t3
          clear t3
          go_wp2
          go_meet
          case rel => exact ⟨_, rfl, ⟨by rw [HW.out]; simp only [s0, s1, s2, s3, Bool.true_or, Bool.or_true]⟩, BK, HT2, HG2, HB2⟩
        have s3 : decide (x.f2 < 0) = false := decide_eq_false t3
        clear t3
        by_cases t4 : 1000 < x.f2
        · have s4 : decide (1000 < x.f2) = true := decide_eq_true t4
          clear t4
          go_wp2
          go_meet
          case rel => exact ⟨_, rfl, ⟨by rw [HW.out]; simp only [s0, s1, s2, s3, s4, Bool.true_or, Bool.or_true]⟩, BK, HT2, HG2, HB2⟩
        have s4 : decide (1000 < x.f2) = false := decide_eq_false t4
        clear t4
        go_wp2
        go_meet
        case rel => exact ⟨_, rfl, ⟨by rw [HW.out]; simp only [s0, s1, s2, s3, s4, Bool.or_false]⟩, BK, HT2, HG2, HB2⟩
      case rest =>
        clear BK HT2 HG2 HB2 hb_0 hb_1 hb_2
        obtain ⟨b, rfl, HW, BK, HT, HG, HB⟩ := hcut
        cases b with
        | true =>
          go_wp2
          go_ret2
          have hz : readB n l = 2 := by rw [HRB.out, not_all _ l i (by have := HI.out; omega) (by rw [HX.out]; have := HW.out; cases hh : wayOk n x <;> simp [hh] at this ⊢)]; rfl
          exact .inr ⟨by rw [hz]; decide, by rw [hz]; rfl, HB.out⟩
        | false =>
          obtain ⟨i0, hi0_, hz0, hz1, hz2⟩ := info_parts info3
          have hm3 : Aside0 (∀ w, (zeroValue 28).run Try.prog w = .ok (.slice none 0 0) w) := ⟨fun w => by first | rfl | (go_simp; done)⟩
          obtain ⟨v, hlook, hRv, hvm, hback⟩ := GrpM.lookup HG.out Try.underlying68 Try.underlying3 x.f1 hm3.out
          have hown := Kd.own_of_R hRv
          have HBK := Aside0.mk hback
          have HLK := Aside0.mk hlook
          have hlk : (Instr.lookup 68 (.map (some m)) (.int .i64 x.f1) false).run Try.prog wc.drew = .ok v wc.drew := HLK.out wc.drew rfl
          have hlk2 : (Instr.lookup 68 (.map (some m)) (.int .i64 x.f1) false).run Try.prog (wc.alloc (.cells #[.int .i64 (i : Int)] 3)).drew = .ok v (wc.alloc (.cells #[.int .i64 (i : Int)] 3)).drew := HLK.out _ (Below.heap_alloc wc _ m HG.out.lt)
          clear hback hlook
          have hbx : wc.cell? ⟨gb, 1, none⟩ = some (.int .i64 x.f1) := (blk_cell BK.out 1).trans rfl
          have htx : wc.cell? ⟨gt, 2, none⟩ = some (.map (some m)) := (blk_cell HT.out 2).trans rfl
          have hvb : v.ownBlock ≠ some gb := fun h => (blk_ne ((own_typed hown gb h).choose_spec) BK.out (by decide)) rfl
          have hvt : v.ownBlock ≠ some gt := fun h => (blk_ne ((own_typed hown gt h).choose_spec) HT.out (by decide)) rfl
          have lb := blk_lt BK.out
          have lt := blk_lt HT.out
          have lm := HG.out.lt
          have hll : (toB l i x.f1).length ≤ 30 := Nat.le_trans (toB_len l i x.f1) (by have := HI.out; have := HL.out; omega)
          have hbase : w.heap.size ≤ wc.heap.size := HB.out.size
          have hmt : gt ≠ m := fun h => HG.out.ne_cells HT.out h.symm
          have hmb : gb ≠ m := fun h => HG.out.ne_cells BK.out h.symm
          go_wp2_with fail
          go_region_held3 (fun w' => w'.cell? ⟨gt, 2, none⟩ = some (.map (some m)) ∧ w'.cell? ⟨gb, 1, none⟩ = some (.int .i64 x.f1))
        (first
          | (go_split_ands
             refine ⟨by go_keep, by go_keep⟩)
          | (go_split_ands
             refine ⟨?_, ?_⟩
             · (rw [HGR2.out.cell_far _ (Nat.lt_of_lt_of_le lt HGR0.out.size) (by simpa using hmt)]; assumption)
             · (rw [HGR2.out.cell_far _ (Nat.lt_of_lt_of_le lb HGR0.out.size) (by simpa using hmb)]; assumption))
          | (go_split_ands
             refine ⟨?_, ?_⟩
             · (rw [hgrow.cell_far _ (by simp; omega) (Ne.symm hvt)]; assumption)
             · (rw [hgrow.cell_far _ (by simp; omega) (Ne.symm hvb)]; assumption)))
        (first | (refine step_lookup (by rfl) _ _ 68 (by rfl) (by rfl) (by rfl) (HLK.out _ (by first | rfl | exact Below.heap_alloc wc _ m lm)) ?_) | ((refine step_append_lies _ (by rfl) _ _ _ (by rfl) w.heap.size 3 i0 _ 1 8 Try.underlying28 hi0_ hz0 hz1 hz2 rfl (by omega) v (toB l i x.f1).length _ (by rfl) ((hown.alloc _).drew) ⟨wc.heap.size, 0, none⟩ 1 1 [.int .i64 (i : Int)] (by rfl) (by rfl) (World.news_of_block (cs := #[.int .i64 (i : Int)]) (t := 3) (fr := (0, 0)) (heap_alloc_new wc _)) (by simp [Value.oneCell']) (by omega) (by simp only [maxLen]; omega) (by omega) (by simp; omega) (wc.heap.size + 1) (by simp) ?_; intro gg cap w1 hown1 hgrow hat hlt; (have hgr0 : wc.grownBy w1 v.ownBlock := grown_then (below_drew1 (below_alloc (Below.refl _ _) _)) hgrow); (have hRn : Kd.R (Kd.int .i64) 3 w1 w.heap.size (fun _ => True) (.slice (some ⟨gg, 0, none⟩) ((toB l i x.f1).length + 1) cap) (toB l i x.f1 ++ [(i : Int)]) := Kd.R_of_own (by simpa [encs] using hown1) (fun _ _ => trivial)); (have hloc : (Value.slice (some ⟨gg, 0, none⟩) ((toB l i x.f1).length + 1) cap).ownBlock = v.ownBlock ∨ ∃ b, (Value.slice (some ⟨gg, 0, none⟩) ((toB l i x.f1).length + 1) cap).ownBlock = some b ∧ wc.heap.size ≤ b := by (rcases hat with h | h; exact .inl (by rw [h]; rfl); exact .inr ⟨gg, rfl, by omega⟩)); (obtain ⟨w2, hrun2, hG2, hgr2⟩ := HBK.out w1 _ _ hgr0 hRn hloc); have HG2 := Aside0.mk hG2; have HGR2 := Aside0.mk hgr2; have HGR0 := Aside0.mk hgr0; clear hRn hG2 hgr2 hgr0 hloc)))
          all_goals (go_wp2; go_roundg k1; (case measure => omega); (case rel => exact ⟨i + 1, val_succ i (by have := HI.out; have := HL.out; omega), ⟨by have := HI.out; omega⟩, ⟨fun j hj => by (rcases Nat.lt_or_ge j i with h | h; exact HA.out j h; (obtain rfl : j = i := by omega); rw [HX.out]; have := HW.out; cases hh : wayOk n x <;> simp [hh] at this ⊢)⟩, ⟨(HGR2.out.block gt (Nat.lt_of_lt_of_le lt HGR0.out.size) (by simpa using hmt)).trans ((HGR0.out.block gt lt (Ne.symm hvt)).trans HT.out)⟩, ⟨by have hh := HG2.out; have e := toB_step l i x.f1 (by rw [HX.out]); rw [e]; exact hh⟩, ⟨(HB.out.grown HGR0.out hbase (fun j hj => own_base hown j hj)).grown HGR2.out (Nat.le_trans hbase HGR0.out.size) (fun j hj => by cases hj; exact GM.out)⟩⟩))
def branch_read.f (a0 : Int) (l1 : List (S30)) : Option Int := some (readB a0 l1)
theorem branch_read.calls_ok (a0 : Int) (A1 : Option Addr) (c1 : Nat) (l1 : List (S30)) (r : Int) (w : World) (hr1 : Kd.C k30 w A1 l1.length l1) (hc1 : l1.length ≤ c1) (h : branch_read.f a0 l1 = some r) (hz : (r == 0) = true) :
    Calls Try.prog 44 #[.int .i64 a0, .slice A1 l1.length c1] w fun e w' => ∃ g m, e = .returned (.tuple #[.pointer (some ⟨g, 0, none⟩), .int .i64 r]) ∧ w.heap.size ≤ g ∧ w'.heap[g]? = some (.cells #[.int .i64 a0, .slice A1 l1.length c1, .map m] 70 (0, 0)) ∧ Below w.heap.size w w' := by
  obtain rfl := Option.some.inj h
  have hz' : readB a0 l1 = 0 := beq_iff_eq.mp hz
  refine (read_calls a0 A1 c1 l1 w hr1 hc1).mono ?_
  rintro e w' (⟨_, g, m, rfl, hg, _, hb, _, hB⟩ | ⟨hn, _⟩)
  · exact ⟨g, some m, by rw [hz'], hg, hb, hB⟩
  · exact absurd hz' hn
theorem branch_read.calls_map (a0 : Int) (A1 : Option Addr) (c1 : Nat) (l1 : List (S30)) (r : Int) (w : World) (hr1 : Kd.C k30 w A1 l1.length l1) (hc1 : l1.length ≤ c1) (h : branch_read.f a0 l1 = some r) (hz : (r == 0) = true) :
    Calls Try.prog 44 #[.int .i64 a0, .slice A1 l1.length c1] w fun e w' => ∃ g m, e = .returned (.tuple #[.pointer (some ⟨g, 0, none⟩), .int .i64 r]) ∧ w.heap.size ≤ g ∧ w'.heap[g]? = some (.cells #[.int .i64 a0, .slice A1 l1.length c1, .map (some m)] 70 (0, 0)) ∧ GrpM w' w.heap.size m (toB l1 l1.length) ∧ Below w.heap.size w w' := by
  obtain rfl := Option.some.inj h
  have hz' : readB a0 l1 = 0 := beq_iff_eq.mp hz
  refine (read_calls a0 A1 c1 l1 w hr1 hc1).mono ?_
  rintro e w' (⟨_, g, m, rfl, hg, _, hb, hG, hB⟩ | ⟨hn, _⟩)
  · exact ⟨g, m, by rw [hz'], hg, hb, hG, hB⟩
  · exact absurd hz' hn
theorem branch_read.calls_err (a0 : Int) (A1 : Option Addr) (c1 : Nat) (l1 : List (S30)) (r : Int) (w : World) (hr1 : Kd.C k30 w A1 l1.length l1) (hc1 : l1.length ≤ c1) (h : branch_read.f a0 l1 = some r) (hz : (r == 0) = false) :
    Calls Try.prog 44 #[.int .i64 a0, .slice A1 l1.length c1] w fun e w' => e = .returned (.tuple #[.pointer none, .int .i64 r]) ∧ Below w.heap.size w w' := by
  obtain rfl := Option.some.inj h
  have hz' : readB a0 l1 ≠ 0 := fun h => by rw [h] at hz; exact absurd hz (by decide)
  refine (read_calls a0 A1 c1 l1 w hr1 hc1).mono ?_
  rintro e w' (⟨h0, _⟩ | ⟨_, he, hB⟩)
  · exact absurd h0 hz'
  · exact ⟨he, hB⟩
end Go.Proofs.Ytpmadffgdfholaa.B
namespace Go.Proofs.Ytpmadffgdfholaa.B
open Go.RowKit Go.Proofs.YtpmadffgdfholaaW.PrintWords Go.Proofs.YtpmadffgdfholaaW.PrintLast Go.Proofs.YtpmadffgdfholaaW.PrintMore
attribute [local go_sem] max2_int min2_int max_two min_two max_three min_three max_four min_four   -- for this text's walks alone
set_option linter.unusedVariables false
set_option linter.unusedSimpArgs false
mutual
def branch_Count.l0 : Nat → Int → List (List Int) → Int → Int → Int → List (S30) → Option (Int × Int)
  | 0, _, _, _, _, _, _ => none
  | k + 1, x0, x8, x25, x26, x119000, x119001 => if x26 < x25 then (if 0 ≤ (wrap64 (x0 - 1)) then (if (wrap64 (x0 - 1) : Int).toNat ≤ 35184372088832 then (if 0 ≤ x26 then (if x26 < (x8.length : Int) then (branch_Count.l0 k x0 (x8.set (x26 : Int).toNat (List.replicate (wrap64 (x0 - 1) : Int).toNat 0)) x25 (wrap64 (x26 + 1)) x119000 x119001) else (none)) else (none)) else (none)) else (none)) else (branch_Count.l1 k x8 x119001 (x119001.length : Int) 0)
def branch_Count.l1 : Nat → List (List Int) → List (S30) → Int → Int → Option (Int × Int)
  | 0, _, _, _, _ => none
  | k + 1, x8, x39, x40, x41 => if x41 < x40 then (if 0 ≤ x41 then (if x41 < (x39.length : Int) then (if ((rd_T30 x39 x41).f1) > 0 then (if 0 ≤ (wrap64 (((rd_T30 x39 x41).f1) - 1)) then (if (wrap64 (((rd_T30 x39 x41).f1) - 1)) < (x8.length : Int) then (if (wrap64 (((rd_T30 x39 x41).f1) - 1)) < ((rd_L12 x8 (wrap64 (((rd_T30 x39 x41).f1) - 1))).length : Int) then ((some (x8.set ((wrap64 (((rd_T30 x39 x41).f1) - 1)) : Int).toNat ((rd_L12 x8 (wrap64 (((rd_T30 x39 x41).f1) - 1))).set ((wrap64 (((rd_T30 x39 x41).f1) - 1)) : Int).toNat (wrap64 ((rd (rd_L12 x8 (wrap64 (((rd_T30 x39 x41).f1) - 1))) (wrap64 (((rd_T30 x39 x41).f1) - 1))) + 1))) : List (List Int))).bind fun y133 => (if ((rd_T30 x39 x41).f0) > 0 then (if 0 ≤ (wrap64 (((rd_T30 x39 x41).f0) - 1)) then (if (wrap64 (((rd_T30 x39 x41).f0) - 1)) < (x8.length : Int) then (if (wrap64 (((rd_T30 x39 x41).f1) - 1)) < ((rd_L12 y133 (wrap64 (((rd_T30 x39 x41).f0) - 1))).length : Int) then (branch_Count.l1 k (y133.set ((wrap64 (((rd_T30 x39 x41).f0) - 1)) : Int).toNat ((rd_L12 y133 (wrap64 (((rd_T30 x39 x41).f0) - 1))).set ((wrap64 (((rd_T30 x39 x41).f1) - 1)) : Int).toNat (wrap64 ((rd (rd_L12 y133 (wrap64 (((rd_T30 x39 x41).f0) - 1))) (wrap64 (((rd_T30 x39 x41).f1) - 1))) - 1)))) x39 x40 (wrap64 (x41 + 1))) else (none)) else (none)) else (none)) else (branch_Count.l1 k y133 x39 x40 (wrap64 (x41 + 1))))) else (none)) else (none)) else (none)) else (branch_Count.l1 k x8 x39 x40 (wrap64 (x41 + 1)))) else (none)) else (none)) else ((branch_determinant.f k x8).bind fun t126 => (some (t126, 0)))
end
def branch_Count.f (k : Nat) (a0 : Int) (l1 : List (S30)) : Option (Int × Int) := (branch_read.f a0 l1).bind fun t117 => (if t117 = 0 then (if 0 ≤ (wrap64 (a0 - 1)) then (if (wrap64 (a0 - 1) : Int).toNat ≤ 11728124029610 then ((some (List.replicate (wrap64 (a0 - 1) : Int).toNat [] : List (List Int))).bind fun y119 => (branch_Count.l0 k a0 y119 (y119.length : Int) 0 a0 l1)) else (none)) else (none)) else (some (0, t117)))
theorem branch_Count.mono_l : ∀ k, (∀ y0 y1 y2 y3 y4 y5, LeO (branch_Count.l0 k y0 y1 y2 y3 y4 y5) (branch_Count.l0 (k + 1) y0 y1 y2 y3 y4 y5)) ∧ (∀ y0 y1 y2 y3, LeO (branch_Count.l1 k y0 y1 y2 y3) (branch_Count.l1 (k + 1) y0 y1 y2 y3))
  | 0 => ⟨fun _ _ _ _ _ _ r h => by simp [branch_Count.l0] at h, fun _ _ _ _ r h => by simp [branch_Count.l1] at h⟩
  | k + 1 => by
    obtain ⟨ih0, ih1⟩ := branch_Count.mono_l k
    refine ⟨?_, ?_⟩
    · intro y0 y1 y2 y3 y4 y5
      unfold branch_Count.l0
      repeat' first
      | (with_reducible exact ih0 _ _ _ _ _ _)
      | (with_reducible exact ih1 _ _ _ _)
      | (with_reducible exact branch_determinant.mono _ _)
      | (with_reducible exact LeO.refl _)
      | (with_reducible exact LeO.none _)
      | (with_reducible refine LeO.ite ?_ ?_)
      | (with_reducible refine LeO.bind ?_ (fun _ => ?_))
      | exact ih0 _ _ _ _ _ _
      | exact ih1 _ _ _ _
      | exact branch_determinant.mono _ _
      | exact LeO.none _
      | refine LeO.ite ?_ ?_
      | refine LeO.bind ?_ (fun _ => ?_)
    · intro y0 y1 y2 y3
      unfold branch_Count.l1
      repeat' first
      | (with_reducible exact ih0 _ _ _ _ _ _)
      | (with_reducible exact ih1 _ _ _ _)
      | (with_reducible exact branch_determinant.mono _ _)
      | (with_reducible exact LeO.refl _)
      | (with_reducible exact LeO.none _)
      | (with_reducible refine LeO.ite ?_ ?_)
      | (with_reducible refine LeO.bind ?_ (fun _ => ?_))
      | exact ih0 _ _ _ _ _ _
      | exact ih1 _ _ _ _
      | exact branch_determinant.mono _ _
      | exact LeO.none _
      | refine LeO.ite ?_ ?_
      | refine LeO.bind ?_ (fun _ => ?_)
theorem branch_Count.mono : ∀ a0 a1 k, LeO (branch_Count.f k a0 a1) (branch_Count.f (k + 1) a0 a1) := by
  intro a0 a1 k
  obtain ⟨ih0, ih1⟩ := branch_Count.mono_l k
  unfold branch_Count.f
  repeat' first
      | (with_reducible exact ih0 _ _ _ _ _ _)
      | (with_reducible exact ih1 _ _ _ _)
      | (with_reducible exact branch_determinant.mono _ _)
      | (with_reducible exact LeO.refl _)
      | (with_reducible exact LeO.none _)
      | (with_reducible refine LeO.ite ?_ ?_)
      | (with_reducible refine LeO.bind ?_ (fun _ => ?_))
      | exact ih0 _ _ _ _ _ _
      | exact ih1 _ _ _ _
      | exact branch_determinant.mono _ _
      | exact LeO.none _
      | refine LeO.ite ?_ ?_
      | refine LeO.bind ?_ (fun _ => ?_)
def branch_Count.T14 : Bool × List (List Nat × List Nat) := (true, [([], []), ([], []), ([1], [1]), ([2], [2]), ([0, 3], [0, 3]), ([4], [4]), ([], []), ([6], [6]), ([7], [7]), ([5, 8], [5, 8]), ([9], [9]), ([10], [10]), ([5, 8, 0, 1, 2, 3, 4, 5, 6, 7, 8, 9, 10, 11], [5, 8]), ([12, 11, 0, 1, 2, 3, 4, 5, 6, 7, 8, 9, 10, 11], [11, 12])])
def branch_Count.B14 : List Nat := [0, 0, 2, 6, 15, 31, 0, 64, 192, 511, 1023, 2047, 4095, 8191]
theorem branch_Count.tab14 : rtab .any (opsOf Try.f18 14) = branch_Count.T14 := by kernel_rfl
theorem branch_Count.bits14 : waitsOk branch_Count.T14.2 branch_Count.B14 = true := by kernel_rfl
def branch_Count.T16 : Bool × List (List Nat × List Nat) := (true, [([], []), ([], []), ([1], [1]), ([2], [2]), ([0, 3], [0, 3]), ([4], [4]), ([], []), ([6], [6]), ([7], [7]), ([5, 8], [5, 8]), ([9], [9]), ([10], [10]), ([5, 8, 0, 1, 2, 3, 4, 5, 6, 7, 8, 9, 10, 11], [5, 8]), ([12, 11, 0, 1, 2, 3, 4, 5, 6, 7, 8, 9, 10, 11], [11, 12])])
def branch_Count.B16 : List Nat := [0, 0, 2, 6, 15, 31, 0, 64, 192, 511, 1023, 2047, 4095, 8191]
theorem branch_Count.tab16 : rtab .any (opsOf Try.f18 16) = branch_Count.T16 := by kernel_rfl
theorem branch_Count.bits16 : waitsOk branch_Count.T16.2 branch_Count.B16 = true := by kernel_rfl
set_option maxHeartbeats 8000000 in
set_option maxRecDepth 100000 in
theorem branch_Count.calls (k : Nat) (a0 : Int) (A1 : Option Addr) (c1 : Nat) (l1 : List (S30)) (r1 : Int) (r2 : Int) (w : World) (hr1 : Kd.C k30 w A1 l1.length l1) (hc1 : l1.length ≤ c1) (h : branch_Count.f k a0 l1 = some (r1, r2)) :
    Calls Try.prog 18 #[.int .i64 a0, .slice A1 l1.length c1] w fun e w' => e = .returned (.tuple #[.int .i64 r1, .int .i64 r2]) ∧ Below w.heap.size w w' := by
  have hu30 := Try.underlying30
  have HR1 := Aside0.mk hr1
  have HC1 := Aside0.mk hc1
  clear hr1 hc1
  have HB := Aside0.mk (Below.refl w.heap.size w)
  have H : ((branch_read.f a0 l1).bind fun t117 => (if t117 = 0 then (if 0 ≤ (wrap64 (a0 - 1)) then (if (wrap64 (a0 - 1) : Int).toNat ≤ 11728124029610 then ((some (List.replicate (wrap64 (a0 - 1) : Int).toNat [] : List (List Int))).bind fun y119 => (branch_Count.l0 k a0 y119 (y119.length : Int) 0 a0 l1)) else (none)) else (none)) else (some (0, t117)))) = some (r1, r2) := h
  clear h
  replace H := Option.bind_eq_some_iff.mp H
  obtain ⟨t117, A30, H⟩ := H
  replace H : (if t117 = 0 then (if 0 ≤ (wrap64 (a0 - 1)) then (if (wrap64 (a0 - 1) : Int).toNat ≤ 11728124029610 then ((some (List.replicate (wrap64 (a0 - 1) : Int).toNat [] : List (List Int))).bind fun y119 => (branch_Count.l0 k a0 y119 (y119.length : Int) 0 a0 l1)) else (none)) else (none)) else (some (0, t117))) = some (r1, r2) := H
  have A3 := Aside0.mk A30
  clear A30
  by_cases c4 : t117 = 0
  · rw [if_pos c4] at H
    have c4b0 : (t117 == 0) = true := beq_iff_eq.mpr c4
    have c4b1 : (t117 != 0) = false := bne_eq_false_iff_eq.mpr c4
    clear c4
    obtain ⟨ji5, hji5⟩ : ∃ j_ : Int, (wrap64 (a0 - 1)) = j_ := ⟨_, rfl⟩
    replace H : (if 0 ≤ (ji5) then (if (ji5 : Int).toNat ≤ 11728124029610 then ((some (List.replicate (ji5 : Int).toNat [] : List (List Int))).bind fun y119 => (branch_Count.l0 k a0 y119 (y119.length : Int) 0 a0 l1)) else (none)) else (none)) = some (r1, r2) := by first | (rw [hji5] at H; exact H) | (simp only [hji5] at H ⊢; exact H)
    (try rw [hji5] at A3)
    have hji5w : (IntKind.i64.wrap (a0 - 1)) = ji5 := (i64_w _).trans hji5
    by_cases c6 : 0 ≤ (ji5)
    · rw [if_pos c6] at H
      have c6b0 := eq_true c6
      have c6b1 : decide (0 ≤ (ji5)) = true := decide_eq_true c6
      clear c6
      by_cases c7 : (ji5 : Int).toNat ≤ 11728124029610
      · rw [if_pos c7] at H
        have c7b0 := eq_true c7
        have c7b1 : decide ((ji5 : Int).toNat ≤ 11728124029610) = true := decide_eq_true c7
        clear c7
        obtain ⟨y119, hy119⟩ : ∃ y_ : List (List Int), y_ = (List.replicate (ji5 : Int).toNat []) := ⟨_, rfl⟩
        replace H : (branch_Count.l0 k a0 y119 (y119.length : Int) 0 a0 l1) = some (r1, r2) := by first | (rw [hy119]; with_reducible exact H) | (have H2_ := (Option.bind_some _ _).symm.trans H; rw [hy119]; with_reducible exact H2_) | (have H2_ := (Option.bind_some _ _).symm.trans H; with_reducible exact H2_) | with_reducible exact H | (rw [hy119]; exact H) | exact H
        have Ny119 := Aside0.mk hy119
        clear hy119
        have H' := Aside0.mk H
        clear H
        go_enter Try.func18, Try.ntmps18
        go_wp2_with (first | (go_at_call 44; (with_reducible refine (branch_read.calls_ok a0 A1 c1 l1 t117 _ ?side1 ?side2 A3.out (by first | (with_reducible assumption) | assumption)).mono ?_); (case side1 => repeat (first | exact HR1.out | (with_reducible refine Kd.C_alloc ?_ _) | (with_reducible refine Kd.C_drewN ?_ _) | (with_reducible refine Kd.C_drew ?_))); (case side2 => exact HC1.out); rintro e w8 ⟨gb118, mr118, rfl, hg, hbox, hb⟩; have n0_ := Aside0.mk (below_step (by repeat (first | (with_reducible first | exact HB.out | apply below_alloc | apply pw_below_drewN | apply below_drew1) | exact HB.out)) hb); have n1_ := Aside0.mk (hbox); have n2_ := Aside0.mk ((Nat.le_trans (below_size (by repeat (first | (with_reducible first | exact HB.out | apply below_alloc | apply pw_below_drewN | apply below_drew1) | exact HB.out))) hg : w.heap.size ≤ gb118)); have n3_ := Aside0.mk ((Nat.le_trans (below_size (by repeat (first | (with_reducible first | exact HB.out | apply below_alloc | apply pw_below_drewN | apply below_drew1) | exact HB.out))) hg : w.heap.size ≤ gb118)); clear HB; have HB := n0_; have BK118 := n1_; have GW118 := n2_; have GE118 := n3_; clear n0_ n1_ n2_ n3_; clear hb hbox hg) | ((with_reducible refine gate_dst (N := 23) rfl ?_); refine Kd.S_make (Kd.slice 3 (Kd.int .i64)) _ 28 rfl (N := 23) rfl 27 _ _ rfl ji5 rfl rfl Try.underlying27 (.slice none 0 0) 24 info28 rfl (by decide) (by omega) [] (ok := fun _ => True) (okp := fun _ => True) ⟨_, rfl, Kd.R_nil _ _ _ _ _⟩ (fun _ hk => hk) trivial (of_decide_eq_true (by first | (with_reducible assumption) | assumption)) (Nat.le_trans (Nat.mul_le_mul_right _ (of_decide_eq_true (by first | (with_reducible assumption) | assumption) : ji5.toNat ≤ 11728124029610)) (by omega)) (Below.refl _ _) (Nat.le_refl _) ?_; intro v120 w9 ho10 hb hg_ hnew_; clear hg_ hnew_; (first | rw [← Ny119.out] at ho10 | (simp only [Int.reduceToNat] at ho10; rw [← Ny119.out] at ho10)); have n0_ := Aside0.mk (Kd.S_lower ho10 (below_size (by repeat (first | (with_reducible first | exact HB.out | apply below_alloc | apply pw_below_drewN | apply below_drew1 | refine below_set ?_ GE118.out) | exact HB.out)))); have n1_ := Aside0.mk (blk_below (g := gb118) (o := .cells #[.int .i64 a0, .slice A1 l1.length c1, .map mr118] 70 (0, 0)) (by (with_reducible repeat (first | refine blk_drewN ?_ _ | refine blk_drew ?_ | refine blk_alloc ?_ _)); exact BK118.out) hb); have n2_ := Aside0.mk (below_step (by repeat (first | (with_reducible first | exact HB.out | apply below_alloc | apply pw_below_drewN | apply below_drew1 | refine below_set ?_ GE118.out) | exact HB.out)) hb); clear BK118; clear HB; have HO121 := n0_; have BK118 := n1_; have HB := n2_; clear n0_ n1_ n2_; clear hb ho10; obtain ⟨Ao11, co11, eo11⟩ := Kd.S_slice HO121.out; subst eo11))
        go_loopg [26] k (fun kq v26 w' => ∃ (x8_1 : List (List Int)) (x26_1 : Int), v26 = .int .i64 x26_1 ∧ Aside0 (branch_Count.l0 kq a0 x8_1 (y119.length : Int) x26_1 a0 l1 = some (r1, r2)) ∧ Aside0 (kq ≤ k) ∧ Aside0 (Kd.S (Kd.slice 3 (Kd.int .i64)) 28 w' w.heap.size (fun _ => True) (.slice Ao11 y119.length co11) x8_1) ∧ Aside0 (w'.heap[gb118]? = some (.cells #[.int .i64 a0, (.slice A1 l1.length c1), .map mr118] 70 (0, 0))) ∧ Aside0 (Below w.heap.size w w'))
        case atStart => exact ⟨(y119), (0), (by first | rfl | (simp; done) | (simp [*]; done)), H', ⟨Nat.le_refl _⟩, ⟨by (with_reducible repeat (first | apply Kd.S_alloc | apply Kd.S_drewN | apply Kd.S_drew)); exact HO121.out⟩, ⟨by (with_reducible repeat (first | refine blk_drewN ?_ _ | refine blk_drew ?_ | refine blk_alloc ?_ _)); exact BK118.out⟩, ⟨by repeat (first | (with_reducible first | exact HB.out | apply below_alloc | apply pw_below_drewN | apply below_drew1 | refine below_set ?_ GE118.out) | exact HB.out)⟩⟩
        case round =>
          clear H'
          try clear c1
          try clear p2
          try clear c4
          try clear c4b0
          try clear c4b1
          try clear c6
          try clear c6b0
          try clear c6b1
          try clear p6
          try clear c7
          try clear c7b0
          try clear c7b1
          obtain ⟨x8_1, x26_1, rfl, HA, HK1, HO_8, BK118, HB⟩ := hrel
          have hl8_1 := (Kd.S_reads' HO_8.out).1
          rw [hl8_1] at HO_8
          (try simp only [hl8_1])
          (try simp only [hl8_1] at BK118)
          cases gk with
          | zero => exact absurd HA.out (by simp [branch_Count.l0])
          | succ k1 =>
            have H := HA.out
            clear HA
            simp only [branch_Count.l0] at H
            by_cases c12 : x26_1 < (y119.length : Int)
            · rw [if_pos c12] at H
              have c12b0 : decide (x26_1 < (y119.length : Int)) = true := decide_eq_true c12
              (try (have c12b0l := c12b0; simp only [hl8_1] at c12b0l))
              clear c12
              replace H : (if 0 ≤ (ji5) then (if (ji5 : Int).toNat ≤ 35184372088832 then (if 0 ≤ x26_1 then (if x26_1 < (x8_1.length : Int) then (branch_Count.l0 k1 a0 (x8_1.set (x26_1 : Int).toNat (List.replicate (ji5 : Int).toNat 0)) (y119.length : Int) (wrap64 (x26_1 + 1)) a0 l1) else (none)) else (none)) else (none)) else (none)) = some (r1, r2) := by first | (rw [hji5] at H; exact H) | (simp only [hji5] at H ⊢; exact H)
              by_cases c13 : 0 ≤ (ji5)
              · rw [if_pos c13] at H
                have c13b0 := eq_true c13
                have c13b1 : decide (0 ≤ (ji5)) = true := decide_eq_true c13
                clear c13
                by_cases c14 : (ji5 : Int).toNat ≤ 35184372088832
                · rw [if_pos c14] at H
                  have c14b0 := eq_true c14
                  have c14b1 : decide ((ji5 : Int).toNat ≤ 35184372088832) = true := decide_eq_true c14
                  clear c14
                  obtain ⟨y122, hy122⟩ : ∃ y_ : List Int, y_ = (List.replicate (ji5 : Int).toNat 0) := ⟨_, rfl⟩
                  replace H : (if 0 ≤ x26_1 then (if x26_1 < (x8_1.length : Int) then (branch_Count.l0 k1 a0 (x8_1.set (x26_1 : Int).toNat y122) (y119.length : Int) (wrap64 (x26_1 + 1)) a0 l1) else (none)) else (none)) = some (r1, r2) := by first | (rw [hy122]; with_reducible exact H) | (have H2_ := (Option.bind_some _ _).symm.trans H; rw [hy122]; with_reducible exact H2_) | (have H2_ := (Option.bind_some _ _).symm.trans H; with_reducible exact H2_) | with_reducible exact H | (rw [hy122]; exact H) | exact H
                  have Ny122 := Aside0.mk hy122
                  clear hy122
                  by_cases c15 : 0 ≤ x26_1
                  · rw [if_pos c15] at H
                    have c15b0 : decide (0 ≤ x26_1) = true := decide_eq_true c15
                    clear c15
                    by_cases c16 : x26_1 < (x8_1.length : Int)
                    · rw [if_pos c16] at H
                      have c16b0 : decide (x26_1 < (x8_1.length : Int)) = true := decide_eq_true c16
                      (try (have c16b0l := c16b0; simp only [hl8_1] at c16b0l))
                      clear c16
                      obtain ⟨y125, hy125⟩ : ∃ y_ : List (List Int), y_ = (x8_1.set (x26_1 : Int).toNat y122) := ⟨_, rfl⟩
                      replace H : (branch_Count.l0 k1 a0 y125 (y119.length : Int) (wrap64 (x26_1 + 1)) a0 l1) = some (r1, r2) := by first | (rw [hy125]; with_reducible exact H) | (have H2_ := (Option.bind_some _ _).symm.trans H; rw [hy125]; with_reducible exact H2_) | (have H2_ := (Option.bind_some _ _).symm.trans H; with_reducible exact H2_) | with_reducible exact H | (rw [hy125]; exact H) | exact H
                      have Ny125 := Aside0.mk hy125
                      clear hy125
                      have H' := Aside0.mk H
                      clear H
                      go_wp2_with (first | ((with_reducible refine gate_dst (N := 33) rfl ?_); refine Kd.R_make (Kd.int .i64) _ 3 rfl (N := 33) rfl 28 _ _ rfl ji5 rfl rfl Try.underlying28 (.int .i64 0) 8 info3 rfl (by decide) (by omega) 0 (ok := fun _ => True) (okp := fun _ => True) rfl (fun _ hk => hk) trivial (of_decide_eq_true (by first | (with_reducible assumption) | assumption)) (Nat.le_trans (Nat.mul_le_mul_right _ (of_decide_eq_true (by first | (with_reducible assumption) | assumption) : ji5.toNat ≤ 35184372088832)) (by omega)) (Below.refl _ _) (Nat.le_refl _) ?_; intro v123 w18 ho19 hb hg_ hnew_; clear hg_ hnew_; (first | rw [← Ny122.out] at ho19 | (simp only [Int.reduceToNat] at ho19; rw [← Ny122.out] at ho19)); have n0_ := Aside0.mk (Kd.S_elder' (by (with_reducible repeat (first | apply Kd.S_alloc | apply Kd.S_drewN | apply Kd.S_drew)); exact HO_8.out) (Kd.R_base ho19) hb); have n1_ := Aside0.mk (Kd.R_lower ho19 (below_size (by repeat (first | (with_reducible first | exact HB.out | apply below_alloc | apply pw_below_drewN | apply below_drew1 | refine below_set ?_ GE118.out) | exact HB.out)))); have n2_ := Aside0.mk (blk_below (g := gb118) (o := .cells #[.int .i64 a0, .slice A1 l1.length c1, .map mr118] 70 (0, 0)) (by (with_reducible repeat (first | refine blk_drewN ?_ _ | refine blk_drew ?_ | refine blk_alloc ?_ _)); exact BK118.out) hb); have n3_ := Aside0.mk (below_step (by repeat (first | (with_reducible first | exact HB.out | apply below_alloc | apply pw_below_drewN | apply below_drew1 | refine below_set ?_ GE118.out) | exact HB.out)) hb); clear HO_8; clear BK118; clear HB; have HO_8 := n0_; have HO124 := n1_; have BK118 := n2_; have HB := n3_; clear n0_ n1_ n2_ n3_; clear hb ho19; have p17 : 0 ≤ (x26_1 : Int) := of_decide_eq_true (by first | (with_reducible assumption) | assumption); have q17 : (x26_1 : Int) < ((x8_1.length : Int) : Int) := of_decide_eq_true (by first | (with_reducible assumption) | assumption); obtain ⟨go17, co17, eo17, gb17, gl17, cl17, HG17⟩ := Kd.S_form HO_8.out (by omega); (first | cases eo17 | (injection eo17 with ea_ en_ ec_; (first | subst ea_ | (injection ea_ with ea_; subst ea_)); subst ec_; clear en_)); have GB17 := Aside0.mk gb17; have GG17 := Aside0.mk HG17; clear gb17 gl17 HG17; obtain ⟨_, ce17, hcl17, hM17, hcc17, hfr17, _, _⟩ := Kd.S_elem HO_8.out [] (x26_1 : Int) p17 q17; obtain ⟨ve17_0, rfl, ge17_0⟩ := hM17; have hx17_0 := hcc17 0 _ rfl; have hf17_0 := hfr17 0; (try simp only [show ((Kd.slice 3 (Kd.int .i64))).sz = 1 from rfl, Nat.mul_one, Nat.add_zero] at hx17_0); (try simp only [show ((Kd.slice 3 (Kd.int .i64))).sz = 1 from rfl, Nat.mul_one, Nat.add_zero] at hf17_0); (try clear hcl17); (try clear hcc17); (try clear hfr17); (try clear hM17); replace p17 := eq_true p17; replace q17 := eq_true q17; have n_ := Aside0.mk (Kd.S_mono (ok' := (fun k_ => some k_ ≠ (v123 : Value).ownBlock)) HO_8.out (fun k_ hk => hk.2)); clear HO_8; have HO_8 := n_; clear n_; have HX20 := Aside0.mk (show Kd.S (Kd.slice 3 (Kd.int .i64)) 28 w18 w.heap.size (fun k_ => ((fun _ => True)) k_ ∧ ¬ ((fun k_ => some k_ = (v123 : Value).ownBlock)) k_) (.slice (some ⟨go17, 0, none⟩) x8_1.length co11) x8_1 from (by (with_reducible repeat (first | apply Kd.S_alloc | apply Kd.S_drewN | apply Kd.S_drew)); exact Kd.S_mono HO_8.out (fun k_ hk => ⟨trivial, fun e_ => hk e_⟩))); obtain ⟨oki20, ce20, hcl20, hM20, hcc20, hfr20, hoki20, hH20⟩ := Kd.S_elem HX20.out [] (x26_1 : Int) (of_decide_eq_true (by first | (with_reducible assumption) | assumption)) (by have h_ : (x26_1 : Int) < ((x8_1.length : Int) : Int) := of_decide_eq_true (by first | (with_reducible assumption) | assumption); first | exact h_ | (have e_ := (Kd.S_reads' HO_8.out).1; omega) | simpa using h_); obtain ⟨ve20_0, rfl, ge20_0⟩ := hM20; have HP20 := Kd.S_seg hH20 (of_decide_eq_true (by first | (with_reducible assumption) | assumption)) (by have h_ : (x26_1 : Int) < ((x8_1.length : Int) : Int) := of_decide_eq_true (by first | (with_reducible assumption) | assumption); first | exact h_ | (have e_ := (Kd.S_reads' HO_8.out).1; omega) | simpa using h_) (seg := [v123]) (j := 0) (show 1 ≤ 1 from by decide) (x' := y122) (Kd.M_row (Kd.R_mono (Kd.R_tight rfl (Kd.R_mono (ok' := fun k_ => ((fun _ => True)) k_ ∧ k_ ≠ go17) (Kd.R_apart' (HO124.out) (Kd.S_typed HO_8.out) (by decide)) (fun k_ hk => ⟨trivial, fun e_ => (hk.2) (by rw [e_]; rfl)⟩))) (fun _ h_ => Or.inr (h_)))) (fun _ hk => hk) (fun k_ hk_ => ((Kd.R_mono (ok' := fun k_ => ((fun _ => True)) k_ ∧ k_ ≠ go17) (Kd.R_apart' (HO124.out) (Kd.S_typed HO_8.out) (by decide)) (fun k_ hk => ⟨trivial, fun e_ => (hk.2) (by rw [e_]; rfl)⟩))).1 k_ hk_.symm); have hx20_0 := hcc20 0 _ rfl; (try simp only [show ((Kd.slice 3 (Kd.int .i64))).sz = 1 from rfl, Nat.mul_one, Nat.add_zero] at hx20_0); have hf20_0 := hfr20 0; (try simp only [show ((Kd.slice 3 (Kd.int .i64))).sz = 1 from rfl, Nat.mul_one, Nat.add_zero] at hf20_0); (try clear hcl20); (try clear hcc20); (try clear hfr20); (try clear hM20); (try clear hoki20); (try clear hH20); (try simp only [show ((Kd.slice 3 (Kd.int .i64))).sz = 1 from rfl, Nat.mul_one, Nat.add_zero] at HP20)) | ((with_reducible refine gate_store (t := 28) (p := 34) rfl ?_); refine store_event (t := 28) (p := 34) (v := ?vo_w21) (w1 := (w18.setCell ⟨go17, (x26_1 : Int).toNat, none⟩ (v123))) ?hg ?ho ?hn ?hr ?_; (case ho => rfl); (case hg => rfl); (case hn => rfl); (case hr => first | (go_simp; done) | (go_simp; rfl) | (obtain ⟨A_, c_, e_⟩ := Kd.R_slice HO124.out; rw [e_]; first | (go_simp; done) | (go_simp; rfl))); intro w21 hw; have hg : w18.grownBy w21 (some go17) := (by rw [hw]; exact HP20.2); have hp_ : Kd.S (Kd.slice 3 (Kd.int .i64)) 28 w21 w.heap.size (fun _ => True) (.slice (some ⟨go17, 0, none⟩) x8_1.length co11) y125 := (by rw [hw, Ny125.out]; exact HP20.1); clear HP20; have n0_ := Aside0.mk (hp_); have n1_ := Aside0.mk (blk_grown (g := gb118) (o := .cells #[.int .i64 a0, .slice A1 l1.length c1, .map mr118] 70 (0, 0)) (by (with_reducible repeat (first | refine blk_drewN ?_ _ | refine blk_drew ?_ | refine blk_alloc ?_ _)); exact BK118.out) hg (Kd.S_ne HO_8.out BK118.out (by decide))); have n2_ := Aside0.mk ((by rw [hw]; exact below_set (HB.out) GB17.out : Below w.heap.size w w21)); clear HO_8; clear BK118; clear HB; clear HO124; have HO_8 := n0_; have BK118 := n1_; have HB := n2_; clear n0_ n1_ n2_; clear hg hw hp_))
                      (try simp only [← hl8_1])
                      go_roundg k1
                      case measure => have := HK1.out; omega
                      case rel => exact ⟨(y125), (wrap64 (x26_1 + 1)), (by first | rfl | (simp; done) | (simp [*]; done)), H', ⟨by have := HK1.out; omega⟩, ⟨by (try simp only [hl8_1]); (with_reducible repeat (first | apply Kd.S_alloc | apply Kd.S_drewN | apply Kd.S_drew)); exact HO_8.out⟩, ⟨by (try simp only [hl8_1]); (with_reducible repeat (first | refine blk_drewN ?_ _ | refine blk_drew ?_ | refine blk_alloc ?_ _)); exact BK118.out⟩, ⟨by repeat (first | (with_reducible first | exact HB.out | apply below_alloc | apply pw_below_drewN | apply below_drew1 | refine below_set ?_ GE118.out) | exact HB.out)⟩⟩
                    · rw [if_neg c16] at H
                      exact absurd H (by simp)
                  · rw [if_neg c15] at H
                    exact absurd H (by simp)
                · rw [if_neg c14] at H
                  exact absurd H (by simp)
              · rw [if_neg c13] at H
                exact absurd H (by simp)
            · rw [if_neg c12] at H
              have c12b0 : decide (x26_1 < (y119.length : Int)) = false := decide_eq_false c12
              (try (have c12b0l := c12b0; simp only [hl8_1] at c12b0l))
              clear c12
              have H' := Aside0.mk H
              clear H
              have hcz22_0 : wr.cell? ⟨gb118, 0, none⟩ = some (.int .i64 a0) := (blk_cell BK118.out 0).trans rfl
              have hcz22_1 : wr.cell? ⟨gb118, 1, none⟩ = some (.slice A1 l1.length c1) := (blk_cell BK118.out 1).trans rfl
              have hcz22_2 : wr.cell? ⟨gb118, 2, none⟩ = some (.map mr118) := (blk_cell BK118.out 2).trans rfl
              have hfz22_0 := blk_frozen BK118.out 0
              have hfz22_1 := blk_frozen BK118.out 1
              have hfz22_2 := blk_frozen BK118.out 2
              go_wp2
              go_loopg [41] k1 (fun kq v41 w' => ∃ (x8_2 : List (List Int)) (x41_2 : Int), v41 = .int .i64 x41_2 ∧ Aside0 (branch_Count.l1 kq x8_2 l1 (l1.length : Int) x41_2 = some (r1, r2)) ∧ Aside0 (kq ≤ k1) ∧ Aside0 (Kd.S (Kd.slice 3 (Kd.int .i64)) 28 w' w.heap.size (fun _ => True) (.slice Ao11 x8_1.length co11) x8_2) ∧ Aside0 (w'.heap[gb118]? = some (.cells #[.int .i64 a0, (.slice A1 l1.length c1), .map mr118] 70 (0, 0))) ∧ Aside0 (Below w.heap.size w w'))
              case atStart => exact ⟨(x8_1), (0), (by first | rfl | (simp; done) | (simp [*]; done)), H', ⟨Nat.le_refl _⟩, ⟨by (try simp only [hl8_1]); (with_reducible repeat (first | apply Kd.S_alloc | apply Kd.S_drewN | apply Kd.S_drew)); exact HO_8.out⟩, ⟨by (try simp only [hl8_1]); (with_reducible repeat (first | refine blk_drewN ?_ _ | refine blk_drew ?_ | refine blk_alloc ?_ _)); exact BK118.out⟩, ⟨by repeat (first | (with_reducible first | exact HB.out | apply below_alloc | apply pw_below_drewN | apply below_drew1 | refine below_set ?_ GE118.out) | exact HB.out)⟩⟩
              case round =>
                clear H'
                try clear c1
                try clear p1
                try clear q1
                try clear hx1
                try clear c2
                try clear p2
                try clear hx2
                try clear hf2
                try clear c4
                try clear c4b0
                try clear c4b1
                try clear c6
                try clear c6b0
                try clear c6b1
                try clear p6
                try clear c7
                try clear c7b0
                try clear c7b1
                try clear c12
                try clear c12b0
                try clear c13
                try clear c13b0
                try clear c13b1
                try clear c14
                try clear c14b0
                try clear c14b1
                try clear c15
                try clear c15b0
                try clear c16
                try clear c16b0
                try clear c17
                try clear p17
                try clear q17
                try clear hx17
                try clear hf17
                try clear c18
                try clear c20
                try clear hx20
                try clear hf20
                try clear hcz22_0
                try clear hcz22_1
                try clear hcz22_2
                try clear hfz22_0
                try clear hfz22_1
                try clear hfz22_2
                try clear hx17_0
                try clear hx20_0
                try clear p17
                try clear p2
                try clear p6
                try clear q17
                obtain ⟨x8_2, x41_2, rfl, HA, HK2, HO_8, BK118, HB⟩ := hrel
                have hl8_2 := (Kd.S_reads' HO_8.out).1
                rw [hl8_2] at HO_8
                (try simp only [hl8_2])
                (try simp only [hl8_2] at BK118)
                cases gk with
                | zero => exact absurd HA.out (by simp [branch_Count.l1])
                | succ k2 =>
                  have H := HA.out
                  clear HA
                  simp only [branch_Count.l1] at H
                  by_cases c23 : x41_2 < (l1.length : Int)
                  · rw [if_pos c23] at H
                    have c23b0 : decide (x41_2 < (l1.length : Int)) = true := decide_eq_true c23
                    (try (have c23b0l := c23b0; simp only [hl8_1] at c23b0l))
                    (try (have c23b0l := c23b0; simp only [hl8_2] at c23b0l))
                    clear c23
                    by_cases c24 : 0 ≤ x41_2
                    · rw [if_pos c24] at H
                      have c24b0 : decide (0 ≤ x41_2) = true := decide_eq_true c24
                      clear c24
                      by_cases c25 : x41_2 < (l1.length : Int)
                      · rw [if_pos c25] at H
                        have c25b0 : decide (x41_2 < (l1.length : Int)) = true := decide_eq_true c25
                        (try (have c25b0l := c25b0; simp only [hl8_1] at c25b0l))
                        (try (have c25b0l := c25b0; simp only [hl8_2] at c25b0l))
                        clear c25
                        by_cases c26 : ((rd_T30 l1 x41_2).f1) > 0
                        · rw [if_pos c26] at H
                          have c26b0 : decide (0 < ((rd_T30 l1 x41_2).f1)) = true := decide_eq_true c26
                          clear c26
                          obtain ⟨ji27, hji27⟩ : ∃ j_ : Int, (wrap64 (((rd_T30 l1 x41_2).f1) - 1)) = j_ := ⟨_, rfl⟩
                          replace H : (if 0 ≤ (ji27) then (if (ji27) < (x8_2.length : Int) then (if (ji27) < ((rd_L12 x8_2 (ji27)).length : Int) then ((some (x8_2.set ((ji27) : Int).toNat ((rd_L12 x8_2 (ji27)).set ((ji27) : Int).toNat (wrap64 ((rd (rd_L12 x8_2 (ji27)) (ji27)) + 1))) : List (List Int))).bind fun y133 => (if ((rd_T30 l1 x41_2).f0) > 0 then (if 0 ≤ (wrap64 (((rd_T30 l1 x41_2).f0) - 1)) then (if (wrap64 (((rd_T30 l1 x41_2).f0) - 1)) < (x8_2.length : Int) then (if (ji27) < ((rd_L12 y133 (wrap64 (((rd_T30 l1 x41_2).f0) - 1))).length : Int) then (branch_Count.l1 k2 (y133.set ((wrap64 (((rd_T30 l1 x41_2).f0) - 1)) : Int).toNat ((rd_L12 y133 (wrap64 (((rd_T30 l1 x41_2).f0) - 1))).set ((ji27) : Int).toNat (wrap64 ((rd (rd_L12 y133 (wrap64 (((rd_T30 l1 x41_2).f0) - 1))) (ji27)) - 1)))) l1 (l1.length : Int) (wrap64 (x41_2 + 1))) else (none)) else (none)) else (none)) else (branch_Count.l1 k2 y133 l1 (l1.length : Int) (wrap64 (x41_2 + 1))))) else (none)) else (none)) else (none)) = some (r1, r2) := by first | (rw [hji27] at H; exact H) | (simp only [hji27] at H ⊢; exact H)
                          have hji27w : (IntKind.i64.wrap (((rd_T30 l1 x41_2).f1) - 1)) = ji27 := (i64_w _).trans hji27
                          by_cases c28 : 0 ≤ (ji27)
                          · rw [if_pos c28] at H
                            have c28b0 : decide (0 ≤ (ji27)) = true := decide_eq_true c28
                            clear c28
                            by_cases c29 : (ji27) < (x8_2.length : Int)
                            · rw [if_pos c29] at H
                              have c29b0 : decide ((ji27) < (x8_2.length : Int)) = true := decide_eq_true c29
                              (try (have c29b0l := c29b0; simp only [hl8_1] at c29b0l))
                              (try (have c29b0l := c29b0; simp only [hl8_2] at c29b0l))
                              clear c29
                              by_cases c30 : (ji27) < ((rd_L12 x8_2 (ji27)).length : Int)
                              · rw [if_pos c30] at H
                                have c30b0 : decide ((ji27) < ((rd_L12 x8_2 (ji27)).length : Int)) = true := decide_eq_true c30
                                (try (have c30b0l := c30b0; simp only [hl8_1] at c30b0l))
                                (try (have c30b0l := c30b0; simp only [hl8_2] at c30b0l))
                                clear c30
                                obtain ⟨y131, hy131⟩ : ∃ y_ : List Int, y_ = ((rd_L12 x8_2 (ji27)).set ((ji27) : Int).toNat (wrap64 ((rd (rd_L12 x8_2 (ji27)) (ji27)) + 1))) := ⟨_, rfl⟩
                                replace H : ((some (x8_2.set ((ji27) : Int).toNat y131 : List (List Int))).bind fun y133 => (if ((rd_T30 l1 x41_2).f0) > 0 then (if 0 ≤ (wrap64 (((rd_T30 l1 x41_2).f0) - 1)) then (if (wrap64 (((rd_T30 l1 x41_2).f0) - 1)) < (x8_2.length : Int) then (if (ji27) < ((rd_L12 y133 (wrap64 (((rd_T30 l1 x41_2).f0) - 1))).length : Int) then (branch_Count.l1 k2 (y133.set ((wrap64 (((rd_T30 l1 x41_2).f0) - 1)) : Int).toNat ((rd_L12 y133 (wrap64 (((rd_T30 l1 x41_2).f0) - 1))).set ((ji27) : Int).toNat (wrap64 ((rd (rd_L12 y133 (wrap64 (((rd_T30 l1 x41_2).f0) - 1))) (ji27)) - 1)))) l1 (l1.length : Int) (wrap64 (x41_2 + 1))) else (none)) else (none)) else (none)) else (branch_Count.l1 k2 y133 l1 (l1.length : Int) (wrap64 (x41_2 + 1))))) = some (r1, r2) := by first | (rw [hy131]; with_reducible exact H) | (have H2_ := (Option.bind_some _ _).symm.trans H; rw [hy131]; with_reducible exact H2_) | (have H2_ := (Option.bind_some _ _).symm.trans H; with_reducible exact H2_) | with_reducible exact H | (rw [hy131]; exact H) | exact H
                                have Ny131 := Aside0.mk hy131
                                clear hy131
                                obtain ⟨y133, hy133⟩ : ∃ y_ : List (List Int), y_ = (x8_2.set ((ji27) : Int).toNat y131) := ⟨_, rfl⟩
                                replace H : (if ((rd_T30 l1 x41_2).f0) > 0 then (if 0 ≤ (wrap64 (((rd_T30 l1 x41_2).f0) - 1)) then (if (wrap64 (((rd_T30 l1 x41_2).f0) - 1)) < (x8_2.length : Int) then (if (ji27) < ((rd_L12 y133 (wrap64 (((rd_T30 l1 x41_2).f0) - 1))).length : Int) then (branch_Count.l1 k2 (y133.set ((wrap64 (((rd_T30 l1 x41_2).f0) - 1)) : Int).toNat ((rd_L12 y133 (wrap64 (((rd_T30 l1 x41_2).f0) - 1))).set ((ji27) : Int).toNat (wrap64 ((rd (rd_L12 y133 (wrap64 (((rd_T30 l1 x41_2).f0) - 1))) (ji27)) - 1)))) l1 (l1.length : Int) (wrap64 (x41_2 + 1))) else (none)) else (none)) else (none)) else (branch_Count.l1 k2 y133 l1 (l1.length : Int) (wrap64 (x41_2 + 1)))) = some (r1, r2) := by first | (rw [hy133]; with_reducible exact H) | (have H2_ := (Option.bind_some _ _).symm.trans H; rw [hy133]; with_reducible exact H2_) | (have H2_ := (Option.bind_some _ _).symm.trans H; with_reducible exact H2_) | with_reducible exact H | (rw [hy133]; exact H) | exact H
                                have Ny133 := Aside0.mk hy133
                                clear hy133
                                by_cases c32 : ((rd_T30 l1 x41_2).f0) > 0
                                · rw [if_pos c32] at H
                                  have c32b0 : decide (0 < ((rd_T30 l1 x41_2).f0)) = true := decide_eq_true c32
                                  clear c32
                                  obtain ⟨ji33, hji33⟩ : ∃ j_ : Int, (wrap64 (((rd_T30 l1 x41_2).f0) - 1)) = j_ := ⟨_, rfl⟩
                                  replace H : (if 0 ≤ (ji33) then (if (ji33) < (x8_2.length : Int) then (if (ji27) < ((rd_L12 y133 (ji33)).length : Int) then (branch_Count.l1 k2 (y133.set ((ji33) : Int).toNat ((rd_L12 y133 (ji33)).set ((ji27) : Int).toNat (wrap64 ((rd (rd_L12 y133 (ji33)) (ji27)) - 1)))) l1 (l1.length : Int) (wrap64 (x41_2 + 1))) else (none)) else (none)) else (none)) = some (r1, r2) := by first | (rw [hji33] at H; exact H) | (simp only [hji33] at H ⊢; exact H)
                                  have hji33w : (IntKind.i64.wrap (((rd_T30 l1 x41_2).f0) - 1)) = ji33 := (i64_w _).trans hji33
                                  by_cases c34 : 0 ≤ (ji33)
                                  · rw [if_pos c34] at H
                                    have c34b0 : decide (0 ≤ (ji33)) = true := decide_eq_true c34
                                    clear c34
                                    by_cases c35 : (ji33) < (x8_2.length : Int)
                                    · rw [if_pos c35] at H
                                      have c35b0 : decide ((ji33) < (x8_2.length : Int)) = true := decide_eq_true c35
                                      (try (have c35b0l := c35b0; simp only [hl8_1] at c35b0l))
                                      (try (have c35b0l := c35b0; simp only [hl8_2] at c35b0l))
                                      clear c35
                                      by_cases c36 : (ji27) < ((rd_L12 y133 (ji33)).length : Int)
                                      · rw [if_pos c36] at H
                                        have c36b0 : decide ((ji27) < ((rd_L12 y133 (ji33)).length : Int)) = true := decide_eq_true c36
                                        (try (have c36b0l := c36b0; simp only [hl8_1] at c36b0l))
                                        (try (have c36b0l := c36b0; simp only [hl8_2] at c36b0l))
                                        clear c36
                                        obtain ⟨y136, hy136⟩ : ∃ y_ : List Int, y_ = ((rd_L12 y133 (ji33)).set ((ji27) : Int).toNat (wrap64 ((rd (rd_L12 y133 (ji33)) (ji27)) - 1))) := ⟨_, rfl⟩
                                        replace H : (branch_Count.l1 k2 (y133.set ((ji33) : Int).toNat y136) l1 (l1.length : Int) (wrap64 (x41_2 + 1))) = some (r1, r2) := by first | (rw [hy136]; with_reducible exact H) | (have H2_ := (Option.bind_some _ _).symm.trans H; rw [hy136]; with_reducible exact H2_) | (have H2_ := (Option.bind_some _ _).symm.trans H; with_reducible exact H2_) | with_reducible exact H | (rw [hy136]; exact H) | exact H
                                        have Ny136 := Aside0.mk hy136
                                        clear hy136
                                        obtain ⟨y138, hy138⟩ : ∃ y_ : List (List Int), y_ = (y133.set ((ji33) : Int).toNat y136) := ⟨_, rfl⟩
                                        replace H : (branch_Count.l1 k2 y138 l1 (l1.length : Int) (wrap64 (x41_2 + 1))) = some (r1, r2) := by first | (rw [hy138]; with_reducible exact H) | (have H2_ := (Option.bind_some _ _).symm.trans H; rw [hy138]; with_reducible exact H2_) | (have H2_ := (Option.bind_some _ _).symm.trans H; with_reducible exact H2_) | with_reducible exact H | (rw [hy138]; exact H) | exact H
                                        have Ny138 := Aside0.mk hy138
                                        clear hy138
                                        have H' := Aside0.mk H
                                        clear H
                                        have p127 : 0 ≤ (x41_2 : Int) := of_decide_eq_true (by first | (with_reducible assumption) | assumption)
                                        have q127 : x41_2 < (l1.length : Int) := of_decide_eq_true (by first | (with_reducible assumption) | assumption)
                                        obtain ⟨ad127, e127, hx127_0, hx127_1, hx127_2⟩ := at_T30 HR1.out x41_2 p127 q127
                                        cases e127
                                        replace hx127_0 := (HB.out.cell (World.block_lt_of_cell? w _ hx127_0)).trans hx127_0
                                        replace hx127_1 := (HB.out.cell (World.block_lt_of_cell? w _ hx127_1)).trans hx127_1
                                        replace hx127_2 := (HB.out.cell (World.block_lt_of_cell? w _ hx127_2)).trans hx127_2
                                        replace p127 := eq_true p127
                                        replace q127 := eq_true q127
                                        try go_wp2_with (first | ((with_reducible refine gate_dst (N := 11) rfl ?_); refine box_event ?hg (N := 11) ?hd (cs := #[.int .i64 0, .int .i64 0, .int .i64 0]) (t := 30) ?hr ?_; (case hd => rfl); (case hg => rfl); (case hr => first | (go_simp; done) | (go_simp; rfl)); intro gb128 hg w38 hbox hb; have n0_ := Aside0.mk (Kd.S_below (by (with_reducible repeat (first | apply Kd.S_alloc | apply Kd.S_drewN | apply Kd.S_drew)); exact HO_8.out) hb); have n1_ := Aside0.mk (blk_below (g := gb118) (o := .cells #[.int .i64 a0, .slice (some ad127) l1.length c1, .map mr118] 70 (0, 0)) (by (with_reducible repeat (first | refine blk_drewN ?_ _ | refine blk_drew ?_ | refine blk_alloc ?_ _)); exact BK118.out) hb); have n2_ := Aside0.mk (below_step (by repeat (first | (with_reducible first | exact HB.out | apply below_alloc | apply pw_below_drewN | apply below_drew1 | refine below_set ?_ GE118.out) | exact HB.out)) hb); have n3_ := Aside0.mk (hbox); have n4_ := Aside0.mk ((by rw [hg]; exact (below_size (by repeat (first | (with_reducible first | exact HB.out | apply below_alloc | apply pw_below_drewN | apply below_drew1 | refine below_set ?_ GE118.out) | exact HB.out))) : w.heap.size ≤ gb128)); have n5_ := Aside0.mk ((by rw [hg]; exact (below_size (by repeat (first | (with_reducible first | exact HB.out | apply below_alloc | apply pw_below_drewN | apply below_drew1 | refine below_set ?_ GE118.out) | exact HB.out))) : w.heap.size ≤ gb128)); have n6_ := Aside0.mk ((by rw [hg]; exact Nat.ne_of_lt (blk_lt (g := gb118) (o := .cells #[.int .i64 a0, .slice (some ad127) l1.length c1, .map mr118] 70 (0, 0)) (by (with_reducible repeat (first | refine blk_drewN ?_ _ | refine blk_drew ?_ | refine blk_alloc ?_ _)); exact BK118.out)) : gb118 ≠ gb128)); have n7_ := Aside0.mk ((by rw [hg]; exact Nat.ne_of_gt (blk_lt (g := gb118) (o := .cells #[.int .i64 a0, .slice (some ad127) l1.length c1, .map mr118] 70 (0, 0)) (by (with_reducible repeat (first | refine blk_drewN ?_ _ | refine blk_drew ?_ | refine blk_alloc ?_ _)); exact BK118.out)) : gb128 ≠ gb118)); clear HO_8; clear BK118; clear HB; have HO_8 := n0_; have BK118 := n1_; have HB := n2_; have BK128 := n3_; have GW128 := n4_; have GE128 := n5_; have NB118_128 := n6_; have NB128_118 := n7_; clear n0_ n1_ n2_ n3_ n4_ n5_ n6_ n7_; clear hb hbox hg; have hnb39 := NB128_118.out; have hnc39 := NB118_128.out; have hcz40_0 : w38.cell? ⟨gb128, 0, none⟩ = some (.int .i64 0) := (blk_cell BK128.out 0).trans rfl; have hcz40_1 : w38.cell? ⟨gb128, 1, none⟩ = some (.int .i64 0) := (blk_cell BK128.out 1).trans rfl; have hcz40_2 : w38.cell? ⟨gb128, 2, none⟩ = some (.int .i64 0) := (blk_cell BK128.out 2).trans rfl; have hfz40_0 := blk_frozen BK128.out 0; have hfz40_1 := blk_frozen BK128.out 1; have hfz40_2 := blk_frozen BK128.out 2))
                                        have n0_ : Aside0 (Kd.S (Kd.slice 3 (Kd.int .i64)) 28 (((w38.setCell ⟨gb128, 0, none⟩ (.int .i64 ((rd_T30 l1 x41_2).f0))).setCell ⟨gb128, 1, none⟩ (.int .i64 ((rd_T30 l1 x41_2).f1))).setCell ⟨gb128, 2, none⟩ (.int .i64 ((rd_T30 l1 x41_2).f2))) w.heap.size (fun _ => True) (.slice Ao11 x8_2.length co11) x8_2) := ⟨by (with_reducible repeat (first | apply Kd.S_alloc | apply Kd.S_drewN | apply Kd.S_drew)); exact Kd.S_mono (Kd.S_far (p := ⟨gb128, 2, none⟩) (Kd.S_far (p := ⟨gb128, 1, none⟩) (Kd.S_far (p := ⟨gb128, 0, none⟩) (Kd.S_types HO_8.out BK128.out (by decide)) (fun _ hk => hk.2) (.int .i64 ((rd_T30 l1 x41_2).f0))) (fun _ hk => hk.2) (.int .i64 ((rd_T30 l1 x41_2).f1))) (fun _ hk => hk.2) (.int .i64 ((rd_T30 l1 x41_2).f2))) (fun _ hk => trivial)⟩
                                        have n1_ : Aside0 ((((w38.setCell ⟨gb128, 0, none⟩ (.int .i64 ((rd_T30 l1 x41_2).f0))).setCell ⟨gb128, 1, none⟩ (.int .i64 ((rd_T30 l1 x41_2).f1))).setCell ⟨gb128, 2, none⟩ (.int .i64 ((rd_T30 l1 x41_2).f2))).heap[gb118]? = some (.cells #[.int .i64 a0, .slice (some ad127) l1.length c1, .map mr118] 70 (0, 0))) := ⟨by (with_reducible repeat (first | refine blk_drewN ?_ _ | refine blk_drew ?_ | refine blk_alloc ?_ _)); refine blk_far ?_ NB118_128.out _; (with_reducible repeat (first | refine blk_drewN ?_ _ | refine blk_drew ?_ | refine blk_alloc ?_ _)); refine blk_far ?_ NB118_128.out _; (with_reducible repeat (first | refine blk_drewN ?_ _ | refine blk_drew ?_ | refine blk_alloc ?_ _)); refine blk_far ?_ NB118_128.out _; (with_reducible repeat (first | refine blk_drewN ?_ _ | refine blk_drew ?_ | refine blk_alloc ?_ _)); exact BK118.out⟩
                                        have n2_ : Aside0 ((((w38.setCell ⟨gb128, 0, none⟩ (.int .i64 ((rd_T30 l1 x41_2).f0))).setCell ⟨gb128, 1, none⟩ (.int .i64 ((rd_T30 l1 x41_2).f1))).setCell ⟨gb128, 2, none⟩ (.int .i64 ((rd_T30 l1 x41_2).f2))).heap[gb128]? = some (.cells #[.int .i64 ((rd_T30 l1 x41_2).f0), .int .i64 ((rd_T30 l1 x41_2).f1), .int .i64 ((rd_T30 l1 x41_2).f2)] 30 (0, 0))) := ⟨by (with_reducible repeat (first | refine blk_drewN ?_ _ | refine blk_drew ?_ | refine blk_alloc ?_ _)); refine blk_put (cs := #[.int .i64 ((rd_T30 l1 x41_2).f0), .int .i64 ((rd_T30 l1 x41_2).f1), .int .i64 0]) ?_ 2 _ rfl; (with_reducible repeat (first | refine blk_drewN ?_ _ | refine blk_drew ?_ | refine blk_alloc ?_ _)); refine blk_put (cs := #[.int .i64 ((rd_T30 l1 x41_2).f0), .int .i64 0, .int .i64 0]) ?_ 1 _ rfl; (with_reducible repeat (first | refine blk_drewN ?_ _ | refine blk_drew ?_ | refine blk_alloc ?_ _)); refine blk_put (cs := #[.int .i64 0, .int .i64 0, .int .i64 0]) ?_ 0 _ rfl; (with_reducible repeat (first | refine blk_drewN ?_ _ | refine blk_drew ?_ | refine blk_alloc ?_ _)); exact BK128.out⟩
                                        have n3_ : Aside0 (Below w.heap.size w (((w38.setCell ⟨gb128, 0, none⟩ (.int .i64 ((rd_T30 l1 x41_2).f0))).setCell ⟨gb128, 1, none⟩ (.int .i64 ((rd_T30 l1 x41_2).f1))).setCell ⟨gb128, 2, none⟩ (.int .i64 ((rd_T30 l1 x41_2).f2)))) := ⟨by repeat (first | (with_reducible first | exact HB.out | apply below_alloc | apply pw_below_drewN | apply below_drew1 | refine below_set ?_ GE118.out | refine below_set ?_ GE128.out) | exact HB.out)⟩
                                        (try clear HO_8)
                                        (try clear BK118)
                                        (try clear BK128)
                                        (try clear HB)
                                        generalize (((w38.setCell ⟨gb128, 0, none⟩ (.int .i64 ((rd_T30 l1 x41_2).f0))).setCell ⟨gb128, 1, none⟩ (.int .i64 ((rd_T30 l1 x41_2).f1))).setCell ⟨gb128, 2, none⟩ (.int .i64 ((rd_T30 l1 x41_2).f2))) = w41 at n0_ n1_ n2_ n3_ ⊢
                                        have HO_8 := n0_
                                        have BK118 := n1_
                                        have BK128 := n2_
                                        have HB := n3_
                                        clear n0_ n1_ n2_ n3_
                                        have n0_ := Aside0.mk (Kd.S_drew HO_8.out)
                                        have n1_ := Aside0.mk (blk_drew BK118.out)
                                        have n2_ := Aside0.mk (blk_drew BK128.out)
                                        have n3_ := Aside0.mk (below_drew1 HB.out)
                                        clear HO_8
                                        clear BK118
                                        clear BK128
                                        clear HB
                                        have HO_8 := n0_
                                        have BK118 := n1_
                                        have BK128 := n2_
                                        have HB := n3_
                                        clear n0_ n1_ n2_ n3_
                                        have p129 : 0 ≤ ((ji27) : Int) := of_decide_eq_true (by first | (with_reducible assumption) | assumption)
                                        have q129 : (ji27) < (x8_2.length : Int) := of_decide_eq_true (by first | (with_reducible assumption) | assumption)
                                        obtain ⟨ad129, A129_0, c129_0, e129, hx129_0, hl129_0, hi129_0⟩ := at_L12 (Kd.S_reads' HO_8.out).2.2 (ji27) p129 q129
                                        cases e129
                                        obtain ⟨ce129, hce129, hMe129, hcc129⟩ := Kd.S_get HO_8.out [] (ji27) p129 (by first | exact q129 | exact of_decide_eq_true (by first | (with_reducible assumption) | assumption) | (have e_ := (Kd.S_reads' HO_8.out).1; omega))
                                        obtain ⟨ve129_0, rfl, ge129_0⟩ := hMe129
                                        have hv129_0 := hcc129 0 _ rfl
                                        rw [Nat.add_zero, show ((Kd.slice 3 (Kd.int .i64))).sz = 1 from rfl, Nat.mul_one] at hv129_0
                                        replace hv129_0 := Option.some.inj (hv129_0.symm.trans hx129_0)
                                        rw [hv129_0] at ge129_0
                                        have HL129_0 := Aside0.mk (show Kd.R (Kd.int .i64) 3 _ _ _ _ (rd_L12 x8_2 (ji27)) from ge129_0)
                                        clear hv129_0 ge129_0
                                        have HX129_0 := Aside0.mk hx129_0
                                        clear hcc129 hce129
                                        have HR129_0 := Aside0.mk hi129_0
                                        have HC129_0 := Aside0.mk hl129_0
                                        clear hi129_0 hl129_0
                                        replace p129 := eq_true p129
                                        replace q129 := eq_true q129
                                        have p130 : 0 ≤ ((ji27) : Int) := of_decide_eq_true (by first | (with_reducible assumption) | assumption)
                                        have q130 : (ji27) < ((rd_L12 x8_2 (ji27)).length : Int) := of_decide_eq_true (by first | (with_reducible assumption) | assumption)
                                        obtain ⟨ad130, e130, hx130_0⟩ := Kd.at_int (by repeat (first | (with_reducible exact HR129_0.out) | (with_reducible refine Kd.C_alloc ?_ _) | (with_reducible refine Kd.C_drewN ?_ _) | (with_reducible refine Kd.C_drew ?_) | exact HR129_0.out)) (ji27) p130 q130
                                        cases e130
                                        replace p130 := eq_true p130
                                        replace q130 := eq_true q130
                                        have p31 : 0 ≤ ((ji27) : Int) := of_decide_eq_true (by first | (with_reducible assumption) | assumption)
                                        have q31 : ((ji27) : Int) < (((rd_L12 x8_2 (ji27)).length : Int) : Int) := of_decide_eq_true (by first | (with_reducible assumption) | assumption)
                                        obtain ⟨go31, co31, eo31, gb31, gl31, cl31, HG31⟩ := Kd.R_form HL129_0.out (by omega)
                                        (first | cases eo31 | (injection eo31 with ea_ en_ ec_; (first | subst ea_ | (injection ea_ with ea_; subst ea_)); subst ec_; clear en_))
                                        have GB31 := Aside0.mk gb31
                                        have GG31 := Aside0.mk HG31
                                        clear gb31 gl31 HG31
                                        (first | simp only [add_plain] at hx130_0 | skip)
                                        obtain ⟨hx31_0, hf31_0⟩ := Kd.R_celln 0 HL129_0.out ((ji27) : Int) p31 q31
                                        replace p31 := eq_true p31
                                        replace q31 := eq_true q31
                                        have hq43 : ((ji27) : Int) < (x8_2.length : Int) := (by have h_ : ((ji27) : Int) < ((x8_2.length : Int) : Int) := of_decide_eq_true (by first | (with_reducible assumption) | assumption); first | exact h_ | (have e_ := (Kd.S_reads' HO_8.out).1; omega) | simpa only [List.length_set, List.length_set] using h_)
                                        obtain ⟨oki43, ce43, hcl43, hM43, hcc43, hok43, hbk43⟩ := Kd.S_borrow HO_8.out [] ((ji27) : Int) (of_decide_eq_true (by first | (with_reducible assumption) | assumption)) (by first | exact hq43 | (have h_ := hq43; simpa only [List.length_set, List.length_set] using h_))
                                        obtain ⟨ve43_0, rfl, ge43_0⟩ := hM43
                                        have hv43 := hcc43 0 _ rfl
                                        rw [Nat.add_zero, show ((Kd.slice 3 (Kd.int .i64))).sz = 1 from rfl, Nat.mul_one] at hv43
                                        replace hv43 := Option.some.inj (hv43.symm.trans HX129_0.out)
                                        subst hv43
                                        clear hcc43 hcl43
                                        replace ge43_0 := (show Kd.R (Kd.int .i64) 3 _ _ _ _ (rd_L12 x8_2 (ji27)) from ge43_0)
                                        have HP43 := Kd.R_putg ge43_0 ((ji27) : Int) (wrap64 ((rd (rd_L12 x8_2 (ji27)) (ji27)) + 1))
                                        rw [← Ny131.out] at HP43
                                        have HS43 := hbk43 HP43.2 (fun k_ e_ => by injection e_ with e_; subst e_; exact ge43_0.1 _ rfl) (x' := y131) (Kd.M_row HP43.1)
                                        rw [← Ny133.out] at HS43
                                        have HQ43 := Aside0.mk HS43
                                        clear HP43 HS43 hbk43 hok43
                                        refine start_ (n := 14) (S := fun w' => w'.cell? ⟨gb128, 0, none⟩ = some (.int .i64 ((rd_T30 l1 x41_2).f0)) ∧ w'.cell? ⟨gb128, 1, none⟩ = some (.int .i64 ((rd_T30 l1 x41_2).f1)) ∧ w'.cell? ⟨gb128, 2, none⟩ = some (.int .i64 ((rd_T30 l1 x41_2).f2)) ∧ w'.cell? (ad129.add ((ji27)).toNat) = some (.slice (some ⟨go31, 0, none⟩) (rd_L12 x8_2 (ji27)).length c129_0) ∧ w'.cell? ⟨go31, ((ji27)).toNat, none⟩ = some (.int .i64 (rd (rd_L12 x8_2 (ji27)) (ji27)))) (ds := [13]) #[false, false, false, false, false, false, false, false, false, false, false, false, false, false] (by kernel_rfl) rfl rfl ⟨(blk_cell BK128.out 0).trans rfl, (blk_cell BK128.out 1).trans rfl, (blk_cell BK128.out 2).trans rfl, hx129_0, hx130_0⟩ (fun hHeld => ?_); refine with_tabW branch_Count.tab14 branch_Count.bits14 (fun HT_ HW_ => ?_)
                                        generalize w41.drew = w42 at HO_8 BK118 BK128 HB GG31 HL129_0 HQ43 HR129_0 HX129_0 hf31_0 hx129_0 hx130_0 hx31_0 hHeld ⊢
                                        refine pure_ (i := 0) (N := some 48) (v := ?_) (a' := ?_) #[true, false, false, false, false, false, false, false, false, false, false, false, false, false] rfl rfl (any_of HT_.out (by kernel_rfl)) (fun _ _ _ h => h) (Or.inl ⟨by rfl, ?_⟩) ?_ ?_
                                        rotate_left
                                        · intro w'
                                          go_simp
                                          with_reducible rfl
                                        rotate_left
                                        · simp only [Act.put, List.setIfInBounds_toArray, List.set_cons_zero, List.set_cons_succ, i64_w, i32_w]
                                          rfl
                                        refine pure_ (i := 1) (N := some 49) (v := ?_) (a' := ?_) #[true, true, false, false, false, false, false, false, false, false, false, false, false, false] rfl rfl (any_of HT_.out (by kernel_rfl)) (fun _ _ _ h => h) (Or.inl ⟨by rfl, ?_⟩) ?_ ?_
                                        rotate_left
                                        · intro w'
                                          go_simp
                                          with_reducible rfl
                                        rotate_left
                                        · simp only [Act.put, List.setIfInBounds_toArray, List.set_cons_zero, List.set_cons_succ, i64_w, i32_w]
                                          rfl
                                        refine pure_ (i := 6) (N := some 54) (v := ?_) (a' := ?_) #[true, true, false, false, false, false, true, false, false, false, false, false, false, false] rfl rfl (any_of HT_.out (by kernel_rfl)) (fun _ _ _ h => h) (Or.inl ⟨by rfl, ?_⟩) ?_ ?_
                                        rotate_left
                                        · intro w'
                                          go_simp
                                          with_reducible rfl
                                        rotate_left
                                        · simp only [Act.put, List.setIfInBounds_toArray, List.set_cons_zero, List.set_cons_succ, i64_w, i32_w]
                                          rfl
                                        refine take_ (i := 2) (N := some 50) (v := ?_) (a' := ?_) #[true, true, true, false, false, false, true, false, false, false, false, false, false, false] rfl rfl (take_ofW HT_.out HW_.out (by kernel_rfl)) (fun _ _ _ h => h) (Or.inl ⟨by rfl, ?_⟩) hHeld ?_ ?_
                                        rotate_left
                                        · rintro w' ⟨s0, s1, s2, s3, s4⟩
                                          go_simp
                                          with_reducible rfl
                                        rotate_left
                                        · simp only [Act.put, List.setIfInBounds_toArray, List.set_cons_zero, List.set_cons_succ, i64_w, i32_w]
                                          rfl
                                        refine pure_ (i := 3) (N := some 51) (v := ?_) (a' := ?_) #[true, true, true, true, false, false, true, false, false, false, false, false, false, false] rfl rfl (any_of HT_.out (by kernel_rfl)) (fun _ _ _ h => h) (Or.inl ⟨by rfl, ?_⟩) ?_ ?_
                                        rotate_left
                                        · intro w'
                                          go_simp
                                          with_reducible rfl
                                        rotate_left
                                        · simp only [Act.put, List.setIfInBounds_toArray, List.set_cons_zero, List.set_cons_succ, i64_w, i32_w]
                                          rfl
                                        refine pure_ (i := 4) (N := some 52) (v := ?_) (a' := ?_) #[true, true, true, true, true, false, true, false, false, false, false, false, false, false] rfl rfl (any_of HT_.out (by kernel_rfl)) (fun _ _ _ h => h) (Or.inl ⟨by rfl, ?_⟩) ?_ ?_
                                        rotate_left
                                        · intro w'
                                          go_simp
                                          with_reducible rfl
                                        rotate_left
                                        · simp only [Act.put, List.setIfInBounds_toArray, List.set_cons_zero, List.set_cons_succ, i64_w, i32_w]
                                          rfl
                                        refine take_ (i := 5) (N := some 53) (v := ?_) (a' := ?_) #[true, true, true, true, true, true, true, false, false, false, false, false, false, false] rfl rfl (take_ofW HT_.out HW_.out (by kernel_rfl)) (fun _ _ _ h => h) (Or.inl ⟨by rfl, ?_⟩) hHeld ?_ ?_
                                        rotate_left
                                        · rintro w' ⟨s0, s1, s2, s3, s4⟩
                                          go_simp
                                          with_reducible rfl
                                        rotate_left
                                        · simp only [Act.put, List.setIfInBounds_toArray, List.set_cons_zero, List.set_cons_succ, i64_w, i32_w]
                                          rfl
                                        refine take_ (i := 7) (N := some 55) (v := ?_) (a' := ?_) #[true, true, true, true, true, true, true, true, false, false, false, false, false, false] rfl rfl (take_ofW HT_.out HW_.out (by kernel_rfl)) (fun _ _ _ h => h) (Or.inl ⟨by rfl, ?_⟩) hHeld ?_ ?_
                                        rotate_left
                                        · rintro w' ⟨s0, s1, s2, s3, s4⟩
                                          go_simp
                                          with_reducible rfl
                                        rotate_left
                                        · simp only [Act.put, List.setIfInBounds_toArray, List.set_cons_zero, List.set_cons_succ, i64_w, i32_w]
                                          rfl
                                        refine pure_ (i := 8) (N := some 56) (v := ?_) (a' := ?_) #[true, true, true, true, true, true, true, true, true, false, false, false, false, false] rfl rfl (any_of HT_.out (by kernel_rfl)) (fun _ _ _ h => h) (Or.inl ⟨by rfl, ?_⟩) ?_ ?_
                                        rotate_left
                                        · intro w'
                                          go_simp
                                          with_reducible rfl
                                        rotate_left
                                        · simp only [Act.put, List.setIfInBounds_toArray, List.set_cons_zero, List.set_cons_succ, i64_w, i32_w]
                                          rfl
                                        refine pure_ (i := 9) (N := some 57) (v := ?_) (a' := ?_) #[true, true, true, true, true, true, true, true, true, true, false, false, false, false] rfl rfl (any_of HT_.out (by kernel_rfl)) (fun _ _ _ h => h) (Or.inl ⟨by rfl, ?_⟩) ?_ ?_
                                        rotate_left
                                        · intro w'
                                          go_simp
                                          with_reducible rfl
                                        rotate_left
                                        · simp only [Act.put, List.setIfInBounds_toArray, List.set_cons_zero, List.set_cons_succ, i64_w, i32_w]
                                          rfl
                                        refine take_ (i := 10) (N := some 58) (v := ?_) (a' := ?_) #[true, true, true, true, true, true, true, true, true, true, true, false, false, false] rfl rfl (take_ofW HT_.out HW_.out (by kernel_rfl)) (fun _ _ _ h => h) (Or.inl ⟨by rfl, ?_⟩) hHeld ?_ ?_
                                        rotate_left
                                        · rintro w' ⟨s0, s1, s2, s3, s4⟩
                                          go_simp
                                          with_reducible rfl
                                        rotate_left
                                        · simp only [Act.put, List.setIfInBounds_toArray, List.set_cons_zero, List.set_cons_succ, i64_w, i32_w]
                                          rfl
                                        refine pure_ (i := 11) (N := some 59) (v := ?_) (a' := ?_) #[true, true, true, true, true, true, true, true, true, true, true, true, false, false] rfl rfl (any_of HT_.out (by kernel_rfl)) (fun _ _ _ h => h) (Or.inl ⟨by rfl, ?_⟩) ?_ ?_
                                        rotate_left
                                        · intro w'
                                          go_simp
                                          with_reducible rfl
                                        rotate_left
                                        · simp only [Act.put, List.setIfInBounds_toArray, List.set_cons_zero, List.set_cons_succ, i64_w, i32_w]
                                          rfl
                                        refine pure_ (i := 12) (N := some 60) (v := ?_) (a' := ?_) #[true, true, true, true, true, true, true, true, true, true, true, true, true, false] rfl rfl (any_of HT_.out (by kernel_rfl)) (fun _ _ _ h => h) (Or.inl ⟨by rfl, ?_⟩) ?_ ?_
                                        rotate_left
                                        · intro w'
                                          go_simp
                                          with_reducible rfl
                                        rotate_left
                                        · simp only [Act.put, List.setIfInBounds_toArray, List.set_cons_zero, List.set_cons_succ, i64_w, i32_w]
                                          rfl
                                        refine last_ (i := 13) (N := none) #[true, true, true, true, true, true, true, true, true, true, true, true, true, true] rfl rfl (one_of HT_.out (by kernel_rfl)) (by decide) (fun K hK => ?_)
                                        refine skip_ (w1 := ?_) (by rfl) rfl ?_ ?_
                                        rotate_left
                                        · go_simp
                                          rfl
                                        refine hK.out _ _ ?_
                                        clear hK K
                                        refine done_ (done_of HT_.out (by kernel_rfl)) ?_
                                        have n0_ : Aside0 (Kd.S (Kd.slice 3 (Kd.int .i64)) 28 (w42.setCell ⟨go31, ((ji27) : Int).toNat, none⟩ (.int .i64 (wrap64 ((rd (rd_L12 x8_2 (ji27)) (ji27)) + 1)))) w.heap.size (fun _ => True) (.slice (some ad129) x8_2.length co11) y133) := ⟨by (with_reducible repeat (first | apply Kd.S_alloc | apply Kd.S_drewN | apply Kd.S_drew)); exact HQ43.out⟩
                                        have n1_ : Aside0 ((w42.setCell ⟨go31, ((ji27) : Int).toNat, none⟩ (.int .i64 (wrap64 ((rd (rd_L12 x8_2 (ji27)) (ji27)) + 1)))).heap[gb118]? = some (.cells #[.int .i64 a0, .slice (some ad127) l1.length c1, .map mr118] 70 (0, 0))) := ⟨by (with_reducible repeat (first | refine blk_drewN ?_ _ | refine blk_drew ?_ | refine blk_alloc ?_ _)); refine blk_far ?_ (by have h_ := Kd.R_ne HL129_0.out BK118.out (by decide); intro e_; exact h_ (by rw [e_]; rfl)) _; (with_reducible repeat (first | refine blk_drewN ?_ _ | refine blk_drew ?_ | refine blk_alloc ?_ _)); exact BK118.out⟩
                                        have n2_ : Aside0 ((w42.setCell ⟨go31, ((ji27) : Int).toNat, none⟩ (.int .i64 (wrap64 ((rd (rd_L12 x8_2 (ji27)) (ji27)) + 1)))).heap[gb128]? = some (.cells #[.int .i64 ((rd_T30 l1 x41_2).f0), .int .i64 ((rd_T30 l1 x41_2).f1), .int .i64 ((rd_T30 l1 x41_2).f2)] 30 (0, 0))) := ⟨by (with_reducible repeat (first | refine blk_drewN ?_ _ | refine blk_drew ?_ | refine blk_alloc ?_ _)); refine blk_far ?_ (by have h_ := Kd.R_ne HL129_0.out BK128.out (by decide); intro e_; exact h_ (by rw [e_]; rfl)) _; (with_reducible repeat (first | refine blk_drewN ?_ _ | refine blk_drew ?_ | refine blk_alloc ?_ _)); exact BK128.out⟩
                                        have n3_ : Aside0 (Below w.heap.size w (w42.setCell ⟨go31, ((ji27) : Int).toNat, none⟩ (.int .i64 (wrap64 ((rd (rd_L12 x8_2 (ji27)) (ji27)) + 1))))) := ⟨by repeat (first | (with_reducible first | exact HB.out | apply below_alloc | apply pw_below_drewN | apply below_drew1 | refine below_set ?_ GB31.out | refine below_set ?_ GE118.out | refine below_set ?_ GE128.out) | exact HB.out)⟩
                                        (try clear HO_8)
                                        (try clear BK118)
                                        (try clear BK128)
                                        (try clear HB)
                                        generalize (w42.setCell ⟨go31, ((ji27) : Int).toNat, none⟩ (.int .i64 (wrap64 ((rd (rd_L12 x8_2 (ji27)) (ji27)) + 1)))) = w45 at n0_ n1_ n2_ n3_ ⊢
                                        have HO_8 := n0_
                                        have BK118 := n1_
                                        have BK128 := n2_
                                        have HB := n3_
                                        clear n0_ n1_ n2_ n3_
                                        have hcz46_0 : w45.cell? ⟨gb128, 0, none⟩ = some (.int .i64 ((rd_T30 l1 x41_2).f0)) := (blk_cell BK128.out 0).trans rfl
                                        have hcz46_1 : w45.cell? ⟨gb128, 1, none⟩ = some (.int .i64 ((rd_T30 l1 x41_2).f1)) := (blk_cell BK128.out 1).trans rfl
                                        have hcz46_2 : w45.cell? ⟨gb128, 2, none⟩ = some (.int .i64 ((rd_T30 l1 x41_2).f2)) := (blk_cell BK128.out 2).trans rfl
                                        have hfz46_0 := blk_frozen BK128.out 0
                                        have hfz46_1 := blk_frozen BK128.out 1
                                        have hfz46_2 := blk_frozen BK128.out 2
                                        try go_wp2
                                        have n0_ := Aside0.mk (Kd.S_drew HO_8.out)
                                        have n1_ := Aside0.mk (blk_drew BK118.out)
                                        have n2_ := Aside0.mk (blk_drew BK128.out)
                                        have n3_ := Aside0.mk (below_drew1 HB.out)
                                        clear HO_8
                                        clear BK118
                                        clear BK128
                                        clear HB
                                        have HO_8 := n0_
                                        have BK118 := n1_
                                        have BK128 := n2_
                                        have HB := n3_
                                        clear n0_ n1_ n2_ n3_
                                        have p134 : 0 ≤ ((ji33) : Int) := of_decide_eq_true (by first | (with_reducible assumption) | assumption)
                                        have q134 : (ji33) < (y133.length : Int) := (by have h_ : ((ji33) : Int) < ((x8_2.length : Int) : Int) := of_decide_eq_true (by first | (with_reducible assumption) | assumption); first | (have e_ := (Kd.S_reads' HO_8.out).1; omega) | simpa only [Ny133.out, List.length_set] using h_)
                                        have ql134 : (((ji33) : Int) < ((x8_2.length : Int) : Int)) = True := eq_true (of_decide_eq_true (by first | (with_reducible assumption) | assumption))
                                        obtain ⟨ad134, A134_0, c134_0, e134, hx134_0, hl134_0, hi134_0⟩ := at_L12 (Kd.S_reads' HO_8.out).2.2 (ji33) p134 q134
                                        obtain rfl : ad129 = ad134 := (by injection e134)
                                        obtain ⟨ce134, hce134, hMe134, hcc134⟩ := Kd.S_get HO_8.out [] (ji33) p134 (by first | exact q134 | exact of_decide_eq_true (by first | (with_reducible assumption) | assumption) | (have e_ := (Kd.S_reads' HO_8.out).1; omega))
                                        obtain ⟨ve134_0, rfl, ge134_0⟩ := hMe134
                                        have hv134_0 := hcc134 0 _ rfl
                                        rw [Nat.add_zero, show ((Kd.slice 3 (Kd.int .i64))).sz = 1 from rfl, Nat.mul_one] at hv134_0
                                        replace hv134_0 := Option.some.inj (hv134_0.symm.trans hx134_0)
                                        rw [hv134_0] at ge134_0
                                        have HL134_0 := Aside0.mk (show Kd.R (Kd.int .i64) 3 _ _ _ _ (rd_L12 y133 (ji33)) from ge134_0)
                                        clear hv134_0 ge134_0
                                        have HX134_0 := Aside0.mk hx134_0
                                        clear hcc134 hce134
                                        have HR134_0 := Aside0.mk hi134_0
                                        have HC134_0 := Aside0.mk hl134_0
                                        clear hi134_0 hl134_0
                                        replace p134 := eq_true p134
                                        replace q134 := eq_true q134
                                        have p135 : 0 ≤ ((ji27) : Int) := of_decide_eq_true (by first | (with_reducible assumption) | assumption)
                                        have q135 : (ji27) < ((rd_L12 y133 (ji33)).length : Int) := of_decide_eq_true (by first | (with_reducible assumption) | assumption)
                                        obtain ⟨ad135, e135, hx135_0⟩ := Kd.at_int (by repeat (first | (with_reducible exact HR134_0.out) | (with_reducible refine Kd.C_alloc ?_ _) | (with_reducible refine Kd.C_drewN ?_ _) | (with_reducible refine Kd.C_drew ?_) | exact HR134_0.out)) (ji27) p135 q135
                                        cases e135
                                        replace p135 := eq_true p135
                                        replace q135 := eq_true q135
                                        have p37 : 0 ≤ ((ji27) : Int) := of_decide_eq_true (by first | (with_reducible assumption) | assumption)
                                        have q37 : ((ji27) : Int) < (((rd_L12 y133 (ji33)).length : Int) : Int) := of_decide_eq_true (by first | (with_reducible assumption) | assumption)
                                        obtain ⟨go37, co37, eo37, gb37, gl37, cl37, HG37⟩ := Kd.R_form HL134_0.out (by omega)
                                        (first | cases eo37 | (injection eo37 with ea_ en_ ec_; (first | subst ea_ | (injection ea_ with ea_; subst ea_)); subst ec_; clear en_))
                                        have GB37 := Aside0.mk gb37
                                        have GG37 := Aside0.mk HG37
                                        clear gb37 gl37 HG37
                                        (first | simp only [add_plain] at hx135_0 | skip)
                                        obtain ⟨hx37_0, hf37_0⟩ := Kd.R_celln 0 HL134_0.out ((ji27) : Int) p37 q37
                                        replace p37 := eq_true p37
                                        replace q37 := eq_true q37
                                        have hq48 : ((ji33) : Int) < (y133.length : Int) := (by have h_ : ((ji33) : Int) < ((x8_2.length : Int) : Int) := of_decide_eq_true (by first | (with_reducible assumption) | assumption); first | exact h_ | (have e_ := (Kd.S_reads' HO_8.out).1; omega) | simpa only [Ny133.out, List.length_set] using h_)
                                        obtain ⟨oki48, ce48, hcl48, hM48, hcc48, hok48, hbk48⟩ := Kd.S_borrow HO_8.out [] ((ji33) : Int) (of_decide_eq_true (by first | (with_reducible assumption) | assumption)) (by first | exact hq48 | (have h_ := hq48; simpa only [Ny133.out, List.length_set] using h_))
                                        obtain ⟨ve48_0, rfl, ge48_0⟩ := hM48
                                        have hv48 := hcc48 0 _ rfl
                                        rw [Nat.add_zero, show ((Kd.slice 3 (Kd.int .i64))).sz = 1 from rfl, Nat.mul_one] at hv48
                                        replace hv48 := Option.some.inj (hv48.symm.trans HX134_0.out)
                                        subst hv48
                                        clear hcc48 hcl48
                                        replace ge48_0 := (show Kd.R (Kd.int .i64) 3 _ _ _ _ (rd_L12 y133 (ji33)) from ge48_0)
                                        have HP48 := Kd.R_putg ge48_0 ((ji27) : Int) (wrap64 ((rd (rd_L12 y133 (ji33)) (ji27)) - 1))
                                        rw [← Ny136.out] at HP48
                                        have HS48 := hbk48 HP48.2 (fun k_ e_ => by injection e_ with e_; subst e_; exact ge48_0.1 _ rfl) (x' := y136) (Kd.M_row HP48.1)
                                        rw [← Ny138.out] at HS48
                                        have HQ48 := Aside0.mk HS48
                                        clear HP48 HS48 hbk48 hok48
                                        refine start_ (n := 14) (S := fun w' => w'.cell? ⟨gb128, 0, none⟩ = some (.int .i64 ((rd_T30 l1 x41_2).f0)) ∧ w'.cell? ⟨gb128, 1, none⟩ = some (.int .i64 ((rd_T30 l1 x41_2).f1)) ∧ w'.cell? ⟨gb128, 2, none⟩ = some (.int .i64 ((rd_T30 l1 x41_2).f2)) ∧ w'.cell? (ad129.add ((ji33)).toNat) = some (.slice (some ⟨go37, 0, none⟩) (rd_L12 y133 (ji33)).length c134_0) ∧ w'.cell? ⟨go37, ((ji27)).toNat, none⟩ = some (.int .i64 (rd (rd_L12 y133 (ji33)) (ji27)))) (ds := [13]) #[false, false, false, false, false, false, false, false, false, false, false, false, false, false] (by kernel_rfl) rfl rfl ⟨(blk_cell BK128.out 0).trans rfl, (blk_cell BK128.out 1).trans rfl, (blk_cell BK128.out 2).trans rfl, hx134_0, hx135_0⟩ (fun hHeld => ?_); refine with_tabW branch_Count.tab16 branch_Count.bits16 (fun HT_ HW_ => ?_)
                                        generalize w45.drew = w47 at HO_8 BK118 BK128 HB GG37 HL134_0 HQ48 HR134_0 HX134_0 hf37_0 hx134_0 hx135_0 hx37_0 hHeld ⊢
                                        refine pure_ (i := 0) (N := some 64) (v := ?_) (a' := ?_) #[true, false, false, false, false, false, false, false, false, false, false, false, false, false] rfl rfl (any_of HT_.out (by kernel_rfl)) (fun _ _ _ h => h) (Or.inl ⟨by rfl, ?_⟩) ?_ ?_
                                        rotate_left
                                        · intro w'
                                          go_simp
                                          with_reducible rfl
                                        rotate_left
                                        · simp only [Act.put, List.setIfInBounds_toArray, List.set_cons_zero, List.set_cons_succ, i64_w, i32_w]
                                          rfl
                                        refine pure_ (i := 1) (N := some 65) (v := ?_) (a' := ?_) #[true, true, false, false, false, false, false, false, false, false, false, false, false, false] rfl rfl (any_of HT_.out (by kernel_rfl)) (fun _ _ _ h => h) (Or.inl ⟨by rfl, ?_⟩) ?_ ?_
                                        rotate_left
                                        · intro w'
                                          go_simp
                                          with_reducible rfl
                                        rotate_left
                                        · simp only [Act.put, List.setIfInBounds_toArray, List.set_cons_zero, List.set_cons_succ, i64_w, i32_w]
                                          rfl
                                        refine pure_ (i := 6) (N := some 70) (v := ?_) (a' := ?_) #[true, true, false, false, false, false, true, false, false, false, false, false, false, false] rfl rfl (any_of HT_.out (by kernel_rfl)) (fun _ _ _ h => h) (Or.inl ⟨by rfl, ?_⟩) ?_ ?_
                                        rotate_left
                                        · intro w'
                                          go_simp
                                          with_reducible rfl
                                        rotate_left
                                        · simp only [Act.put, List.setIfInBounds_toArray, List.set_cons_zero, List.set_cons_succ, i64_w, i32_w]
                                          rfl
                                        refine take_ (i := 2) (N := some 66) (v := ?_) (a' := ?_) #[true, true, true, false, false, false, true, false, false, false, false, false, false, false] rfl rfl (take_ofW HT_.out HW_.out (by kernel_rfl)) (fun _ _ _ h => h) (Or.inl ⟨by rfl, ?_⟩) hHeld ?_ ?_
                                        rotate_left
                                        · rintro w' ⟨s0, s1, s2, s3, s4⟩
                                          go_simp
                                          with_reducible rfl
                                        rotate_left
                                        · simp only [Act.put, List.setIfInBounds_toArray, List.set_cons_zero, List.set_cons_succ, i64_w, i32_w]
                                          rfl
                                        refine pure_ (i := 3) (N := some 67) (v := ?_) (a' := ?_) #[true, true, true, true, false, false, true, false, false, false, false, false, false, false] rfl rfl (any_of HT_.out (by kernel_rfl)) (fun _ _ _ h => h) (Or.inl ⟨by rfl, ?_⟩) ?_ ?_
                                        rotate_left
                                        · intro w'
                                          go_simp
                                          with_reducible rfl
                                        rotate_left
                                        · simp only [Act.put, List.setIfInBounds_toArray, List.set_cons_zero, List.set_cons_succ, i64_w, i32_w]
                                          rfl
                                        refine pure_ (i := 4) (N := some 68) (v := ?_) (a' := ?_) #[true, true, true, true, true, false, true, false, false, false, false, false, false, false] rfl rfl (any_of HT_.out (by kernel_rfl)) (fun _ _ _ h => h) (Or.inl ⟨by rfl, ?_⟩) ?_ ?_
                                        rotate_left
                                        · intro w'
                                          go_simp
                                          with_reducible rfl
                                        rotate_left
                                        · simp only [Act.put, List.setIfInBounds_toArray, List.set_cons_zero, List.set_cons_succ, i64_w, i32_w]
                                          rfl
                                        refine take_ (i := 5) (N := some 69) (v := ?_) (a' := ?_) #[true, true, true, true, true, true, true, false, false, false, false, false, false, false] rfl rfl (take_ofW HT_.out HW_.out (by kernel_rfl)) (fun _ _ _ h => h) (Or.inl ⟨by rfl, ?_⟩) hHeld ?_ ?_
                                        rotate_left
                                        · rintro w' ⟨s0, s1, s2, s3, s4⟩
                                          go_simp
                                          with_reducible rfl
                                        rotate_left
                                        · simp only [Act.put, List.setIfInBounds_toArray, List.set_cons_zero, List.set_cons_succ, i64_w, i32_w]
                                          rfl
                                        refine take_ (i := 7) (N := some 71) (v := ?_) (a' := ?_) #[true, true, true, true, true, true, true, true, false, false, false, false, false, false] rfl rfl (take_ofW HT_.out HW_.out (by kernel_rfl)) (fun _ _ _ h => h) (Or.inl ⟨by rfl, ?_⟩) hHeld ?_ ?_
                                        rotate_left
                                        · rintro w' ⟨s0, s1, s2, s3, s4⟩
                                          go_simp
                                          with_reducible rfl
                                        rotate_left
                                        · simp only [Act.put, List.setIfInBounds_toArray, List.set_cons_zero, List.set_cons_succ, i64_w, i32_w]
                                          rfl
                                        refine pure_ (i := 8) (N := some 72) (v := ?_) (a' := ?_) #[true, true, true, true, true, true, true, true, true, false, false, false, false, false] rfl rfl (any_of HT_.out (by kernel_rfl)) (fun _ _ _ h => h) (Or.inl ⟨by rfl, ?_⟩) ?_ ?_
                                        rotate_left
                                        · intro w'
                                          go_simp
                                          with_reducible rfl
                                        rotate_left
                                        · simp only [Act.put, List.setIfInBounds_toArray, List.set_cons_zero, List.set_cons_succ, i64_w, i32_w]
                                          rfl
                                        refine pure_ (i := 9) (N := some 73) (v := ?_) (a' := ?_) #[true, true, true, true, true, true, true, true, true, true, false, false, false, false] rfl rfl (any_of HT_.out (by kernel_rfl)) (fun _ _ _ h => h) (Or.inl ⟨by rfl, ?_⟩) ?_ ?_
                                        rotate_left
                                        · intro w'
                                          go_simp
                                          with_reducible rfl
                                        rotate_left
                                        · simp only [Act.put, List.setIfInBounds_toArray, List.set_cons_zero, List.set_cons_succ, i64_w, i32_w]
                                          rfl
                                        refine take_ (i := 10) (N := some 74) (v := ?_) (a' := ?_) #[true, true, true, true, true, true, true, true, true, true, true, false, false, false] rfl rfl (take_ofW HT_.out HW_.out (by kernel_rfl)) (fun _ _ _ h => h) (Or.inl ⟨by rfl, ?_⟩) hHeld ?_ ?_
                                        rotate_left
                                        · rintro w' ⟨s0, s1, s2, s3, s4⟩
                                          go_simp
                                          with_reducible rfl
                                        rotate_left
                                        · simp only [Act.put, List.setIfInBounds_toArray, List.set_cons_zero, List.set_cons_succ, i64_w, i32_w]
                                          rfl
                                        refine pure_ (i := 11) (N := some 75) (v := ?_) (a' := ?_) #[true, true, true, true, true, true, true, true, true, true, true, true, false, false] rfl rfl (any_of HT_.out (by kernel_rfl)) (fun _ _ _ h => h) (Or.inl ⟨by rfl, ?_⟩) ?_ ?_
                                        rotate_left
                                        · intro w'
                                          go_simp
                                          with_reducible rfl
                                        rotate_left
                                        · simp only [Act.put, List.setIfInBounds_toArray, List.set_cons_zero, List.set_cons_succ, i64_w, i32_w]
                                          rfl
                                        refine pure_ (i := 12) (N := some 76) (v := ?_) (a' := ?_) #[true, true, true, true, true, true, true, true, true, true, true, true, true, false] rfl rfl (any_of HT_.out (by kernel_rfl)) (fun _ _ _ h => h) (Or.inl ⟨by rfl, ?_⟩) ?_ ?_
                                        rotate_left
                                        · intro w'
                                          go_simp
                                          with_reducible rfl
                                        rotate_left
                                        · simp only [Act.put, List.setIfInBounds_toArray, List.set_cons_zero, List.set_cons_succ, i64_w, i32_w]
                                          rfl
                                        refine last_ (i := 13) (N := none) #[true, true, true, true, true, true, true, true, true, true, true, true, true, true] rfl rfl (one_of HT_.out (by kernel_rfl)) (by decide) (fun K hK => ?_)
                                        refine skip_ (w1 := ?_) (by rfl) rfl ?_ ?_
                                        rotate_left
                                        · go_simp
                                          rfl
                                        refine hK.out _ _ ?_
                                        clear hK K
                                        refine done_ (done_of HT_.out (by kernel_rfl)) ?_
                                        have n0_ : Aside0 (Kd.S (Kd.slice 3 (Kd.int .i64)) 28 (w47.setCell ⟨go37, ((ji27) : Int).toNat, none⟩ (.int .i64 (wrap64 ((rd (rd_L12 y133 (ji33)) (ji27)) - 1)))) w.heap.size (fun _ => True) (.slice (some ad129) x8_2.length co11) y138) := ⟨by (with_reducible repeat (first | apply Kd.S_alloc | apply Kd.S_drewN | apply Kd.S_drew)); exact HQ48.out⟩
                                        have n1_ : Aside0 ((w47.setCell ⟨go37, ((ji27) : Int).toNat, none⟩ (.int .i64 (wrap64 ((rd (rd_L12 y133 (ji33)) (ji27)) - 1)))).heap[gb118]? = some (.cells #[.int .i64 a0, .slice (some ad127) l1.length c1, .map mr118] 70 (0, 0))) := ⟨by (with_reducible repeat (first | refine blk_drewN ?_ _ | refine blk_drew ?_ | refine blk_alloc ?_ _)); refine blk_far ?_ (by have h_ := Kd.R_ne HL134_0.out BK118.out (by decide); intro e_; exact h_ (by rw [e_]; rfl)) _; (with_reducible repeat (first | refine blk_drewN ?_ _ | refine blk_drew ?_ | refine blk_alloc ?_ _)); exact BK118.out⟩
                                        have n2_ : Aside0 ((w47.setCell ⟨go37, ((ji27) : Int).toNat, none⟩ (.int .i64 (wrap64 ((rd (rd_L12 y133 (ji33)) (ji27)) - 1)))).heap[gb128]? = some (.cells #[.int .i64 ((rd_T30 l1 x41_2).f0), .int .i64 ((rd_T30 l1 x41_2).f1), .int .i64 ((rd_T30 l1 x41_2).f2)] 30 (0, 0))) := ⟨by (with_reducible repeat (first | refine blk_drewN ?_ _ | refine blk_drew ?_ | refine blk_alloc ?_ _)); refine blk_far ?_ (by have h_ := Kd.R_ne HL134_0.out BK128.out (by decide); intro e_; exact h_ (by rw [e_]; rfl)) _; (with_reducible repeat (first | refine blk_drewN ?_ _ | refine blk_drew ?_ | refine blk_alloc ?_ _)); exact BK128.out⟩
                                        have n3_ : Aside0 (Below w.heap.size w (w47.setCell ⟨go37, ((ji27) : Int).toNat, none⟩ (.int .i64 (wrap64 ((rd (rd_L12 y133 (ji33)) (ji27)) - 1))))) := ⟨by repeat (first | (with_reducible first | exact HB.out | apply below_alloc | apply pw_below_drewN | apply below_drew1 | refine below_set ?_ GB37.out | refine below_set ?_ GE118.out | refine below_set ?_ GE128.out) | exact HB.out)⟩
                                        (try clear HO_8)
                                        (try clear BK118)
                                        (try clear BK128)
                                        (try clear HB)
                                        generalize (w47.setCell ⟨go37, ((ji27) : Int).toNat, none⟩ (.int .i64 (wrap64 ((rd (rd_L12 y133 (ji33)) (ji27)) - 1)))) = w50 at n0_ n1_ n2_ n3_ ⊢
                                        have HO_8 := n0_
                                        have BK118 := n1_
                                        have BK128 := n2_
                                        have HB := n3_
                                        clear n0_ n1_ n2_ n3_
                                        try go_wp2
                                        (try simp only [← hl8_2])
                                        go_roundg k2
                                        case measure => have := HK1.out; have := HK2.out; omega
                                        case rel => exact ⟨(y138), (wrap64 (x41_2 + 1)), (by first | rfl | (simp; done) | (simp [*]; done)), H', ⟨by have := HK1.out; have := HK2.out; omega⟩, ⟨by (try simp only [hl8_1]); (try simp only [hl8_2]); (with_reducible repeat (first | apply Kd.S_alloc | apply Kd.S_drewN | apply Kd.S_drew)); exact HO_8.out⟩, ⟨by (try simp only [hl8_1]); (try simp only [hl8_2]); (with_reducible repeat (first | refine blk_drewN ?_ _ | refine blk_drew ?_ | refine blk_alloc ?_ _)); exact BK118.out⟩, ⟨by repeat (first | (with_reducible first | exact HB.out | apply below_alloc | apply pw_below_drewN | apply below_drew1 | refine below_set ?_ GE118.out | refine below_set ?_ GE128.out) | exact HB.out)⟩⟩
                                      · rw [if_neg c36] at H
                                        exact absurd H (by simp)
                                    · rw [if_neg c35] at H
                                      exact absurd H (by simp)
                                  · rw [if_neg c34] at H
                                    exact absurd H (by simp)
                                · rw [if_neg c32] at H
                                  have c32b0 : decide (0 < ((rd_T30 l1 x41_2).f0)) = false := decide_eq_false c32
                                  clear c32
                                  have H' := Aside0.mk H
                                  clear H
                                  have p127 : 0 ≤ (x41_2 : Int) := of_decide_eq_true (by first | (with_reducible assumption) | assumption)
                                  have q127 : x41_2 < (l1.length : Int) := of_decide_eq_true (by first | (with_reducible assumption) | assumption)
                                  obtain ⟨ad127, e127, hx127_0, hx127_1, hx127_2⟩ := at_T30 HR1.out x41_2 p127 q127
                                  cases e127
                                  replace hx127_0 := (HB.out.cell (World.block_lt_of_cell? w _ hx127_0)).trans hx127_0
                                  replace hx127_1 := (HB.out.cell (World.block_lt_of_cell? w _ hx127_1)).trans hx127_1
                                  replace hx127_2 := (HB.out.cell (World.block_lt_of_cell? w _ hx127_2)).trans hx127_2
                                  replace p127 := eq_true p127
                                  replace q127 := eq_true q127
                                  try go_wp2_with (first | ((with_reducible refine gate_dst (N := 11) rfl ?_); refine box_event ?hg (N := 11) ?hd (cs := #[.int .i64 0, .int .i64 0, .int .i64 0]) (t := 30) ?hr ?_; (case hd => rfl); (case hg => rfl); (case hr => first | (go_simp; done) | (go_simp; rfl)); intro gb128 hg w51 hbox hb; have n0_ := Aside0.mk (Kd.S_below (by (with_reducible repeat (first | apply Kd.S_alloc | apply Kd.S_drewN | apply Kd.S_drew)); exact HO_8.out) hb); have n1_ := Aside0.mk (blk_below (g := gb118) (o := .cells #[.int .i64 a0, .slice (some ad127) l1.length c1, .map mr118] 70 (0, 0)) (by (with_reducible repeat (first | refine blk_drewN ?_ _ | refine blk_drew ?_ | refine blk_alloc ?_ _)); exact BK118.out) hb); have n2_ := Aside0.mk (below_step (by repeat (first | (with_reducible first | exact HB.out | apply below_alloc | apply pw_below_drewN | apply below_drew1 | refine below_set ?_ GE118.out) | exact HB.out)) hb); have n3_ := Aside0.mk (hbox); have n4_ := Aside0.mk ((by rw [hg]; exact (below_size (by repeat (first | (with_reducible first | exact HB.out | apply below_alloc | apply pw_below_drewN | apply below_drew1 | refine below_set ?_ GE118.out) | exact HB.out))) : w.heap.size ≤ gb128)); have n5_ := Aside0.mk ((by rw [hg]; exact (below_size (by repeat (first | (with_reducible first | exact HB.out | apply below_alloc | apply pw_below_drewN | apply below_drew1 | refine below_set ?_ GE118.out) | exact HB.out))) : w.heap.size ≤ gb128)); have n6_ := Aside0.mk ((by rw [hg]; exact Nat.ne_of_lt (blk_lt (g := gb118) (o := .cells #[.int .i64 a0, .slice (some ad127) l1.length c1, .map mr118] 70 (0, 0)) (by (with_reducible repeat (first | refine blk_drewN ?_ _ | refine blk_drew ?_ | refine blk_alloc ?_ _)); exact BK118.out)) : gb118 ≠ gb128)); have n7_ := Aside0.mk ((by rw [hg]; exact Nat.ne_of_gt (blk_lt (g := gb118) (o := .cells #[.int .i64 a0, .slice (some ad127) l1.length c1, .map mr118] 70 (0, 0)) (by (with_reducible repeat (first | refine blk_drewN ?_ _ | refine blk_drew ?_ | refine blk_alloc ?_ _)); exact BK118.out)) : gb128 ≠ gb118)); clear HO_8; clear BK118; clear HB; have HO_8 := n0_; have BK118 := n1_; have HB := n2_; have BK128 := n3_; have GW128 := n4_; have GE128 := n5_; have NB118_128 := n6_; have NB128_118 := n7_; clear n0_ n1_ n2_ n3_ n4_ n5_ n6_ n7_; clear hb hbox hg; have hnb52 := NB128_118.out; have hnc52 := NB118_128.out; have hcz53_0 : w51.cell? ⟨gb128, 0, none⟩ = some (.int .i64 0) := (blk_cell BK128.out 0).trans rfl; have hcz53_1 : w51.cell? ⟨gb128, 1, none⟩ = some (.int .i64 0) := (blk_cell BK128.out 1).trans rfl; have hcz53_2 : w51.cell? ⟨gb128, 2, none⟩ = some (.int .i64 0) := (blk_cell BK128.out 2).trans rfl; have hfz53_0 := blk_frozen BK128.out 0; have hfz53_1 := blk_frozen BK128.out 1; have hfz53_2 := blk_frozen BK128.out 2))
                                  have n0_ : Aside0 (Kd.S (Kd.slice 3 (Kd.int .i64)) 28 (((w51.setCell ⟨gb128, 0, none⟩ (.int .i64 ((rd_T30 l1 x41_2).f0))).setCell ⟨gb128, 1, none⟩ (.int .i64 ((rd_T30 l1 x41_2).f1))).setCell ⟨gb128, 2, none⟩ (.int .i64 ((rd_T30 l1 x41_2).f2))) w.heap.size (fun _ => True) (.slice Ao11 x8_2.length co11) x8_2) := ⟨by (with_reducible repeat (first | apply Kd.S_alloc | apply Kd.S_drewN | apply Kd.S_drew)); exact Kd.S_mono (Kd.S_far (p := ⟨gb128, 2, none⟩) (Kd.S_far (p := ⟨gb128, 1, none⟩) (Kd.S_far (p := ⟨gb128, 0, none⟩) (Kd.S_types HO_8.out BK128.out (by decide)) (fun _ hk => hk.2) (.int .i64 ((rd_T30 l1 x41_2).f0))) (fun _ hk => hk.2) (.int .i64 ((rd_T30 l1 x41_2).f1))) (fun _ hk => hk.2) (.int .i64 ((rd_T30 l1 x41_2).f2))) (fun _ hk => trivial)⟩
                                  have n1_ : Aside0 ((((w51.setCell ⟨gb128, 0, none⟩ (.int .i64 ((rd_T30 l1 x41_2).f0))).setCell ⟨gb128, 1, none⟩ (.int .i64 ((rd_T30 l1 x41_2).f1))).setCell ⟨gb128, 2, none⟩ (.int .i64 ((rd_T30 l1 x41_2).f2))).heap[gb118]? = some (.cells #[.int .i64 a0, .slice (some ad127) l1.length c1, .map mr118] 70 (0, 0))) := ⟨by (with_reducible repeat (first | refine blk_drewN ?_ _ | refine blk_drew ?_ | refine blk_alloc ?_ _)); refine blk_far ?_ NB118_128.out _; (with_reducible repeat (first | refine blk_drewN ?_ _ | refine blk_drew ?_ | refine blk_alloc ?_ _)); refine blk_far ?_ NB118_128.out _; (with_reducible repeat (first | refine blk_drewN ?_ _ | refine blk_drew ?_ | refine blk_alloc ?_ _)); refine blk_far ?_ NB118_128.out _; (with_reducible repeat (first | refine blk_drewN ?_ _ | refine blk_drew ?_ | refine blk_alloc ?_ _)); exact BK118.out⟩
                                  have n2_ : Aside0 ((((w51.setCell ⟨gb128, 0, none⟩ (.int .i64 ((rd_T30 l1 x41_2).f0))).setCell ⟨gb128, 1, none⟩ (.int .i64 ((rd_T30 l1 x41_2).f1))).setCell ⟨gb128, 2, none⟩ (.int .i64 ((rd_T30 l1 x41_2).f2))).heap[gb128]? = some (.cells #[.int .i64 ((rd_T30 l1 x41_2).f0), .int .i64 ((rd_T30 l1 x41_2).f1), .int .i64 ((rd_T30 l1 x41_2).f2)] 30 (0, 0))) := ⟨by (with_reducible repeat (first | refine blk_drewN ?_ _ | refine blk_drew ?_ | refine blk_alloc ?_ _)); refine blk_put (cs := #[.int .i64 ((rd_T30 l1 x41_2).f0), .int .i64 ((rd_T30 l1 x41_2).f1), .int .i64 0]) ?_ 2 _ rfl; (with_reducible repeat (first | refine blk_drewN ?_ _ | refine blk_drew ?_ | refine blk_alloc ?_ _)); refine blk_put (cs := #[.int .i64 ((rd_T30 l1 x41_2).f0), .int .i64 0, .int .i64 0]) ?_ 1 _ rfl; (with_reducible repeat (first | refine blk_drewN ?_ _ | refine blk_drew ?_ | refine blk_alloc ?_ _)); refine blk_put (cs := #[.int .i64 0, .int .i64 0, .int .i64 0]) ?_ 0 _ rfl; (with_reducible repeat (first | refine blk_drewN ?_ _ | refine blk_drew ?_ | refine blk_alloc ?_ _)); exact BK128.out⟩
                                  have n3_ : Aside0 (Below w.heap.size w (((w51.setCell ⟨gb128, 0, none⟩ (.int .i64 ((rd_T30 l1 x41_2).f0))).setCell ⟨gb128, 1, none⟩ (.int .i64 ((rd_T30 l1 x41_2).f1))).setCell ⟨gb128, 2, none⟩ (.int .i64 ((rd_T30 l1 x41_2).f2)))) := ⟨by repeat (first | (with_reducible first | exact HB.out | apply below_alloc | apply pw_below_drewN | apply below_drew1 | refine below_set ?_ GE118.out | refine below_set ?_ GE128.out) | exact HB.out)⟩
                                  (try clear HO_8)
                                  (try clear BK118)
                                  (try clear BK128)
                                  (try clear HB)
                                  generalize (((w51.setCell ⟨gb128, 0, none⟩ (.int .i64 ((rd_T30 l1 x41_2).f0))).setCell ⟨gb128, 1, none⟩ (.int .i64 ((rd_T30 l1 x41_2).f1))).setCell ⟨gb128, 2, none⟩ (.int .i64 ((rd_T30 l1 x41_2).f2))) = w54 at n0_ n1_ n2_ n3_ ⊢
                                  have HO_8 := n0_
                                  have BK118 := n1_
                                  have BK128 := n2_
                                  have HB := n3_
                                  clear n0_ n1_ n2_ n3_
                                  have n0_ := Aside0.mk (Kd.S_drew HO_8.out)
                                  have n1_ := Aside0.mk (blk_drew BK118.out)
                                  have n2_ := Aside0.mk (blk_drew BK128.out)
                                  have n3_ := Aside0.mk (below_drew1 HB.out)
                                  clear HO_8
                                  clear BK118
                                  clear BK128
                                  clear HB
                                  have HO_8 := n0_
                                  have BK118 := n1_
                                  have BK128 := n2_
                                  have HB := n3_
                                  clear n0_ n1_ n2_ n3_
                                  have p129 : 0 ≤ ((ji27) : Int) := of_decide_eq_true (by first | (with_reducible assumption) | assumption)
                                  have q129 : (ji27) < (x8_2.length : Int) := of_decide_eq_true (by first | (with_reducible assumption) | assumption)
                                  obtain ⟨ad129, A129_0, c129_0, e129, hx129_0, hl129_0, hi129_0⟩ := at_L12 (Kd.S_reads' HO_8.out).2.2 (ji27) p129 q129
                                  cases e129
                                  obtain ⟨ce129, hce129, hMe129, hcc129⟩ := Kd.S_get HO_8.out [] (ji27) p129 (by first | exact q129 | exact of_decide_eq_true (by first | (with_reducible assumption) | assumption) | (have e_ := (Kd.S_reads' HO_8.out).1; omega))
                                  obtain ⟨ve129_0, rfl, ge129_0⟩ := hMe129
                                  have hv129_0 := hcc129 0 _ rfl
                                  rw [Nat.add_zero, show ((Kd.slice 3 (Kd.int .i64))).sz = 1 from rfl, Nat.mul_one] at hv129_0
                                  replace hv129_0 := Option.some.inj (hv129_0.symm.trans hx129_0)
                                  rw [hv129_0] at ge129_0
                                  have HL129_0 := Aside0.mk (show Kd.R (Kd.int .i64) 3 _ _ _ _ (rd_L12 x8_2 (ji27)) from ge129_0)
                                  clear hv129_0 ge129_0
                                  have HX129_0 := Aside0.mk hx129_0
                                  clear hcc129 hce129
                                  have HR129_0 := Aside0.mk hi129_0
                                  have HC129_0 := Aside0.mk hl129_0
                                  clear hi129_0 hl129_0
                                  replace p129 := eq_true p129
                                  replace q129 := eq_true q129
                                  have p130 : 0 ≤ ((ji27) : Int) := of_decide_eq_true (by first | (with_reducible assumption) | assumption)
                                  have q130 : (ji27) < ((rd_L12 x8_2 (ji27)).length : Int) := of_decide_eq_true (by first | (with_reducible assumption) | assumption)
                                  obtain ⟨ad130, e130, hx130_0⟩ := Kd.at_int (by repeat (first | (with_reducible exact HR129_0.out) | (with_reducible refine Kd.C_alloc ?_ _) | (with_reducible refine Kd.C_drewN ?_ _) | (with_reducible refine Kd.C_drew ?_) | exact HR129_0.out)) (ji27) p130 q130
                                  cases e130
                                  replace p130 := eq_true p130
                                  replace q130 := eq_true q130
                                  have p31 : 0 ≤ ((ji27) : Int) := of_decide_eq_true (by first | (with_reducible assumption) | assumption)
                                  have q31 : ((ji27) : Int) < (((rd_L12 x8_2 (ji27)).length : Int) : Int) := of_decide_eq_true (by first | (with_reducible assumption) | assumption)
                                  obtain ⟨go31, co31, eo31, gb31, gl31, cl31, HG31⟩ := Kd.R_form HL129_0.out (by omega)
                                  (first | cases eo31 | (injection eo31 with ea_ en_ ec_; (first | subst ea_ | (injection ea_ with ea_; subst ea_)); subst ec_; clear en_))
                                  have GB31 := Aside0.mk gb31
                                  have GG31 := Aside0.mk HG31
                                  clear gb31 gl31 HG31
                                  (first | simp only [add_plain] at hx130_0 | skip)
                                  obtain ⟨hx31_0, hf31_0⟩ := Kd.R_celln 0 HL129_0.out ((ji27) : Int) p31 q31
                                  replace p31 := eq_true p31
                                  replace q31 := eq_true q31
                                  have hq56 : ((ji27) : Int) < (x8_2.length : Int) := (by have h_ : ((ji27) : Int) < ((x8_2.length : Int) : Int) := of_decide_eq_true (by first | (with_reducible assumption) | assumption); first | exact h_ | (have e_ := (Kd.S_reads' HO_8.out).1; omega) | simpa only [List.length_set, List.length_set] using h_)
                                  obtain ⟨oki56, ce56, hcl56, hM56, hcc56, hok56, hbk56⟩ := Kd.S_borrow HO_8.out [] ((ji27) : Int) (of_decide_eq_true (by first | (with_reducible assumption) | assumption)) (by first | exact hq56 | (have h_ := hq56; simpa only [List.length_set, List.length_set] using h_))
                                  obtain ⟨ve56_0, rfl, ge56_0⟩ := hM56
                                  have hv56 := hcc56 0 _ rfl
                                  rw [Nat.add_zero, show ((Kd.slice 3 (Kd.int .i64))).sz = 1 from rfl, Nat.mul_one] at hv56
                                  replace hv56 := Option.some.inj (hv56.symm.trans HX129_0.out)
                                  subst hv56
                                  clear hcc56 hcl56
                                  replace ge56_0 := (show Kd.R (Kd.int .i64) 3 _ _ _ _ (rd_L12 x8_2 (ji27)) from ge56_0)
                                  have HP56 := Kd.R_putg ge56_0 ((ji27) : Int) (wrap64 ((rd (rd_L12 x8_2 (ji27)) (ji27)) + 1))
                                  rw [← Ny131.out] at HP56
                                  have HS56 := hbk56 HP56.2 (fun k_ e_ => by injection e_ with e_; subst e_; exact ge56_0.1 _ rfl) (x' := y131) (Kd.M_row HP56.1)
                                  rw [← Ny133.out] at HS56
                                  have HQ56 := Aside0.mk HS56
                                  clear HP56 HS56 hbk56 hok56
                                  refine start_ (n := 14) (S := fun w' => w'.cell? ⟨gb128, 0, none⟩ = some (.int .i64 ((rd_T30 l1 x41_2).f0)) ∧ w'.cell? ⟨gb128, 1, none⟩ = some (.int .i64 ((rd_T30 l1 x41_2).f1)) ∧ w'.cell? ⟨gb128, 2, none⟩ = some (.int .i64 ((rd_T30 l1 x41_2).f2)) ∧ w'.cell? (ad129.add ((ji27)).toNat) = some (.slice (some ⟨go31, 0, none⟩) (rd_L12 x8_2 (ji27)).length c129_0) ∧ w'.cell? ⟨go31, ((ji27)).toNat, none⟩ = some (.int .i64 (rd (rd_L12 x8_2 (ji27)) (ji27)))) (ds := [13]) #[false, false, false, false, false, false, false, false, false, false, false, false, false, false] (by kernel_rfl) rfl rfl ⟨(blk_cell BK128.out 0).trans rfl, (blk_cell BK128.out 1).trans rfl, (blk_cell BK128.out 2).trans rfl, hx129_0, hx130_0⟩ (fun hHeld => ?_); refine with_tabW branch_Count.tab14 branch_Count.bits14 (fun HT_ HW_ => ?_)
                                  generalize w54.drew = w55 at HO_8 BK118 BK128 HB GG31 HL129_0 HQ56 HR129_0 HX129_0 hf31_0 hx129_0 hx130_0 hx31_0 hHeld ⊢
                                  refine pure_ (i := 0) (N := some 48) (v := ?_) (a' := ?_) #[true, false, false, false, false, false, false, false, false, false, false, false, false, false] rfl rfl (any_of HT_.out (by kernel_rfl)) (fun _ _ _ h => h) (Or.inl ⟨by rfl, ?_⟩) ?_ ?_
                                  rotate_left
                                  · intro w'
                                    go_simp
                                    with_reducible rfl
                                  rotate_left
                                  · simp only [Act.put, List.setIfInBounds_toArray, List.set_cons_zero, List.set_cons_succ, i64_w, i32_w]
                                    rfl
                                  refine pure_ (i := 1) (N := some 49) (v := ?_) (a' := ?_) #[true, true, false, false, false, false, false, false, false, false, false, false, false, false] rfl rfl (any_of HT_.out (by kernel_rfl)) (fun _ _ _ h => h) (Or.inl ⟨by rfl, ?_⟩) ?_ ?_
                                  rotate_left
                                  · intro w'
                                    go_simp
                                    with_reducible rfl
                                  rotate_left
                                  · simp only [Act.put, List.setIfInBounds_toArray, List.set_cons_zero, List.set_cons_succ, i64_w, i32_w]
                                    rfl
                                  refine pure_ (i := 6) (N := some 54) (v := ?_) (a' := ?_) #[true, true, false, false, false, false, true, false, false, false, false, false, false, false] rfl rfl (any_of HT_.out (by kernel_rfl)) (fun _ _ _ h => h) (Or.inl ⟨by rfl, ?_⟩) ?_ ?_
                                  rotate_left
                                  · intro w'
                                    go_simp
                                    with_reducible rfl
                                  rotate_left
                                  · simp only [Act.put, List.setIfInBounds_toArray, List.set_cons_zero, List.set_cons_succ, i64_w, i32_w]
                                    rfl
                                  refine take_ (i := 2) (N := some 50) (v := ?_) (a' := ?_) #[true, true, true, false, false, false, true, false, false, false, false, false, false, false] rfl rfl (take_ofW HT_.out HW_.out (by kernel_rfl)) (fun _ _ _ h => h) (Or.inl ⟨by rfl, ?_⟩) hHeld ?_ ?_
                                  rotate_left
                                  · rintro w' ⟨s0, s1, s2, s3, s4⟩
                                    go_simp
                                    with_reducible rfl
                                  rotate_left
                                  · simp only [Act.put, List.setIfInBounds_toArray, List.set_cons_zero, List.set_cons_succ, i64_w, i32_w]
                                    rfl
                                  refine pure_ (i := 3) (N := some 51) (v := ?_) (a' := ?_) #[true, true, true, true, false, false, true, false, false, false, false, false, false, false] rfl rfl (any_of HT_.out (by kernel_rfl)) (fun _ _ _ h => h) (Or.inl ⟨by rfl, ?_⟩) ?_ ?_
                                  rotate_left
                                  · intro w'
                                    go_simp
                                    with_reducible rfl
                                  rotate_left
                                  · simp only [Act.put, List.setIfInBounds_toArray, List.set_cons_zero, List.set_cons_succ, i64_w, i32_w]
                                    rfl
                                  refine pure_ (i := 4) (N := some 52) (v := ?_) (a' := ?_) #[true, true, true, true, true, false, true, false, false, false, false, false, false, false] rfl rfl (any_of HT_.out (by kernel_rfl)) (fun _ _ _ h => h) (Or.inl ⟨by rfl, ?_⟩) ?_ ?_
                                  rotate_left
                                  · intro w'
                                    go_simp
                                    with_reducible rfl
                                  rotate_left
                                  · simp only [Act.put, List.setIfInBounds_toArray, List.set_cons_zero, List.set_cons_succ, i64_w, i32_w]
                                    rfl
                                  refine take_ (i := 5) (N := some 53) (v := ?_) (a' := ?_) #[true, true, true, true, true, true, true, false, false, false, false, false, false, false] rfl rfl (take_ofW HT_.out HW_.out (by kernel_rfl)) (fun _ _ _ h => h) (Or.inl ⟨by rfl, ?_⟩) hHeld ?_ ?_
                                  rotate_left
                                  · rintro w' ⟨s0, s1, s2, s3, s4⟩
                                    go_simp
                                    with_reducible rfl
                                  rotate_left
                                  · simp only [Act.put, List.setIfInBounds_toArray, List.set_cons_zero, List.set_cons_succ, i64_w, i32_w]
                                    rfl
                                  refine take_ (i := 7) (N := some 55) (v := ?_) (a' := ?_) #[true, true, true, true, true, true, true, true, false, false, false, false, false, false] rfl rfl (take_ofW HT_.out HW_.out (by kernel_rfl)) (fun _ _ _ h => h) (Or.inl ⟨by rfl, ?_⟩) hHeld ?_ ?_
                                  rotate_left
                                  · rintro w' ⟨s0, s1, s2, s3, s4⟩
                                    go_simp
                                    with_reducible rfl
                                  rotate_left
                                  · simp only [Act.put, List.setIfInBounds_toArray, List.set_cons_zero, List.set_cons_succ, i64_w, i32_w]
                                    rfl
                                  refine pure_ (i := 8) (N := some 56) (v := ?_) (a' := ?_) #[true, true, true, true, true, true, true, true, true, false, false, false, false, false] rfl rfl (any_of HT_.out (by kernel_rfl)) (fun _ _ _ h => h) (Or.inl ⟨by rfl, ?_⟩) ?_ ?_
                                  rotate_left
                                  · intro w'
                                    go_simp
                                    with_reducible rfl
                                  rotate_left
                                  · simp only [Act.put, List.setIfInBounds_toArray, List.set_cons_zero, List.set_cons_succ, i64_w, i32_w]
                                    rfl
                                  refine pure_ (i := 9) (N := some 57) (v := ?_) (a' := ?_) #[true, true, true, true, true, true, true, true, true, true, false, false, false, false] rfl rfl (any_of HT_.out (by kernel_rfl)) (fun _ _ _ h => h) (Or.inl ⟨by rfl, ?_⟩) ?_ ?_
                                  rotate_left
                                  · intro w'
                                    go_simp
                                    with_reducible rfl
                                  rotate_left
                                  · simp only [Act.put, List.setIfInBounds_toArray, List.set_cons_zero, List.set_cons_succ, i64_w, i32_w]
                                    rfl
                                  refine take_ (i := 10) (N := some 58) (v := ?_) (a' := ?_) #[true, true, true, true, true, true, true, true, true, true, true, false, false, false] rfl rfl (take_ofW HT_.out HW_.out (by kernel_rfl)) (fun _ _ _ h => h) (Or.inl ⟨by rfl, ?_⟩) hHeld ?_ ?_
                                  rotate_left
                                  · rintro w' ⟨s0, s1, s2, s3, s4⟩
                                    go_simp
                                    with_reducible rfl
                                  rotate_left
                                  · simp only [Act.put, List.setIfInBounds_toArray, List.set_cons_zero, List.set_cons_succ, i64_w, i32_w]
                                    rfl
                                  refine pure_ (i := 11) (N := some 59) (v := ?_) (a' := ?_) #[true, true, true, true, true, true, true, true, true, true, true, true, false, false] rfl rfl (any_of HT_.out (by kernel_rfl)) (fun _ _ _ h => h) (Or.inl ⟨by rfl, ?_⟩) ?_ ?_
                                  rotate_left
                                  · intro w'
                                    go_simp
                                    with_reducible rfl
                                  rotate_left
                                  · simp only [Act.put, List.setIfInBounds_toArray, List.set_cons_zero, List.set_cons_succ, i64_w, i32_w]
                                    rfl
                                  refine pure_ (i := 12) (N := some 60) (v := ?_) (a' := ?_) #[true, true, true, true, true, true, true, true, true, true, true, true, true, false] rfl rfl (any_of HT_.out (by kernel_rfl)) (fun _ _ _ h => h) (Or.inl ⟨by rfl, ?_⟩) ?_ ?_
                                  rotate_left
                                  · intro w'
                                    go_simp
                                    with_reducible rfl
                                  rotate_left
                                  · simp only [Act.put, List.setIfInBounds_toArray, List.set_cons_zero, List.set_cons_succ, i64_w, i32_w]
                                    rfl
                                  refine last_ (i := 13) (N := none) #[true, true, true, true, true, true, true, true, true, true, true, true, true, true] rfl rfl (one_of HT_.out (by kernel_rfl)) (by decide) (fun K hK => ?_)
                                  refine skip_ (w1 := ?_) (by rfl) rfl ?_ ?_
                                  rotate_left
                                  · go_simp
                                    rfl
                                  refine hK.out _ _ ?_
                                  clear hK K
                                  refine done_ (done_of HT_.out (by kernel_rfl)) ?_
                                  have n0_ : Aside0 (Kd.S (Kd.slice 3 (Kd.int .i64)) 28 (w55.setCell ⟨go31, ((ji27) : Int).toNat, none⟩ (.int .i64 (wrap64 ((rd (rd_L12 x8_2 (ji27)) (ji27)) + 1)))) w.heap.size (fun _ => True) (.slice (some ad129) x8_2.length co11) y133) := ⟨by (with_reducible repeat (first | apply Kd.S_alloc | apply Kd.S_drewN | apply Kd.S_drew)); exact HQ56.out⟩
                                  have n1_ : Aside0 ((w55.setCell ⟨go31, ((ji27) : Int).toNat, none⟩ (.int .i64 (wrap64 ((rd (rd_L12 x8_2 (ji27)) (ji27)) + 1)))).heap[gb118]? = some (.cells #[.int .i64 a0, .slice (some ad127) l1.length c1, .map mr118] 70 (0, 0))) := ⟨by (with_reducible repeat (first | refine blk_drewN ?_ _ | refine blk_drew ?_ | refine blk_alloc ?_ _)); refine blk_far ?_ (by have h_ := Kd.R_ne HL129_0.out BK118.out (by decide); intro e_; exact h_ (by rw [e_]; rfl)) _; (with_reducible repeat (first | refine blk_drewN ?_ _ | refine blk_drew ?_ | refine blk_alloc ?_ _)); exact BK118.out⟩
                                  have n2_ : Aside0 ((w55.setCell ⟨go31, ((ji27) : Int).toNat, none⟩ (.int .i64 (wrap64 ((rd (rd_L12 x8_2 (ji27)) (ji27)) + 1)))).heap[gb128]? = some (.cells #[.int .i64 ((rd_T30 l1 x41_2).f0), .int .i64 ((rd_T30 l1 x41_2).f1), .int .i64 ((rd_T30 l1 x41_2).f2)] 30 (0, 0))) := ⟨by (with_reducible repeat (first | refine blk_drewN ?_ _ | refine blk_drew ?_ | refine blk_alloc ?_ _)); refine blk_far ?_ (by have h_ := Kd.R_ne HL129_0.out BK128.out (by decide); intro e_; exact h_ (by rw [e_]; rfl)) _; (with_reducible repeat (first | refine blk_drewN ?_ _ | refine blk_drew ?_ | refine blk_alloc ?_ _)); exact BK128.out⟩
                                  have n3_ : Aside0 (Below w.heap.size w (w55.setCell ⟨go31, ((ji27) : Int).toNat, none⟩ (.int .i64 (wrap64 ((rd (rd_L12 x8_2 (ji27)) (ji27)) + 1))))) := ⟨by repeat (first | (with_reducible first | exact HB.out | apply below_alloc | apply pw_below_drewN | apply below_drew1 | refine below_set ?_ GB31.out | refine below_set ?_ GE118.out | refine below_set ?_ GE128.out) | exact HB.out)⟩
                                  (try clear HO_8)
                                  (try clear BK118)
                                  (try clear BK128)
                                  (try clear HB)
                                  generalize (w55.setCell ⟨go31, ((ji27) : Int).toNat, none⟩ (.int .i64 (wrap64 ((rd (rd_L12 x8_2 (ji27)) (ji27)) + 1)))) = w58 at n0_ n1_ n2_ n3_ ⊢
                                  have HO_8 := n0_
                                  have BK118 := n1_
                                  have BK128 := n2_
                                  have HB := n3_
                                  clear n0_ n1_ n2_ n3_
                                  have hcz59_0 : w58.cell? ⟨gb128, 0, none⟩ = some (.int .i64 ((rd_T30 l1 x41_2).f0)) := (blk_cell BK128.out 0).trans rfl
                                  have hcz59_1 : w58.cell? ⟨gb128, 1, none⟩ = some (.int .i64 ((rd_T30 l1 x41_2).f1)) := (blk_cell BK128.out 1).trans rfl
                                  have hcz59_2 : w58.cell? ⟨gb128, 2, none⟩ = some (.int .i64 ((rd_T30 l1 x41_2).f2)) := (blk_cell BK128.out 2).trans rfl
                                  have hfz59_0 := blk_frozen BK128.out 0
                                  have hfz59_1 := blk_frozen BK128.out 1
                                  have hfz59_2 := blk_frozen BK128.out 2
                                  try go_wp2
                                  (try simp only [← hl8_2])
                                  go_roundg k2
                                  case measure => have := HK1.out; have := HK2.out; omega
                                  case rel => exact ⟨(y133), (wrap64 (x41_2 + 1)), (by first | rfl | (simp; done) | (simp [*]; done)), H', ⟨by have := HK1.out; have := HK2.out; omega⟩, ⟨by (try simp only [hl8_1]); (try simp only [hl8_2]); (with_reducible repeat (first | apply Kd.S_alloc | apply Kd.S_drewN | apply Kd.S_drew)); exact HO_8.out⟩, ⟨by (try simp only [hl8_1]); (try simp only [hl8_2]); (with_reducible repeat (first | refine blk_drewN ?_ _ | refine blk_drew ?_ | refine blk_alloc ?_ _)); exact BK118.out⟩, ⟨by repeat (first | (with_reducible first | exact HB.out | apply below_alloc | apply pw_below_drewN | apply below_drew1 | refine below_set ?_ GE118.out | refine below_set ?_ GE128.out) | exact HB.out)⟩⟩
                              · rw [if_neg c30] at H
                                exact absurd H (by simp)
                            · rw [if_neg c29] at H
                              exact absurd H (by simp)
                          · rw [if_neg c28] at H
                            exact absurd H (by simp)
                        · rw [if_neg c26] at H
                          have c26b0 : decide (0 < ((rd_T30 l1 x41_2).f1)) = false := decide_eq_false c26
                          clear c26
                          have H' := Aside0.mk H
                          clear H
                          have p127 : 0 ≤ (x41_2 : Int) := of_decide_eq_true (by first | (with_reducible assumption) | assumption)
                          have q127 : x41_2 < (l1.length : Int) := of_decide_eq_true (by first | (with_reducible assumption) | assumption)
                          obtain ⟨ad127, e127, hx127_0, hx127_1, hx127_2⟩ := at_T30 HR1.out x41_2 p127 q127
                          cases e127
                          replace hx127_0 := (HB.out.cell (World.block_lt_of_cell? w _ hx127_0)).trans hx127_0
                          replace hx127_1 := (HB.out.cell (World.block_lt_of_cell? w _ hx127_1)).trans hx127_1
                          replace hx127_2 := (HB.out.cell (World.block_lt_of_cell? w _ hx127_2)).trans hx127_2
                          replace p127 := eq_true p127
                          replace q127 := eq_true q127
                          go_wp2_with (first | ((with_reducible refine gate_dst (N := 11) rfl ?_); refine box_event ?hg (N := 11) ?hd (cs := #[.int .i64 0, .int .i64 0, .int .i64 0]) (t := 30) ?hr ?_; (case hd => rfl); (case hg => rfl); (case hr => first | (go_simp; done) | (go_simp; rfl)); intro gb128 hg w60 hbox hb; have n0_ := Aside0.mk (Kd.S_below (by (with_reducible repeat (first | apply Kd.S_alloc | apply Kd.S_drewN | apply Kd.S_drew)); exact HO_8.out) hb); have n1_ := Aside0.mk (blk_below (g := gb118) (o := .cells #[.int .i64 a0, .slice (some ad127) l1.length c1, .map mr118] 70 (0, 0)) (by (with_reducible repeat (first | refine blk_drewN ?_ _ | refine blk_drew ?_ | refine blk_alloc ?_ _)); exact BK118.out) hb); have n2_ := Aside0.mk (below_step (by repeat (first | (with_reducible first | exact HB.out | apply below_alloc | apply pw_below_drewN | apply below_drew1 | refine below_set ?_ GE118.out) | exact HB.out)) hb); have n3_ := Aside0.mk (hbox); have n4_ := Aside0.mk ((by rw [hg]; exact (below_size (by repeat (first | (with_reducible first | exact HB.out | apply below_alloc | apply pw_below_drewN | apply below_drew1 | refine below_set ?_ GE118.out) | exact HB.out))) : w.heap.size ≤ gb128)); have n5_ := Aside0.mk ((by rw [hg]; exact (below_size (by repeat (first | (with_reducible first | exact HB.out | apply below_alloc | apply pw_below_drewN | apply below_drew1 | refine below_set ?_ GE118.out) | exact HB.out))) : w.heap.size ≤ gb128)); have n6_ := Aside0.mk ((by rw [hg]; exact Nat.ne_of_lt (blk_lt (g := gb118) (o := .cells #[.int .i64 a0, .slice (some ad127) l1.length c1, .map mr118] 70 (0, 0)) (by (with_reducible repeat (first | refine blk_drewN ?_ _ | refine blk_drew ?_ | refine blk_alloc ?_ _)); exact BK118.out)) : gb118 ≠ gb128)); have n7_ := Aside0.mk ((by rw [hg]; exact Nat.ne_of_gt (blk_lt (g := gb118) (o := .cells #[.int .i64 a0, .slice (some ad127) l1.length c1, .map mr118] 70 (0, 0)) (by (with_reducible repeat (first | refine blk_drewN ?_ _ | refine blk_drew ?_ | refine blk_alloc ?_ _)); exact BK118.out)) : gb128 ≠ gb118)); clear HO_8; clear BK118; clear HB; have HO_8 := n0_; have BK118 := n1_; have HB := n2_; have BK128 := n3_; have GW128 := n4_; have GE128 := n5_; have NB118_128 := n6_; have NB128_118 := n7_; clear n0_ n1_ n2_ n3_ n4_ n5_ n6_ n7_; clear hb hbox hg; have hnb61 := NB128_118.out; have hnc61 := NB118_128.out; have hcz62_0 : w60.cell? ⟨gb128, 0, none⟩ = some (.int .i64 0) := (blk_cell BK128.out 0).trans rfl; have hcz62_1 : w60.cell? ⟨gb128, 1, none⟩ = some (.int .i64 0) := (blk_cell BK128.out 1).trans rfl; have hcz62_2 : w60.cell? ⟨gb128, 2, none⟩ = some (.int .i64 0) := (blk_cell BK128.out 2).trans rfl; have hfz62_0 := blk_frozen BK128.out 0; have hfz62_1 := blk_frozen BK128.out 1; have hfz62_2 := blk_frozen BK128.out 2))
                          (try simp only [← hl8_2])
                          go_roundg k2
                          case measure => have := HK1.out; have := HK2.out; omega
                          case rel => exact ⟨(x8_2), (wrap64 (x41_2 + 1)), (by first | rfl | (simp; done) | (simp [*]; done)), H', ⟨by have := HK1.out; have := HK2.out; omega⟩, ⟨by (try simp only [hl8_1]); (try simp only [hl8_2]); (with_reducible repeat (first | apply Kd.S_alloc | apply Kd.S_drewN | apply Kd.S_drew)); exact Kd.S_mono (Kd.S_far (p := ⟨gb128, 2, none⟩) (Kd.S_far (p := ⟨gb128, 1, none⟩) (Kd.S_far (p := ⟨gb128, 0, none⟩) (Kd.S_types HO_8.out BK128.out (by decide)) (fun _ hk => hk.2) (.int .i64 ((rd_T30 l1 x41_2).f0))) (fun _ hk => hk.2) (.int .i64 ((rd_T30 l1 x41_2).f1))) (fun _ hk => hk.2) (.int .i64 ((rd_T30 l1 x41_2).f2))) (fun _ hk => trivial)⟩, ⟨by (try simp only [hl8_1]); (try simp only [hl8_2]); (with_reducible repeat (first | refine blk_drewN ?_ _ | refine blk_drew ?_ | refine blk_alloc ?_ _)); refine blk_far ?_ NB118_128.out _; (with_reducible repeat (first | refine blk_drewN ?_ _ | refine blk_drew ?_ | refine blk_alloc ?_ _)); refine blk_far ?_ NB118_128.out _; (with_reducible repeat (first | refine blk_drewN ?_ _ | refine blk_drew ?_ | refine blk_alloc ?_ _)); refine blk_far ?_ NB118_128.out _; (with_reducible repeat (first | refine blk_drewN ?_ _ | refine blk_drew ?_ | refine blk_alloc ?_ _)); exact BK118.out⟩, ⟨by repeat (first | (with_reducible first | exact HB.out | apply below_alloc | apply pw_below_drewN | apply below_drew1 | refine below_set ?_ GE118.out | refine below_set ?_ GE128.out) | exact HB.out)⟩⟩
                      · rw [if_neg c25] at H
                        exact absurd H (by simp)
                    · rw [if_neg c24] at H
                      exact absurd H (by simp)
                  · rw [if_neg c23] at H
                    have c23b0 : decide (x41_2 < (l1.length : Int)) = false := decide_eq_false c23
                    (try (have c23b0l := c23b0; simp only [hl8_1] at c23b0l))
                    (try (have c23b0l := c23b0; simp only [hl8_2] at c23b0l))
                    clear c23
                    replace H := Option.bind_eq_some_iff.mp H
                    obtain ⟨t126, A630, H⟩ := H
                    replace H : (some (t126, 0)) = some (r1, r2) := H
                    have A63 := Aside0.mk A630
                    clear A630
                    simp only [Option.some.injEq, Prod.mk.injEq] at H
                    obtain ⟨rfl, rfl⟩ := H
                    go_wp2_with (first | ((with_reducible refine gate_callee (f := 45) rfl ?_); refine goesL_ (some 79) rfl rfl Try.func45 (by kernel_rfl) rfl #[.slice Ao11 x8_2.length co11] rfl (by (try simp only [List.map_toArray, List.map_cons, List.map_nil]); first | done | rfl | (simp only [List.length_drop, List.length_take]; rfl)) ?_; (with_reducible refine (branch_determinant.calls k2 _ _ x8_2 t126 _ ?side1 ?side2 A63.out).mono ?_); (case side1 => repeat (first | exact (Kd.S_reads' HO_8.out).2.2 | (with_reducible refine Kd.C_alloc ?_ _) | (with_reducible refine Kd.C_drewN ?_ _) | (with_reducible refine Kd.C_drew ?_))); (case side2 => exact (Kd.S_reads' HO_8.out).2.1); rintro e w64 ⟨rfl, hb⟩; refine ⟨_, rfl, ?_⟩; have n0_ := Aside0.mk (Kd.S_below (by (with_reducible repeat (first | apply Kd.S_alloc | apply Kd.S_drewN | apply Kd.S_drew)); exact HO_8.out) hb); have n1_ := Aside0.mk (blk_below (g := gb118) (o := .cells #[.int .i64 a0, .slice A1 l1.length c1, .map mr118] 70 (0, 0)) (by (with_reducible repeat (first | refine blk_drewN ?_ _ | refine blk_drew ?_ | refine blk_alloc ?_ _)); exact BK118.out) hb); have n2_ := Aside0.mk (below_step (by repeat (first | (with_reducible first | exact HB.out | apply below_alloc | apply pw_below_drewN | apply below_drew1 | refine below_set ?_ GE118.out) | exact HB.out)) hb); clear HO_8; clear BK118; clear HB; have HO_8 := n0_; have BK118 := n1_; have HB := n2_; clear n0_ n1_ n2_; (try clear hb); (try clear hb2); (try clear hk); (try clear hi)))
                    go_ret2
                    exact ⟨by first | rfl | (simp [errW_none, errW_some] <;> rfl) | (simp only [← hji5]; first | rfl | (simp [errW_none, errW_some] <;> rfl)) | (simp [*, errW_none, errW_some] <;> rfl), by repeat (first | (with_reducible first | exact HB.out | apply below_alloc | apply pw_below_drewN | apply below_drew1 | refine below_set ?_ GE118.out) | exact HB.out)⟩
      · rw [if_neg c7] at H
        exact absurd H (by simp)
    · rw [if_neg c6] at H
      exact absurd H (by simp)
  · rw [if_neg c4] at H
    have c4b0 : (t117 == 0) = false := beq_eq_false_iff_ne.mpr c4
    have c4b1 : (t117 != 0) = true := bne_iff_ne.mpr c4
    simp only [Option.some.injEq, Prod.mk.injEq] at H
    obtain ⟨rfl, rfl⟩ := H
    go_enter Try.func18, Try.ntmps18
    go_wp2_with (first | (go_at_call 44; (with_reducible refine (branch_read.calls_err a0 A1 c1 l1 t117 _ ?side1 ?side2 A3.out (by first | (with_reducible assumption) | assumption)).mono ?_); (case side1 => repeat (first | exact HR1.out | (with_reducible refine Kd.C_alloc ?_ _) | (with_reducible refine Kd.C_drewN ?_ _) | (with_reducible refine Kd.C_drew ?_))); (case side2 => exact HC1.out); rintro e w65 ⟨rfl, hb⟩; have n0_ := Aside0.mk (below_step (by repeat (first | (with_reducible first | exact HB.out | apply below_alloc | apply pw_below_drewN | apply below_drew1) | exact HB.out)) hb); clear HB; have HB := n0_; clear n0_; (try clear hb)))
    go_ret2
    exact ⟨by first | rfl | (simp [errW_none, errW_some] <;> rfl) | (simp [*, errW_none, errW_some] <;> rfl), by repeat (first | (with_reducible first | exact HB.out | apply below_alloc | apply pw_below_drewN | apply below_drew1) | exact HB.out)⟩
end Go.Proofs.Ytpmadffgdfholaa.B
namespace Go.Proofs.Ytpmadffgdfholaa.B
open Go.RowKit Go.Proofs.YtpmadffgdfholaaW.PrintWords Go.Proofs.YtpmadffgdfholaaW.PrintLast Go.Proofs.YtpmadffgdfholaaW.PrintMore
attribute [local go_sem] max2_int min2_int max_two min_two max_three min_three max_four min_four   -- for this text's walks alone
set_option linter.unusedVariables false
set_option linter.unusedSimpArgs false
mutual
def trishawref03_reached.l0 : Nat → List (S30) → List Int → Int → Bool → Option (Int)
  | 0, _, _, _, _ => none
  | k + 1, x0, x1, x5, x6 => if x6 = true then (trishawref03_reached.l1 k x0 x1 x5 false 0) else (some x5)
def trishawref03_reached.l1 : Nat → List (S30) → List Int → Int → Bool → Int → Option (Int)
  | 0, _, _, _, _, _ => none
  | k + 1, x0, x1, x5, x6, x7 => if x7 < (x1.length : Int) then (if 0 ≤ x7 then (if 0 ≤ (rd x1 x7) then (if (rd x1 x7) < (x0.length : Int) then (if 0 ≤ ((rd_T30 x0 (rd x1 x7)).f0) then (if (Int.tmod (shr .i64 x5 ((rd_T30 x0 (rd x1 x7)).f0)) 2) = 1 then (if 0 ≤ ((rd_T30 x0 (rd x1 x7)).f1) then (if (Int.tmod (shr .i64 x5 ((rd_T30 x0 (rd x1 x7)).f1)) 2) = 0 then (trishawref03_reached.l1 k x0 x1 (wrap64 (x5 + (shl .i64 1 ((rd_T30 x0 (rd x1 x7)).f1)))) true (wrap64 (x7 + 1))) else (trishawref03_reached.l1 k x0 x1 x5 x6 (wrap64 (x7 + 1)))) else (none)) else (trishawref03_reached.l1 k x0 x1 x5 x6 (wrap64 (x7 + 1)))) else (none)) else (none)) else (none)) else (none)) else (trishawref03_reached.l0 k x0 x1 x5 x6)
end
def trishawref03_reached.f (k : Nat) (l0 : List (S30)) (l1 : List Int) : Option (Int) := trishawref03_reached.l0 k l0 l1 1 true
theorem trishawref03_reached.mono_l : ∀ k, (∀ y0 y1 y2 y3, LeO (trishawref03_reached.l0 k y0 y1 y2 y3) (trishawref03_reached.l0 (k + 1) y0 y1 y2 y3)) ∧ (∀ y0 y1 y2 y3 y4, LeO (trishawref03_reached.l1 k y0 y1 y2 y3 y4) (trishawref03_reached.l1 (k + 1) y0 y1 y2 y3 y4))
  | 0 => ⟨fun _ _ _ _ r h => by simp [trishawref03_reached.l0] at h, fun _ _ _ _ _ r h => by simp [trishawref03_reached.l1] at h⟩
  | k + 1 => by
    obtain ⟨ih0, ih1⟩ := trishawref03_reached.mono_l k
    refine ⟨?_, ?_⟩
    · intro y0 y1 y2 y3
      unfold trishawref03_reached.l0
      repeat' first
      | (with_reducible exact ih0 _ _ _ _)
      | (with_reducible exact ih1 _ _ _ _ _)
      | (with_reducible exact LeO.refl _)
      | (with_reducible exact LeO.none _)
      | (with_reducible refine LeO.ite ?_ ?_)
      | (with_reducible refine LeO.bind ?_ (fun _ => ?_))
      | exact ih0 _ _ _ _
      | exact ih1 _ _ _ _ _
      | exact LeO.none _
      | refine LeO.ite ?_ ?_
      | refine LeO.bind ?_ (fun _ => ?_)
    · intro y0 y1 y2 y3 y4
      unfold trishawref03_reached.l1
      repeat' first
      | (with_reducible exact ih0 _ _ _ _)
      | (with_reducible exact ih1 _ _ _ _ _)
      | (with_reducible exact LeO.refl _)
      | (with_reducible exact LeO.none _)
      | (with_reducible refine LeO.ite ?_ ?_)
      | (with_reducible refine LeO.bind ?_ (fun _ => ?_))
      | exact ih0 _ _ _ _
      | exact ih1 _ _ _ _ _
      | exact LeO.none _
      | refine LeO.ite ?_ ?_
      | refine LeO.bind ?_ (fun _ => ?_)
theorem trishawref03_reached.mono : ∀ a0 a1 k, LeO (trishawref03_reached.f k a0 a1) (trishawref03_reached.f (k + 1) a0 a1) := by
  intro a0 a1 k
  obtain ⟨ih0, ih1⟩ := trishawref03_reached.mono_l k
  unfold trishawref03_reached.f
  repeat' first
      | (with_reducible exact ih0 _ _ _ _)
      | (with_reducible exact ih1 _ _ _ _ _)
      | (with_reducible exact LeO.refl _)
      | (with_reducible exact LeO.none _)
      | (with_reducible refine LeO.ite ?_ ?_)
      | (with_reducible refine LeO.bind ?_ (fun _ => ?_))
      | exact ih0 _ _ _ _
      | exact ih1 _ _ _ _ _
      | exact LeO.none _
      | refine LeO.ite ?_ ?_
      | refine LeO.bind ?_ (fun _ => ?_)
set_option maxHeartbeats 8000000 in
set_option maxRecDepth 100000 in
theorem trishawref03_reached.calls (k : Nat) (A0 : Option Addr) (c0 : Nat) (l0 : List (S30)) (A1 : Option Addr) (c1 : Nat) (l1 : List Int) (r : Int) (w : World) (hr0 : Kd.C k30 w A0 l0.length l0) (hc0 : l0.length ≤ c0) (hr1 : Kd.C (Kd.int .i64) w A1 l1.length l1) (hc1 : l1.length ≤ c1) (h : trishawref03_reached.f k l0 l1 = some r) :
    Calls Try.prog 56 #[.slice A0 l0.length c0, .slice A1 l1.length c1] w fun e w' => e = .returned (.int .i64 r) ∧ Below w.heap.size w w' := by
  have hu30 := Try.underlying30
  have HR0 := Aside0.mk hr0
  have HC0 := Aside0.mk hc0
  clear hr0 hc0
  have HR1 := Aside0.mk hr1
  have HC1 := Aside0.mk hc1
  clear hr1 hc1
  have HB := Aside0.mk (Below.refl w.heap.size w)
  have H : (trishawref03_reached.l0 k l0 l1 1 true) = some r := h
  clear h
  have H' := Aside0.mk H
  clear H
  go_enter Try.func56, Try.ntmps56
  go_wp2
  go_loopg [5, 6] k (fun kq v5 v6 w' => ∃ (x5_1 : Int) (x6_1 : Bool), v5 = .int .i64 x5_1 ∧ v6 = .bool x6_1 ∧ Aside0 (trishawref03_reached.l0 kq l0 l1 x5_1 x6_1 = some r) ∧ Aside0 (kq ≤ k) ∧ Aside0 (Below w.heap.size w w'))
  case atStart => exact ⟨(1), (true), (by first | rfl | (simp; done) | (simp [*]; done)), (by first | rfl | (simp; done) | (simp [*]; done)), H', ⟨Nat.le_refl _⟩, ⟨by repeat (first | (with_reducible first | exact HB.out | apply below_alloc | apply pw_below_drewN | apply below_drew1) | exact HB.out)⟩⟩
  case round =>
    clear H'
    try clear c1
    try clear p2
    obtain ⟨x5_1, x6_1, rfl, rfl, HA, HK1, HB⟩ := hrel
    cases gk with
    | zero => exact absurd HA.out (by simp [trishawref03_reached.l0])
    | succ k1 =>
      have H := HA.out
      clear HA
      simp only [trishawref03_reached.l0] at H
      by_cases c3 : x6_1 = true
      · subst c3
        have H1 : (trishawref03_reached.l1 k1 l0 l1 x5_1 false 0) = some r := by rw [if_pos rfl] at H; exact H
        clear H
        have H := H1
        clear H1
        have H' := Aside0.mk H
        clear H
        go_wp2
        go_loopg [5, 6, 7] k1 (fun kq v5 v6 v7 w' => ∃ (x5_2 : Int) (x6_2 : Bool) (x7_2 : Int), v5 = .int .i64 x5_2 ∧ v6 = .bool x6_2 ∧ v7 = .int .i64 x7_2 ∧ Aside0 (trishawref03_reached.l1 kq l0 l1 x5_2 x6_2 x7_2 = some r) ∧ Aside0 (kq ≤ k1) ∧ Aside0 (Below w.heap.size w w'))
        case atStart => exact ⟨(x5_1), (false), (0), (by first | rfl | (simp; done) | (simp [*]; done)), (by first | rfl | (simp; done) | (simp [*]; done)), (by first | rfl | (simp; done) | (simp [*]; done)), H', ⟨Nat.le_refl _⟩, ⟨by repeat (first | (with_reducible first | exact HB.out | apply below_alloc | apply pw_below_drewN | apply below_drew1) | exact HB.out)⟩⟩
        case round =>
          clear H'
          try clear c1
          try clear p2
          try clear c3
          try clear p2
          obtain ⟨x5_2, x6_2, x7_2, rfl, rfl, rfl, HA, HK2, HB⟩ := hrel
          cases gk with
          | zero => exact absurd HA.out (by simp [trishawref03_reached.l1])
          | succ k2 =>
            have H := HA.out
            clear HA
            simp only [trishawref03_reached.l1] at H
            by_cases c4 : x7_2 < (l1.length : Int)
            · rw [if_pos c4] at H
              have c4b0 : decide (x7_2 < (l1.length : Int)) = true := decide_eq_true c4
              clear c4
              by_cases c5 : 0 ≤ x7_2
              · rw [if_pos c5] at H
                have c5b0 : decide (0 ≤ x7_2) = true := decide_eq_true c5
                clear c5
                by_cases c6 : 0 ≤ (rd l1 x7_2)
                · rw [if_pos c6] at H
                  have c6b0 : decide (0 ≤ (rd l1 x7_2)) = true := decide_eq_true c6
                  clear c6
                  by_cases c7 : (rd l1 x7_2) < (l0.length : Int)
                  · rw [if_pos c7] at H
                    have c7b0 : decide ((rd l1 x7_2) < (l0.length : Int)) = true := decide_eq_true c7
                    clear c7
                    by_cases c8 : 0 ≤ ((rd_T30 l0 (rd l1 x7_2)).f0)
                    · rw [if_pos c8] at H
                      have c8b0 := eq_true c8
                      have c8b1 : decide (0 ≤ ((rd_T30 l0 (rd l1 x7_2)).f0)) = true := decide_eq_true c8
                      clear c8
                      obtain ⟨ji9, hji9⟩ : ∃ j_ : Int, (shr .i64 x5_2 ((rd_T30 l0 (rd l1 x7_2)).f0)) = j_ := ⟨_, rfl⟩
                      replace H : (if (Int.tmod (ji9) 2) = 1 then (if 0 ≤ ((rd_T30 l0 (rd l1 x7_2)).f1) then (if (Int.tmod (shr .i64 x5_2 ((rd_T30 l0 (rd l1 x7_2)).f1)) 2) = 0 then (trishawref03_reached.l1 k2 l0 l1 (wrap64 (x5_2 + (shl .i64 1 ((rd_T30 l0 (rd l1 x7_2)).f1)))) true (wrap64 (x7_2 + 1))) else (trishawref03_reached.l1 k2 l0 l1 x5_2 x6_2 (wrap64 (x7_2 + 1)))) else (none)) else (trishawref03_reached.l1 k2 l0 l1 x5_2 x6_2 (wrap64 (x7_2 + 1)))) = some r := by first | (rw [hji9] at H; exact H) | (simp only [hji9] at H ⊢; exact H)
                      have hji9_ : (x5_2 / 2 ^ min ((rd_T30 l0 (rd l1 x7_2)).f0).toNat 64) = ji9 := hji9
                      have hji9z : ((rd_T30 l0 (rd l1 x7_2)).f0) ≤ 64 → (x5_2 / 2 ^ ((rd_T30 l0 (rd l1 x7_2)).f0).toNat) = ji9 := shr_small hji9
                      by_cases c10 : (Int.tmod (ji9) 2) = 1
                      · rw [if_pos c10] at H
                        have c10b0 : ((Int.tmod (ji9) 2) == 1) = true := beq_iff_eq.mpr c10
                        have c10b1 : ((Int.tmod (ji9) 2) != 1) = false := bne_eq_false_iff_eq.mpr c10
                        clear c10
                        by_cases c11 : 0 ≤ ((rd_T30 l0 (rd l1 x7_2)).f1)
                        · rw [if_pos c11] at H
                          have c11b0 := eq_true c11
                          have c11b1 : decide (0 ≤ ((rd_T30 l0 (rd l1 x7_2)).f1)) = true := decide_eq_true c11
                          clear c11
                          obtain ⟨ji12, hji12⟩ : ∃ j_ : Int, (shr .i64 x5_2 ((rd_T30 l0 (rd l1 x7_2)).f1)) = j_ := ⟨_, rfl⟩
                          replace H : (if (Int.tmod (ji12) 2) = 0 then (trishawref03_reached.l1 k2 l0 l1 (wrap64 (x5_2 + (shl .i64 1 ((rd_T30 l0 (rd l1 x7_2)).f1)))) true (wrap64 (x7_2 + 1))) else (trishawref03_reached.l1 k2 l0 l1 x5_2 x6_2 (wrap64 (x7_2 + 1)))) = some r := by first | (rw [hji12] at H; exact H) | (simp only [hji12] at H ⊢; exact H)
                          have hji12_ : (x5_2 / 2 ^ min ((rd_T30 l0 (rd l1 x7_2)).f1).toNat 64) = ji12 := hji12
                          have hji12z : ((rd_T30 l0 (rd l1 x7_2)).f1) ≤ 64 → (x5_2 / 2 ^ ((rd_T30 l0 (rd l1 x7_2)).f1).toNat) = ji12 := shr_small hji12
                          by_cases c13 : (Int.tmod (ji12) 2) = 0
                          · rw [if_pos c13] at H
                            have c13b0 : ((Int.tmod (ji12) 2) == 0) = true := beq_iff_eq.mpr c13
                            have c13b1 : ((Int.tmod (ji12) 2) != 0) = false := bne_eq_false_iff_eq.mpr c13
                            clear c13
                            have c14b0 := eq_true (of_decide_eq_true (by first | (with_reducible assumption) | assumption) : 0 ≤ ((rd_T30 l0 (rd l1 x7_2)).f1))
                            obtain ⟨ji15, hji15⟩ : ∃ j_ : Int, (shl .i64 1 ((rd_T30 l0 (rd l1 x7_2)).f1)) = j_ := ⟨_, rfl⟩
                            replace H : (trishawref03_reached.l1 k2 l0 l1 (wrap64 (x5_2 + (ji15))) true (wrap64 (x7_2 + 1))) = some r := by first | (rw [hji15] at H; exact H) | (simp only [hji15] at H ⊢; exact H)
                            have hji15_ : (IntKind.i64.wrap (1 * 2 ^ min ((rd_T30 l0 (rd l1 x7_2)).f1).toNat 64)) = ji15 := hji15
                            have hji15z : ((rd_T30 l0 (rd l1 x7_2)).f1) ≤ 64 → (IntKind.i64.wrap (1 * 2 ^ ((rd_T30 l0 (rd l1 x7_2)).f1).toNat)) = ji15 := shl_small hji15
                            have hji15u : (IntKind.i64.wrap (2 ^ min ((rd_T30 l0 (rd l1 x7_2)).f1).toNat 64)) = ji15 := by have h_ := hji15_; rw [Int.one_mul] at h_; exact h_
                            have hji15v : ((rd_T30 l0 (rd l1 x7_2)).f1) ≤ 64 → (IntKind.i64.wrap (2 ^ ((rd_T30 l0 (rd l1 x7_2)).f1).toNat)) = ji15 := fun hle_ => by have h_ := hji15z hle_; rw [Int.one_mul] at h_; exact h_
                            have hji15y : (wrap64 (1 * 2 ^ min ((rd_T30 l0 (rd l1 x7_2)).f1).toNat 64)) = ji15 := (i64_w _).symm.trans hji15_
                            have hji15x : ((rd_T30 l0 (rd l1 x7_2)).f1) ≤ 64 → (wrap64 (1 * 2 ^ ((rd_T30 l0 (rd l1 x7_2)).f1).toNat)) = ji15 := fun h_ => (i64_w _).symm.trans (hji15z h_)
                            have H' := Aside0.mk H
                            clear H
                            have p126 : 0 ≤ (x7_2 : Int) := of_decide_eq_true (by first | (with_reducible assumption) | assumption)
                            have q126 : x7_2 < (l1.length : Int) := of_decide_eq_true (by first | (with_reducible assumption) | assumption)
                            obtain ⟨ad126, e126, hx126_0⟩ := Kd.at_int HR1.out x7_2 p126 q126
                            cases e126
                            replace hx126_0 := (HB.out.cell (World.block_lt_of_cell? w _ hx126_0)).trans hx126_0
                            replace p126 := eq_true p126
                            replace q126 := eq_true q126
                            have p127 : 0 ≤ ((rd l1 x7_2) : Int) := of_decide_eq_true (by first | (with_reducible assumption) | assumption)
                            have q127 : (rd l1 x7_2) < (l0.length : Int) := of_decide_eq_true (by first | (with_reducible assumption) | assumption)
                            obtain ⟨ad127, e127, hx127_0, hx127_1, hx127_2⟩ := at_T30 HR0.out (rd l1 x7_2) p127 q127
                            cases e127
                            replace hx127_0 := (HB.out.cell (World.block_lt_of_cell? w _ hx127_0)).trans hx127_0
                            replace hx127_1 := (HB.out.cell (World.block_lt_of_cell? w _ hx127_1)).trans hx127_1
                            replace hx127_2 := (HB.out.cell (World.block_lt_of_cell? w _ hx127_2)).trans hx127_2
                            replace p127 := eq_true p127
                            replace q127 := eq_true q127
                            go_wp2_with (first | ((with_reducible refine gate_dst (N := 8) rfl ?_); refine box_event ?hg (N := 8) ?hd (cs := #[.int .i64 0, .int .i64 0, .int .i64 0]) (t := 30) ?hr ?_; (case hd => rfl); (case hg => rfl); (case hr => first | (go_simp; done) | (go_simp; rfl)); intro gb128 hg w16 hbox hb; have n0_ := Aside0.mk (below_step (by repeat (first | (with_reducible first | exact HB.out | apply below_alloc | apply pw_below_drewN | apply below_drew1) | exact HB.out)) hb); have n1_ := Aside0.mk (hbox); have n2_ := Aside0.mk ((by rw [hg]; exact (below_size (by repeat (first | (with_reducible first | exact HB.out | apply below_alloc | apply pw_below_drewN | apply below_drew1) | exact HB.out))) : w.heap.size ≤ gb128)); have n3_ := Aside0.mk ((by rw [hg]; exact (below_size (by repeat (first | (with_reducible first | exact HB.out | apply below_alloc | apply pw_below_drewN | apply below_drew1) | exact HB.out))) : w.heap.size ≤ gb128)); clear HB; have HB := n0_; have BK128 := n1_; have GW128 := n2_; have GE128 := n3_; clear n0_ n1_ n2_ n3_; clear hb hbox hg; have hcz17_0 : w16.cell? ⟨gb128, 0, none⟩ = some (.int .i64 0) := (blk_cell BK128.out 0).trans rfl; have hcz17_1 : w16.cell? ⟨gb128, 1, none⟩ = some (.int .i64 0) := (blk_cell BK128.out 1).trans rfl; have hcz17_2 : w16.cell? ⟨gb128, 2, none⟩ = some (.int .i64 0) := (blk_cell BK128.out 2).trans rfl; have hfz17_0 := blk_frozen BK128.out 0; have hfz17_1 := blk_frozen BK128.out 1; have hfz17_2 := blk_frozen BK128.out 2))
                            go_roundg k2
                            case measure => have := HK1.out; have := HK2.out; omega
                            case rel => exact ⟨(wrap64 (x5_2 + (ji15))), (true), (wrap64 (x7_2 + 1)), (by first | rfl | (simp; done) | (simp only [← hji15] <;> (first | rfl | simp)) | (simp [*]; done)), (by first | rfl | (simp; done) | (simp [*]; done)), (by first | rfl | (simp; done) | (simp [*]; done)), H', ⟨by have := HK1.out; have := HK2.out; omega⟩, ⟨by repeat (first | (with_reducible first | exact HB.out | apply below_alloc | apply pw_below_drewN | apply below_drew1 | refine below_set ?_ GE128.out) | exact HB.out)⟩⟩
                          · rw [if_neg c13] at H
                            have c13b0 : ((Int.tmod (ji12) 2) == 0) = false := beq_eq_false_iff_ne.mpr c13
                            have c13b1 : ((Int.tmod (ji12) 2) != 0) = true := bne_iff_ne.mpr c13
                            have H' := Aside0.mk H
                            clear H
                            have p126 : 0 ≤ (x7_2 : Int) := of_decide_eq_true (by first | (with_reducible assumption) | assumption)
                            have q126 : x7_2 < (l1.length : Int) := of_decide_eq_true (by first | (with_reducible assumption) | assumption)
                            obtain ⟨ad126, e126, hx126_0⟩ := Kd.at_int HR1.out x7_2 p126 q126
                            cases e126
                            replace hx126_0 := (HB.out.cell (World.block_lt_of_cell? w _ hx126_0)).trans hx126_0
                            replace p126 := eq_true p126
                            replace q126 := eq_true q126
                            have p127 : 0 ≤ ((rd l1 x7_2) : Int) := of_decide_eq_true (by first | (with_reducible assumption) | assumption)
                            have q127 : (rd l1 x7_2) < (l0.length : Int) := of_decide_eq_true (by first | (with_reducible assumption) | assumption)
                            obtain ⟨ad127, e127, hx127_0, hx127_1, hx127_2⟩ := at_T30 HR0.out (rd l1 x7_2) p127 q127
                            cases e127
                            replace hx127_0 := (HB.out.cell (World.block_lt_of_cell? w _ hx127_0)).trans hx127_0
                            replace hx127_1 := (HB.out.cell (World.block_lt_of_cell? w _ hx127_1)).trans hx127_1
                            replace hx127_2 := (HB.out.cell (World.block_lt_of_cell? w _ hx127_2)).trans hx127_2
                            replace p127 := eq_true p127
                            replace q127 := eq_true q127
                            go_wp2_with (first | ((with_reducible refine gate_dst (N := 8) rfl ?_); refine box_event ?hg (N := 8) ?hd (cs := #[.int .i64 0, .int .i64 0, .int .i64 0]) (t := 30) ?hr ?_; (case hd => rfl); (case hg => rfl); (case hr => first | (go_simp; done) | (go_simp; rfl)); intro gb128 hg w18 hbox hb; have n0_ := Aside0.mk (below_step (by repeat (first | (with_reducible first | exact HB.out | apply below_alloc | apply pw_below_drewN | apply below_drew1) | exact HB.out)) hb); have n1_ := Aside0.mk (hbox); have n2_ := Aside0.mk ((by rw [hg]; exact (below_size (by repeat (first | (with_reducible first | exact HB.out | apply below_alloc | apply pw_below_drewN | apply below_drew1) | exact HB.out))) : w.heap.size ≤ gb128)); have n3_ := Aside0.mk ((by rw [hg]; exact (below_size (by repeat (first | (with_reducible first | exact HB.out | apply below_alloc | apply pw_below_drewN | apply below_drew1) | exact HB.out))) : w.heap.size ≤ gb128)); clear HB; have HB := n0_; have BK128 := n1_; have GW128 := n2_; have GE128 := n3_; clear n0_ n1_ n2_ n3_; clear hb hbox hg; have hcz19_0 : w18.cell? ⟨gb128, 0, none⟩ = some (.int .i64 0) := (blk_cell BK128.out 0).trans rfl; have hcz19_1 : w18.cell? ⟨gb128, 1, none⟩ = some (.int .i64 0) := (blk_cell BK128.out 1).trans rfl; have hcz19_2 : w18.cell? ⟨gb128, 2, none⟩ = some (.int .i64 0) := (blk_cell BK128.out 2).trans rfl; have hfz19_0 := blk_frozen BK128.out 0; have hfz19_1 := blk_frozen BK128.out 1; have hfz19_2 := blk_frozen BK128.out 2))
                            go_roundg k2
                            case measure => have := HK1.out; have := HK2.out; omega
                            case rel => exact ⟨(x5_2), (x6_2), (wrap64 (x7_2 + 1)), (by first | rfl | (simp; done) | (simp [*]; done)), (by first | rfl | (simp; done) | (simp [*]; done)), (by first | rfl | (simp; done) | (simp [*]; done)), H', ⟨by have := HK1.out; have := HK2.out; omega⟩, ⟨by repeat (first | (with_reducible first | exact HB.out | apply below_alloc | apply pw_below_drewN | apply below_drew1 | refine below_set ?_ GE128.out) | exact HB.out)⟩⟩
                        · rw [if_neg c11] at H
                          exact absurd H (by simp)
                      · rw [if_neg c10] at H
                        have c10b0 : ((Int.tmod (ji9) 2) == 1) = false := beq_eq_false_iff_ne.mpr c10
                        have c10b1 : ((Int.tmod (ji9) 2) != 1) = true := bne_iff_ne.mpr c10
                        have H' := Aside0.mk H
                        clear H
                        have p126 : 0 ≤ (x7_2 : Int) := of_decide_eq_true (by first | (with_reducible assumption) | assumption)
                        have q126 : x7_2 < (l1.length : Int) := of_decide_eq_true (by first | (with_reducible assumption) | assumption)
                        obtain ⟨ad126, e126, hx126_0⟩ := Kd.at_int HR1.out x7_2 p126 q126
                        cases e126
                        replace hx126_0 := (HB.out.cell (World.block_lt_of_cell? w _ hx126_0)).trans hx126_0
                        replace p126 := eq_true p126
                        replace q126 := eq_true q126
                        have p127 : 0 ≤ ((rd l1 x7_2) : Int) := of_decide_eq_true (by first | (with_reducible assumption) | assumption)
                        have q127 : (rd l1 x7_2) < (l0.length : Int) := of_decide_eq_true (by first | (with_reducible assumption) | assumption)
                        obtain ⟨ad127, e127, hx127_0, hx127_1, hx127_2⟩ := at_T30 HR0.out (rd l1 x7_2) p127 q127
                        cases e127
                        replace hx127_0 := (HB.out.cell (World.block_lt_of_cell? w _ hx127_0)).trans hx127_0
                        replace hx127_1 := (HB.out.cell (World.block_lt_of_cell? w _ hx127_1)).trans hx127_1
                        replace hx127_2 := (HB.out.cell (World.block_lt_of_cell? w _ hx127_2)).trans hx127_2
                        replace p127 := eq_true p127
                        replace q127 := eq_true q127
                        go_wp2_with (first | ((with_reducible refine gate_dst (N := 8) rfl ?_); refine box_event ?hg (N := 8) ?hd (cs := #[.int .i64 0, .int .i64 0, .int .i64 0]) (t := 30) ?hr ?_; (case hd => rfl); (case hg => rfl); (case hr => first | (go_simp; done) | (go_simp; rfl)); intro gb128 hg w20 hbox hb; have n0_ := Aside0.mk (below_step (by repeat (first | (with_reducible first | exact HB.out | apply below_alloc | apply pw_below_drewN | apply below_drew1) | exact HB.out)) hb); have n1_ := Aside0.mk (hbox); have n2_ := Aside0.mk ((by rw [hg]; exact (below_size (by repeat (first | (with_reducible first | exact HB.out | apply below_alloc | apply pw_below_drewN | apply below_drew1) | exact HB.out))) : w.heap.size ≤ gb128)); have n3_ := Aside0.mk ((by rw [hg]; exact (below_size (by repeat (first | (with_reducible first | exact HB.out | apply below_alloc | apply pw_below_drewN | apply below_drew1) | exact HB.out))) : w.heap.size ≤ gb128)); clear HB; have HB := n0_; have BK128 := n1_; have GW128 := n2_; have GE128 := n3_; clear n0_ n1_ n2_ n3_; clear hb hbox hg; have hcz21_0 : w20.cell? ⟨gb128, 0, none⟩ = some (.int .i64 0) := (blk_cell BK128.out 0).trans rfl; have hcz21_1 : w20.cell? ⟨gb128, 1, none⟩ = some (.int .i64 0) := (blk_cell BK128.out 1).trans rfl; have hcz21_2 : w20.cell? ⟨gb128, 2, none⟩ = some (.int .i64 0) := (blk_cell BK128.out 2).trans rfl; have hfz21_0 := blk_frozen BK128.out 0; have hfz21_1 := blk_frozen BK128.out 1; have hfz21_2 := blk_frozen BK128.out 2))
                        go_roundg k2
                        case measure => have := HK1.out; have := HK2.out; omega
                        case rel => exact ⟨(x5_2), (x6_2), (wrap64 (x7_2 + 1)), (by first | rfl | (simp; done) | (simp [*]; done)), (by first | rfl | (simp; done) | (simp [*]; done)), (by first | rfl | (simp; done) | (simp [*]; done)), H', ⟨by have := HK1.out; have := HK2.out; omega⟩, ⟨by repeat (first | (with_reducible first | exact HB.out | apply below_alloc | apply pw_below_drewN | apply below_drew1 | refine below_set ?_ GE128.out) | exact HB.out)⟩⟩
                    · rw [if_neg c8] at H
                      exact absurd H (by simp)
                  · rw [if_neg c7] at H
                    exact absurd H (by simp)
                · rw [if_neg c6] at H
                  exact absurd H (by simp)
              · rw [if_neg c5] at H
                exact absurd H (by simp)
            · rw [if_neg c4] at H
              have c4b0 : decide (x7_2 < (l1.length : Int)) = false := decide_eq_false c4
              clear c4
              have H' := Aside0.mk H
              clear H
              go_wp2
              go_roundg k2
              case measure => have := HK1.out; have := HK2.out; omega
              case rel => exact ⟨(x5_2), (x6_2), (by first | rfl | (simp; done) | (simp [*]; done)), (by first | rfl | (simp; done) | (simp [*]; done)), H', ⟨by have := HK1.out; have := HK2.out; omega⟩, ⟨by repeat (first | (with_reducible first | exact HB.out | apply below_alloc | apply pw_below_drewN | apply below_drew1) | exact HB.out)⟩⟩
      · replace c3 := Bool.eq_false_iff.mpr c3
        subst c3
        have H1 : (some x5_1) = some r := by rw [if_neg (show ¬ (false = true) by decide)] at H; exact H
        clear H
        have H := H1
        clear H1
        obtain rfl := Option.some.inj H
        go_wp2
        go_ret
        exact ⟨by first | rfl | (simp [errW_none, errW_some] <;> rfl) | (simp [*, errW_none, errW_some] <;> rfl), by repeat (first | (with_reducible first | exact HB.out | apply below_alloc | apply pw_below_drewN | apply below_drew1) | exact HB.out)⟩
def trishawref03_all.l0 : Nat → List (S30) → List Int → Int → Option (List Int)
  | 0, _, _, _ => none
  | k + 1, x0, x3, x4 => if x4 < (x0.length : Int) then (if x3.length < 17592186044416 then (trishawref03_all.l0 k x0 (x3 ++ [x4]) (wrap64 (x4 + 1))) else (none)) else (some x3)
def trishawref03_all.f (k : Nat) (l0 : List (S30)) : Option (List Int) := trishawref03_all.l0 k l0 ([] : List Int) 0
def trishawref03_Reach.f (k : Nat) (a0 : Int) (l1 : List (S30)) : Option (Int × Int) := (trishawref03_Town.f k a0 l1).bind fun t132 => (if t132 = 0 then ((trishawref03_all.f k l1).bind fun t133 => ((trishawref03_reached.f k l1 t133).bind fun t136 => (some (t136, 0)))) else (some (0, t132)))
end Go.Proofs.Ytpmadffgdfholaa.B
namespace Go.Proofs.Ytpmadffgdfholaa.B
open Go.RowKit Go.Proofs.YtpmadffgdfholaaW.PrintWords Go.Proofs.YtpmadffgdfholaaW.PrintLast Go.Proofs.YtpmadffgdfholaaW.PrintMore
attribute [local go_sem] max2_int min2_int max_two min_two max_three min_three max_four min_four   -- for this text's walks alone
set_option linter.unusedVariables false
set_option linter.unusedSimpArgs false
def trishawref03_cost.l0 : Nat → List (S30) → List Int → Int → Int → Option (Int)
  | 0, _, _, _, _ => none
  | k + 1, x0, x1, x5, x6 => if x6 < (x1.length : Int) then (if 0 ≤ x6 then (if 0 ≤ (rd x1 x6) then (if (rd x1 x6) < (x0.length : Int) then (trishawref03_cost.l0 k x0 x1 (wrap64 (x5 + ((rd_T30 x0 (rd x1 x6)).f2))) (wrap64 (x6 + 1))) else (none)) else (none)) else (none)) else (some x5)
def trishawref03_cost.f (k : Nat) (l0 : List (S30)) (l1 : List Int) : Option (Int) := trishawref03_cost.l0 k l0 l1 0 0
theorem trishawref03_cost.mono_l : ∀ k, (∀ y0 y1 y2 y3, LeO (trishawref03_cost.l0 k y0 y1 y2 y3) (trishawref03_cost.l0 (k + 1) y0 y1 y2 y3))
  | 0 => fun _ _ _ _ r h => by simp [trishawref03_cost.l0] at h
  | k + 1 => by
    have ih0 := trishawref03_cost.mono_l k
    · intro y0 y1 y2 y3
      unfold trishawref03_cost.l0
      repeat' first
      | (with_reducible exact ih0 _ _ _ _)
      | (with_reducible exact LeO.refl _)
      | (with_reducible exact LeO.none _)
      | (with_reducible refine LeO.ite ?_ ?_)
      | (with_reducible refine LeO.bind ?_ (fun _ => ?_))
      | exact ih0 _ _ _ _
      | exact LeO.none _
      | refine LeO.ite ?_ ?_
      | refine LeO.bind ?_ (fun _ => ?_)
theorem trishawref03_cost.mono : ∀ a0 a1 k, LeO (trishawref03_cost.f k a0 a1) (trishawref03_cost.f (k + 1) a0 a1) := by
  intro a0 a1 k
  have ih0 := trishawref03_cost.mono_l k
  unfold trishawref03_cost.f
  repeat' first
      | (with_reducible exact ih0 _ _ _ _)
      | (with_reducible exact LeO.refl _)
      | (with_reducible exact LeO.none _)
      | (with_reducible refine LeO.ite ?_ ?_)
      | (with_reducible refine LeO.bind ?_ (fun _ => ?_))
      | exact ih0 _ _ _ _
      | exact LeO.none _
      | refine LeO.ite ?_ ?_
      | refine LeO.bind ?_ (fun _ => ?_)
set_option maxHeartbeats 8000000 in
set_option maxRecDepth 100000 in
theorem trishawref03_cost.calls (k : Nat) (A0 : Option Addr) (c0 : Nat) (l0 : List (S30)) (A1 : Option Addr) (c1 : Nat) (l1 : List Int) (r : Int) (w : World) (hr0 : Kd.C k30 w A0 l0.length l0) (hc0 : l0.length ≤ c0) (hr1 : Kd.C (Kd.int .i64) w A1 l1.length l1) (hc1 : l1.length ≤ c1) (h : trishawref03_cost.f k l0 l1 = some r) :
    Calls Try.prog 63 #[.slice A0 l0.length c0, .slice A1 l1.length c1] w fun e w' => e = .returned (.int .i64 r) ∧ Drawn0 w w' := by
  have HR0 := Aside0.mk hr0
  have HC0 := Aside0.mk hc0
  clear hr0 hc0
  have HR1 := Aside0.mk hr1
  have HC1 := Aside0.mk hc1
  clear hr1 hc1
  have H : (trishawref03_cost.l0 k l0 l1 0 0) = some r := h
  clear h
  have H' := Aside0.mk H
  clear H
  go_enter Try.func63, Try.ntmps63
  go_wp2
  go_loopg [5, 6] k (fun kq v5 v6 w' => ∃ (x5_1 : Int) (x6_1 : Int), v5 = .int .i64 x5_1 ∧ v6 = .int .i64 x6_1 ∧ Aside0 (trishawref03_cost.l0 kq l0 l1 x5_1 x6_1 = some r) ∧ Aside0 (kq ≤ k) ∧ Drawn0 w w')
  case atStart => exact ⟨(0), (0), (by first | rfl | (simp; done) | (simp [*]; done)), (by first | rfl | (simp; done) | (simp [*]; done)), H', ⟨Nat.le_refl _⟩, by repeat (first | exact Drawn0.refl _ | apply Drawn0.step)⟩
  case round =>
    clear H'
    try clear c1
    try clear p2
    obtain ⟨x5_1, x6_1, rfl, rfl, HA, HK1, ⟨m1, rfl⟩⟩ := hrel
    cases gk with
    | zero => exact absurd HA.out (by simp [trishawref03_cost.l0])
    | succ k1 =>
      have H := HA.out
      clear HA
      simp only [trishawref03_cost.l0] at H
      by_cases c3 : x6_1 < (l1.length : Int)
      · rw [if_pos c3] at H
        have c3b0 : decide (x6_1 < (l1.length : Int)) = true := decide_eq_true c3
        clear c3
        by_cases c4 : 0 ≤ x6_1
        · rw [if_pos c4] at H
          have c4b0 : decide (0 ≤ x6_1) = true := decide_eq_true c4
          clear c4
          by_cases c5 : 0 ≤ (rd l1 x6_1)
          · rw [if_pos c5] at H
            have c5b0 : decide (0 ≤ (rd l1 x6_1)) = true := decide_eq_true c5
            clear c5
            by_cases c6 : (rd l1 x6_1) < (l0.length : Int)
            · rw [if_pos c6] at H
              have c6b0 : decide ((rd l1 x6_1) < (l0.length : Int)) = true := decide_eq_true c6
              clear c6
              have H' := Aside0.mk H
              clear H
              have p159 : 0 ≤ (x6_1 : Int) := of_decide_eq_true (by first | (with_reducible assumption) | assumption)
              have q159 : x6_1 < (l1.length : Int) := of_decide_eq_true (by first | (with_reducible assumption) | assumption)
              obtain ⟨ad159, e159, hx159_0⟩ := Kd.at_int HR1.out x6_1 p159 q159
              cases e159
              replace p159 := eq_true p159
              replace q159 := eq_true q159
              have p160 : 0 ≤ ((rd l1 x6_1) : Int) := of_decide_eq_true (by first | (with_reducible assumption) | assumption)
              have q160 : (rd l1 x6_1) < (l0.length : Int) := of_decide_eq_true (by first | (with_reducible assumption) | assumption)
              obtain ⟨ad160, e160, hx160_0, hx160_1, hx160_2⟩ := at_T30 HR0.out (rd l1 x6_1) p160 q160
              cases e160
              replace p160 := eq_true p160
              replace q160 := eq_true q160
              go_wp2
              go_roundg k1
              case measure => have := HK1.out; omega
              case rel => exact ⟨(wrap64 (x5_1 + ((rd_T30 l0 (rd l1 x6_1)).f2))), (wrap64 (x6_1 + 1)), (by first | rfl | (simp; done) | (simp [*]; done)), (by first | rfl | (simp; done) | (simp [*]; done)), H', ⟨by have := HK1.out; omega⟩, by repeat (first | exact Drawn0.refl _ | apply Drawn0.step)⟩
            · rw [if_neg c6] at H
              exact absurd H (by simp)
          · rw [if_neg c5] at H
            exact absurd H (by simp)
        · rw [if_neg c4] at H
          exact absurd H (by simp)
      · rw [if_neg c3] at H
        have c3b0 : decide (x6_1 < (l1.length : Int)) = false := decide_eq_false c3
        clear c3
        obtain rfl := Option.some.inj H
        go_wp2
        go_ret
        exact ⟨by first | rfl | (simp; done) | (simp [*]; done), by repeat (first | exact Drawn0.refl _ | apply Drawn0.step)⟩
end Go.Proofs.Ytpmadffgdfholaa.B
