/- Texts behind the row of BranchFinds, part 3: contracts of the functions it reaches, words that their walks use, and lemmas in plain Lean. -/
import Derived.Below
import Derived.Deep.Draws
import Derived.Deep.AppendLies
import Derived.Maps.AppendAt
import Derived.OwnWalk
import Derived.Laws.BytesArg
import Derived.Laws.MakeOwn
import Derived.Laws.OwnMore
import Derived.Deep.OwnRows
import Derived.Tactics
import Derived.Lib.ConvBytes
import Derived.Laws.Slices
import Derived.WalkKit
import Derived.KernelRfl
import Derived.RowKit3
import Derived.Deep.LoopGhost
import Derived.Deep.QuietTactic
import Derived.BigQuiet
import Derived.WideLaws
import Derived.Deep.DeepCutAuto
import Derived.Deep.CutBlock
import Derived.Deep.RegionHeld3
import Derived.Laws.Rows
import Derived.Lib.AppendStr
import Derived.ArgAppend
import Derived.Laws.IdiomCopy
import Derived.RowKit
import Derived.OrdersHeld
import Derived.Laws.BitsLemmas
import Derived.Test.YtpmadffgdfholaaProg
import Derived.Laws.StructEq
import Derived.WalkSpells
import Derived.MapKept
import Derived.Deep.DrawnRows
import Derived.Maps.RangeWalk
import Derived.Laws.EntriesVeiled
import Derived.Test.YtpmadffgdfholaaK1
import Derived.Test.YtpmadffgdfholaaK2
namespace Go.Proofs.Ytpmadffgdfholaa.B
open Go.RowKit Go.Proofs.YtpmadffgdfholaaW.PrintWords Go.Proofs.YtpmadffgdfholaaW.PrintLast Go.Proofs.YtpmadffgdfholaaW.PrintMore
attribute [local go_sem] max2_int min2_int max_two min_two max_three min_three max_four min_four   -- for this text's walks alone
set_option linter.unusedVariables false
set_option linter.unusedSimpArgs false
mutual
def trishawref03_Less.l0 : Nat → List Int → List Int → Int → Option (Bool)
  | 0, _, _, _ => none
  | k + 1, x0, x1, x5 => if x5 < (x0.length : Int) then (trishawref03_Less.j1 k x0 x1 x5 (decide (x5 < (x1.length : Int)))) else (trishawref03_Less.j1 k x0 x1 x5 false)
def trishawref03_Less.j1 : Nat → List Int → List Int → Int → Bool → Option (Bool)
  | 0, _, _, _, _ => none
  | k + 1, x0, x1, x5, x15 => if x15 = true then (if 0 ≤ x5 then (if x5 < (x0.length : Int) then (if x5 < (x1.length : Int) then (if (rd x0 x5) = (rd x1 x5) then (trishawref03_Less.l0 k x0 x1 (wrap64 (x5 + 1))) else (some (decide ((rd x0 x5) < (rd x1 x5))))) else (none)) else (none)) else (none)) else (some (decide ((x0.length : Int) < (x1.length : Int))))
end
def trishawref03_Less.f (k : Nat) (l0 : List Int) (l1 : List Int) : Option (Bool) := trishawref03_Less.l0 k l0 l1 0
theorem trishawref03_Less.mono_l : ∀ k, (∀ y0 y1 y2, LeO (trishawref03_Less.l0 k y0 y1 y2) (trishawref03_Less.l0 (k + 1) y0 y1 y2)) ∧ (∀ y0 y1 y2 y3, LeO (trishawref03_Less.j1 k y0 y1 y2 y3) (trishawref03_Less.j1 (k + 1) y0 y1 y2 y3))
  | 0 => ⟨fun _ _ _ r h => by simp [trishawref03_Less.l0] at h, fun _ _ _ _ r h => by simp [trishawref03_Less.j1] at h⟩
  | k + 1 => by
    obtain ⟨ih0, ih1⟩ := trishawref03_Less.mono_l k
    refine ⟨?_, ?_⟩
    · intro y0 y1 y2
      unfold trishawref03_Less.l0
      repeat' first
      | (with_reducible exact ih0 _ _ _)
      | (with_reducible exact ih1 _ _ _ _)
      | (with_reducible exact LeO.refl _)
      | (with_reducible exact LeO.none _)
      | (with_reducible refine LeO.ite ?_ ?_)
      | (with_reducible refine LeO.bind ?_ (fun _ => ?_))
      | exact ih0 _ _ _
      | exact ih1 _ _ _ _
      | exact LeO.none _
      | refine LeO.ite ?_ ?_
      | refine LeO.bind ?_ (fun _ => ?_)
    · intro y0 y1 y2 y3
      unfold trishawref03_Less.j1
      repeat' first
      | (with_reducible exact ih0 _ _ _)
      | (with_reducible exact ih1 _ _ _ _)
      | (with_reducible exact LeO.refl _)
      | (with_reducible exact LeO.none _)
      | (with_reducible refine LeO.ite ?_ ?_)
      | (with_reducible refine LeO.bind ?_ (fun _ => ?_))
      | exact ih0 _ _ _
      | exact ih1 _ _ _ _
      | exact LeO.none _
      | refine LeO.ite ?_ ?_
      | refine LeO.bind ?_ (fun _ => ?_)
theorem trishawref03_Less.mono : ∀ a0 a1 k, LeO (trishawref03_Less.f k a0 a1) (trishawref03_Less.f (k + 1) a0 a1) := by
  intro a0 a1 k
  obtain ⟨ih0, ih1⟩ := trishawref03_Less.mono_l k
  unfold trishawref03_Less.f
  repeat' first
      | (with_reducible exact ih0 _ _ _)
      | (with_reducible exact ih1 _ _ _ _)
      | (with_reducible exact LeO.refl _)
      | (with_reducible exact LeO.none _)
      | (with_reducible refine LeO.ite ?_ ?_)
      | (with_reducible refine LeO.bind ?_ (fun _ => ?_))
      | exact ih0 _ _ _
      | exact ih1 _ _ _ _
      | exact LeO.none _
      | refine LeO.ite ?_ ?_
      | refine LeO.bind ?_ (fun _ => ?_)
set_option maxHeartbeats 8000000 in
set_option maxRecDepth 100000 in
theorem trishawref03_Less.calls (k : Nat) (A0 : Option Addr) (c0 : Nat) (l0 : List Int) (A1 : Option Addr) (c1 : Nat) (l1 : List Int) (r : Bool) (w : World) (hr0 : Kd.C (Kd.int .i64) w A0 l0.length l0) (hc0 : l0.length ≤ c0) (hr1 : Kd.C (Kd.int .i64) w A1 l1.length l1) (hc1 : l1.length ≤ c1) (h : trishawref03_Less.f k l0 l1 = some r) :
    Calls Try.prog 38 #[.slice A0 l0.length c0, .slice A1 l1.length c1] w fun e w' => e = .returned (.bool r) ∧ Drawn0 w w' := by
  have HR0 := Aside0.mk hr0
  have HC0 := Aside0.mk hc0
  clear hr0 hc0
  have HR1 := Aside0.mk hr1
  have HC1 := Aside0.mk hc1
  clear hr1 hc1
  have H : (trishawref03_Less.l0 k l0 l1 0) = some r := h
  clear h
  have H' := Aside0.mk H
  clear H
  go_enter Try.func38, Try.ntmps38
  go_wp2
  repeat (go_quiet (fail); try go_wp2)
  go_loopg [5] k (fun kq v5 w' => ∃ (x5_1 : Int), v5 = .int .i64 x5_1 ∧ Aside0 (trishawref03_Less.l0 kq l0 l1 x5_1 = some r) ∧ Aside0 (kq ≤ k) ∧ Drawn0 w w')
  case atStart => exact ⟨(0), (by first | rfl | (simp; done) | (simp [*]; done)), H', ⟨Nat.le_refl _⟩, by repeat (first | exact Drawn0.refl _ | apply Drawn0.step)⟩
  case round =>
    clear H'
    try clear c1
    try clear p2
    obtain ⟨x5_1, rfl, HA, HK1, ⟨m1, rfl⟩⟩ := hrel
    cases gk with
    | zero => exact absurd HA.out (by simp [trishawref03_Less.l0])
    | succ k1 =>
      have H := HA.out
      clear HA
      simp only [trishawref03_Less.l0] at H
      have HC3 := Aside0.mk H
      clear H
      go_upto_region 2 with (fail)
      repeat (go_quiet (fail); go_upto_region 2 with (fail))
      go_cut [15] (fun v15 wc => ∃ (kq : Nat) (x15_2 : Bool), v15 = .bool x15_2 ∧ Aside0 (trishawref03_Less.j1 kq l0 l1 x5_1 x15_2 = some r) ∧ Aside0 (kq ≤ k1) ∧ Drawn0 w wc)
      case first =>
        have H := HC3.out
        clear HC3
        by_cases c4 : x5_1 < (l0.length : Int)
        · rw [if_pos c4] at H
          have c4b0 : decide (x5_1 < (l0.length : Int)) = true := decide_eq_true c4
          clear c4
          (first | rw [c4b0] | (simp only [i64_w, i32_w]; rw [c4b0]) | skip)
          have H' := Aside0.mk H
          clear H
          go_wp2
          repeat (go_quiet (fail); try go_wp2)
          go_meet
          case rel => exact ⟨_, (decide (x5_1 < (l1.length : Int))), (by first | rfl | (simp; done) | (simp [*]; done)), H', ⟨by have := HK1.out; first | omega | exact Nat.le_refl _⟩, by repeat (first | exact Drawn0.refl _ | apply Drawn0.step)⟩
        · rw [if_neg c4] at H
          have c4b0 : decide (x5_1 < (l0.length : Int)) = false := decide_eq_false c4
          clear c4
          (first | rw [c4b0] | (simp only [i64_w, i32_w]; rw [c4b0]) | skip)
          have H' := Aside0.mk H
          clear H
          go_wp2
          repeat (go_quiet (fail); try go_wp2)
          go_meet
          case rel => exact ⟨_, (false), (by first | rfl | (simp; done) | (simp [*]; done)), H', ⟨by have := HK1.out; first | omega | exact Nat.le_refl _⟩, by repeat (first | exact Drawn0.refl _ | apply Drawn0.step)⟩
      case rest =>
        clear HC3
        try clear c1
        try clear p2
        try clear c3
        try clear c4
        try clear c4b0
        try clear p2
        obtain ⟨kq, x15_2, rfl, HA, HJ2, ⟨mc2, rfl⟩⟩ := hcut
        cases kq with
        | zero => exact absurd HA.out (by simp [trishawref03_Less.j1])
        | succ kj2 =>
          have H := HA.out
          clear HA
          simp only [trishawref03_Less.j1] at H
          by_cases c5 : x15_2 = true
          · subst c5
            have H1 : (if 0 ≤ x5_1 then (if x5_1 < (l0.length : Int) then (if x5_1 < (l1.length : Int) then (if (rd l0 x5_1) = (rd l1 x5_1) then (trishawref03_Less.l0 kj2 l0 l1 (wrap64 (x5_1 + 1))) else (some (decide ((rd l0 x5_1) < (rd l1 x5_1))))) else (none)) else (none)) else (none)) = some r := by rw [if_pos rfl] at H; exact H
            clear H
            have H := H1
            clear H1
            by_cases c6 : 0 ≤ x5_1
            · rw [if_pos c6] at H
              have c6b0 : decide (0 ≤ x5_1) = true := decide_eq_true c6
              clear c6
              by_cases c7 : x5_1 < (l0.length : Int)
              · rw [if_pos c7] at H
                have c7b0 : decide (x5_1 < (l0.length : Int)) = true := decide_eq_true c7
                clear c7
                by_cases c8 : x5_1 < (l1.length : Int)
                · rw [if_pos c8] at H
                  have c8b0 : decide (x5_1 < (l1.length : Int)) = true := decide_eq_true c8
                  clear c8
                  by_cases c9 : (rd l0 x5_1) = (rd l1 x5_1)
                  · rw [if_pos c9] at H
                    have c9b0 : ((rd l0 x5_1) == (rd l1 x5_1)) = true := beq_iff_eq.mpr c9
                    have c9b1 : ((rd l0 x5_1) != (rd l1 x5_1)) = false := bne_eq_false_iff_eq.mpr c9
                    clear c9
                    have H' := Aside0.mk H
                    clear H
                    have p183 : 0 ≤ (x5_1 : Int) := of_decide_eq_true (by first | (with_reducible assumption) | assumption)
                    have q183 : x5_1 < (l0.length : Int) := of_decide_eq_true (by first | (with_reducible assumption) | assumption)
                    obtain ⟨ad183, e183, hx183_0⟩ := Kd.at_int HR0.out x5_1 p183 q183
                    cases e183
                    replace p183 := eq_true p183
                    replace q183 := eq_true q183
                    have p184 : 0 ≤ (x5_1 : Int) := of_decide_eq_true (by first | (with_reducible assumption) | assumption)
                    have q184 : x5_1 < (l1.length : Int) := of_decide_eq_true (by first | (with_reducible assumption) | assumption)
                    obtain ⟨ad184, e184, hx184_0⟩ := Kd.at_int HR1.out x5_1 p184 q184
                    cases e184
                    replace p184 := eq_true p184
                    replace q184 := eq_true q184
                    go_wp2
                    repeat (go_quiet (fail); try go_wp2)
                    go_roundg kj2
                    case measure => have := HK1.out; have := HJ2.out; omega
                    case rel => exact ⟨(wrap64 (x5_1 + 1)), (by first | rfl | (simp; done) | (simp [*]; done)), H', ⟨by have := HK1.out; have := HJ2.out; omega⟩, by repeat (first | exact Drawn0.refl _ | apply Drawn0.step)⟩
                  · rw [if_neg c9] at H
                    have c9b0 : ((rd l0 x5_1) == (rd l1 x5_1)) = false := beq_eq_false_iff_ne.mpr c9
                    have c9b1 : ((rd l0 x5_1) != (rd l1 x5_1)) = true := bne_iff_ne.mpr c9
                    obtain rfl := Option.some.inj H
                    have p183 : 0 ≤ (x5_1 : Int) := of_decide_eq_true (by first | (with_reducible assumption) | assumption)
                    have q183 : x5_1 < (l0.length : Int) := of_decide_eq_true (by first | (with_reducible assumption) | assumption)
                    obtain ⟨ad183, e183, hx183_0⟩ := Kd.at_int HR0.out x5_1 p183 q183
                    cases e183
                    replace p183 := eq_true p183
                    replace q183 := eq_true q183
                    have p184 : 0 ≤ (x5_1 : Int) := of_decide_eq_true (by first | (with_reducible assumption) | assumption)
                    have q184 : x5_1 < (l1.length : Int) := of_decide_eq_true (by first | (with_reducible assumption) | assumption)
                    obtain ⟨ad184, e184, hx184_0⟩ := Kd.at_int HR1.out x5_1 p184 q184
                    cases e184
                    replace p184 := eq_true p184
                    replace q184 := eq_true q184
                    have p185 : 0 ≤ (x5_1 : Int) := of_decide_eq_true (by first | (with_reducible assumption) | assumption)
                    have q185 : x5_1 < (l0.length : Int) := of_decide_eq_true (by first | (with_reducible assumption) | assumption)
                    obtain ⟨ad185, e185, hx185_0⟩ := Kd.at_int HR0.out x5_1 p185 q185
                    obtain rfl : ad183 = ad185 := (by injection e185)
                    replace p185 := eq_true p185
                    replace q185 := eq_true q185
                    have p186 : 0 ≤ (x5_1 : Int) := of_decide_eq_true (by first | (with_reducible assumption) | assumption)
                    have q186 : x5_1 < (l1.length : Int) := of_decide_eq_true (by first | (with_reducible assumption) | assumption)
                    obtain ⟨ad186, e186, hx186_0⟩ := Kd.at_int HR1.out x5_1 p186 q186
                    obtain rfl : ad184 = ad186 := (by injection e186)
                    replace p186 := eq_true p186
                    replace q186 := eq_true q186
                    go_wp2
                    repeat (go_quiet (fail); try go_wp2)
                    go_ret
                    exact ⟨by first | rfl | (simp; done) | (simp [*]; done), by repeat (first | exact Drawn0.refl _ | apply Drawn0.step)⟩
                · rw [if_neg c8] at H
                  exact absurd H (by simp)
              · rw [if_neg c7] at H
                exact absurd H (by simp)
            · rw [if_neg c6] at H
              exact absurd H (by simp)
          · replace c5 := Bool.eq_false_iff.mpr c5
            subst c5
            have H1 : (some (decide ((l0.length : Int) < (l1.length : Int)))) = some r := by rw [if_neg (show ¬ (false = true) by decide)] at H; exact H
            clear H
            have H := H1
            clear H1
            obtain rfl := Option.some.inj H
            go_wp2
            repeat (go_quiet (fail); try go_wp2)
            go_ret
            exact ⟨by first | rfl | (simp; done) | (simp [*]; done), by repeat (first | exact Drawn0.refl _ | apply Drawn0.step)⟩
end Go.Proofs.Ytpmadffgdfholaa.B
namespace Go.Proofs.Ytpmadffgdfholaa.B
open Go.RowKit Go.Proofs.YtpmadffgdfholaaW.PrintWords Go.Proofs.YtpmadffgdfholaaW.PrintLast Go.Proofs.YtpmadffgdfholaaW.PrintMore
attribute [local go_sem] max2_int min2_int max_two min_two max_three min_three max_four min_four   -- for this text's walks alone
set_option linter.unusedVariables false
set_option linter.unusedSimpArgs false
def trishawlaw03_three.f  : Option ((List (S30))) := some (([(⟨0, 1, 5⟩ : S30), (⟨0, 2, 1⟩ : S30), (⟨2, 1, 2⟩ : S30)] : List (S30)))
set_option maxHeartbeats 8000000 in
set_option maxRecDepth 100000 in
theorem trishawlaw03_three.calls  (r : List (S30)) (w : World) (h : trishawlaw03_three.f  = some r) :
    Calls Try.prog 43 #[] w fun e w' => ∃ v0_ : Value, e = .returned (v0_) ∧ Kd.R k30 30 w' w.heap.size (fun _ => True) v0_ r ∧ Below w.heap.size w w' := by
  have hu30 := Try.underlying30
  have HB := Aside0.mk (Below.refl w.heap.size w)
  have H : (some (([(⟨0, 1, 5⟩ : S30), (⟨0, 2, 1⟩ : S30), (⟨2, 1, 2⟩ : S30)] : List (S30)))) = some r := h
  clear h
  obtain ⟨y206, hy206⟩ : ∃ y_ : List (S30), y_ = (([(⟨0, 1, 5⟩ : S30), (⟨0, 2, 1⟩ : S30), (⟨2, 1, 2⟩ : S30)] : List (S30))) := ⟨_, rfl⟩
  replace H : (some y206) = some r := by first | (rw [hy206]; with_reducible exact H) | (have H2_ := (Option.bind_some _ _).symm.trans H; rw [hy206]; with_reducible exact H2_) | (have H2_ := (Option.bind_some _ _).symm.trans H; with_reducible exact H2_) | with_reducible exact H | (rw [hy206]; exact H) | exact H
  have Ny206 := Aside0.mk hy206
  clear hy206
  obtain rfl := Option.some.inj H
  go_enter Try.func43, Try.ntmps43
  go_wp2_with (first | ((with_reducible refine gate_dst (N := 4) rfl ?_); refine Kd.R_lit k30 _ 30 ?hg (N := 4) ?hd (xs := ([(⟨0, 1, 5⟩ : S30), (⟨0, 2, 1⟩ : S30), (⟨2, 1, 2⟩ : S30)] : List (S30))) (inner := [.int .i64 0, .int .i64 1, .int .i64 5, .int .i64 0, .int .i64 2, .int .i64 1, .int .i64 2, .int .i64 1, .int .i64 2]) (ok := fun _ => True) (okp := fun _ => True) ?hr ?hp (fun _ hk => hk) trivial (Below.refl _ _) (Nat.le_refl _) (by simp) ?_; (case hd => rfl); (case hg => rfl); (case hr => first | (go_simp; done) | (go_simp; rfl)); (case hp => exact (Reps.c3 (show Kd.M k30 _ _ _ (⟨0, 1, 5⟩ : S30) [.int .i64 0, .int .i64 1, .int .i64 5] from (k30_mkM _ _ _ (⟨0, 1, 5⟩ : S30) )) (Reps.c3 (show Kd.M k30 _ _ _ (⟨0, 2, 1⟩ : S30) [.int .i64 0, .int .i64 2, .int .i64 1] from (k30_mkM _ _ _ (⟨0, 2, 1⟩ : S30) )) (Reps.c3 (show Kd.M k30 _ _ _ (⟨2, 1, 2⟩ : S30) [.int .i64 2, .int .i64 1, .int .i64 2] from (k30_mkM _ _ _ (⟨2, 1, 2⟩ : S30) )) (Reps.none _ _))))); intro v207 w1 ho2 hb hg_ hnew_; clear hg_ hnew_; (first | rw [← Ny206.out] at ho2 | (simp only [Int.reduceToNat] at ho2; rw [← Ny206.out] at ho2)); have n0_ := Aside0.mk (Kd.R_lower ho2 (below_size (by repeat (first | (with_reducible first | exact HB.out | apply below_alloc | apply pw_below_drewN | apply below_drew1) | exact HB.out)))); have n1_ := Aside0.mk (below_step (by repeat (first | (with_reducible first | exact HB.out | apply below_alloc | apply pw_below_drewN | apply below_drew1) | exact HB.out)) hb); clear HB; have HO208 := n0_; have HB := n1_; clear n0_ n1_; clear hb ho2))
  go_ret
  exact ⟨_, by first | rfl | (simp [errW_none, errW_some] <;> rfl) | (simp [*, errW_none, errW_some] <;> rfl), by (with_reducible repeat (first | apply Kd.R_alloc | apply Kd.R_drewN | apply Kd.R_drew)); exact HO208.out, by repeat (first | (with_reducible first | exact HB.out | apply below_alloc | apply pw_below_drewN | apply below_drew1) | exact HB.out)⟩
def branch_town_costs.l0 : Nat → List Int → List (S30) → Int → Int → Option (List Int)
  | 0, _, _, _, _ => none
  | k + 1, x3, x9, x10, x11 => if x11 < x10 then (if 0 ≤ x11 then (if x11 < (x9.length : Int) then (if x3.length < 17592186044416 then (branch_town_costs.l0 k (x3 ++ [(rd_T30 x9 x11).f2]) x9 x10 (wrap64 (x11 + 1))) else (none)) else (none)) else (none)) else (some x3)
def branch_town_costs.f (k : Nat) (a0_0 : Int) (l0_1 : List (S30)) : Option (List Int) := branch_town_costs.l0 k ([] : List Int) l0_1 (l0_1.length : Int) 0
theorem branch_town_costs.mono_l : ∀ k, (∀ y0 y1 y2 y3, LeO (branch_town_costs.l0 k y0 y1 y2 y3) (branch_town_costs.l0 (k + 1) y0 y1 y2 y3))
  | 0 => fun _ _ _ _ r h => by simp [branch_town_costs.l0] at h
  | k + 1 => by
    have ih0 := branch_town_costs.mono_l k
    · intro y0 y1 y2 y3
      unfold branch_town_costs.l0
      repeat' first
      | (with_reducible exact ih0 _ _ _ _)
      | (with_reducible exact LeO.refl _)
      | (with_reducible exact LeO.none _)
      | (with_reducible refine LeO.ite ?_ ?_)
      | (with_reducible refine LeO.bind ?_ (fun _ => ?_))
      | exact ih0 _ _ _ _
      | exact LeO.none _
      | refine LeO.ite ?_ ?_
      | refine LeO.bind ?_ (fun _ => ?_)
theorem branch_town_costs.mono : ∀ a0 a1 k, LeO (branch_town_costs.f k a0 a1) (branch_town_costs.f (k + 1) a0 a1) := by
  intro a0 a1 k
  have ih0 := branch_town_costs.mono_l k
  unfold branch_town_costs.f
  repeat' first
      | (with_reducible exact ih0 _ _ _ _)
      | (with_reducible exact LeO.refl _)
      | (with_reducible exact LeO.none _)
      | (with_reducible refine LeO.ite ?_ ?_)
      | (with_reducible refine LeO.bind ?_ (fun _ => ?_))
      | exact ih0 _ _ _ _
      | exact LeO.none _
      | refine LeO.ite ?_ ?_
      | refine LeO.bind ?_ (fun _ => ?_)
set_option maxHeartbeats 8000000 in
set_option maxRecDepth 100000 in
theorem branch_town_costs.calls (k : Nat) (g0 : Nat) (a0_0 : Int) (A0_1 : Option Addr) (c0_1 : Nat) (l0_1 : List (S30)) (a0_2 : Option Nat) (r : List Int) (w : World) (hP0 : w.heap[g0]? = some (.cells #[.int .i64 a0_0, .slice A0_1 l0_1.length c0_1, .map a0_2] 70 (0, 0))) (hr0_1 : Kd.C k30 w A0_1 l0_1.length l0_1) (hc0_1 : l0_1.length ≤ c0_1) (h : branch_town_costs.f k a0_0 l0_1 = some r) :
    Calls Try.prog 47 #[.pointer (some ⟨g0, 0, none⟩)] w fun e w' => ∃ v0_ : Value, e = .returned (v0_) ∧ Kd.R (Kd.int .i64) 3 w' w.heap.size (fun _ => True) v0_ r ∧ Below w.heap.size w w' := by
  have hu30 := Try.underlying30
  have HP0 := Aside0.mk hP0
  clear hP0
  have HR0_1 := Aside0.mk hr0_1
  have HC0_1 := Aside0.mk hc0_1
  clear hr0_1 hc0_1
  have HB := Aside0.mk (Below.refl w.heap.size w)
  have H : (branch_town_costs.l0 k ([] : List Int) l0_1 (l0_1.length : Int) 0) = some r := h
  clear h
  have H' := Aside0.mk H
  clear H
  have hx209_0 := blk_cell HP0.out 0
  replace hx209_0 := hx209_0.trans rfl
  have hx209_1 := blk_cell HP0.out 1
  replace hx209_1 := hx209_1.trans rfl
  have hx209_2 := blk_cell HP0.out 2
  replace hx209_2 := hx209_2.trans rfl
  go_enter Try.func47, Try.ntmps47
  go_wp2
  go_loopg [3, 11] k (fun kq v3 v11 w' => ∃ (x3_1 : List Int) (x11_1 : Int), v11 = .int .i64 x11_1 ∧ Aside0 (branch_town_costs.l0 kq x3_1 l0_1 (l0_1.length : Int) x11_1 = some r) ∧ Aside0 (kq ≤ k) ∧ Aside0 (Kd.R (Kd.int .i64) 3 w' w.heap.size (fun _ => True) v3 x3_1) ∧ Aside0 (Below w.heap.size w w'))
  case atStart => exact ⟨(([] : List Int)), (0), (by first | rfl | (simp; done) | (simp [*]; done)), H', ⟨Nat.le_refl _⟩, ⟨by first | exact Kd.R_nil _ _ _ _ _ | exact Kd.N_nil _ _ _ _ _ | exact Kd.V_nil _ _ _ _ _ | exact Kd.Q_nil _ _ _ _ _ | exact Kd.S_nil _ _ _ _ _⟩, ⟨by repeat (first | (with_reducible first | exact HB.out | apply below_alloc | apply pw_below_drewN | apply below_drew1) | exact HB.out)⟩⟩
  case round =>
    clear H'
    try clear hx209_0
    try clear hx209_1
    try clear hx209_2
    obtain ⟨x3_1, x11_1, rfl, HA, HK1, HO_3, HB⟩ := hrel
    cases gk with
    | zero => exact absurd HA.out (by simp [branch_town_costs.l0])
    | succ k1 =>
      have H := HA.out
      clear HA
      simp only [branch_town_costs.l0] at H
      by_cases c2 : x11_1 < (l0_1.length : Int)
      · rw [if_pos c2] at H
        have c2b0 : decide (x11_1 < (l0_1.length : Int)) = true := decide_eq_true c2
        clear c2
        by_cases c3 : 0 ≤ x11_1
        · rw [if_pos c3] at H
          have c3b0 : decide (0 ≤ x11_1) = true := decide_eq_true c3
          clear c3
          by_cases c4 : x11_1 < (l0_1.length : Int)
          · rw [if_pos c4] at H
            have c4b0 : decide (x11_1 < (l0_1.length : Int)) = true := decide_eq_true c4
            clear c4
            by_cases c5 : x3_1.length < 17592186044416
            · rw [if_pos c5] at H
              have LMc5 := Aside0.mk c5
              clear c5
              obtain ⟨y212, hy212⟩ : ∃ y_ : List Int, y_ = (x3_1 ++ [(rd_T30 l0_1 x11_1).f2]) := ⟨_, rfl⟩
              replace H : (branch_town_costs.l0 k1 y212 l0_1 (l0_1.length : Int) (wrap64 (x11_1 + 1))) = some r := by first | (rw [hy212]; with_reducible exact H) | (have H2_ := (Option.bind_some _ _).symm.trans H; rw [hy212]; with_reducible exact H2_) | (have H2_ := (Option.bind_some _ _).symm.trans H; with_reducible exact H2_) | with_reducible exact H | (rw [hy212]; exact H) | exact H
              have Ny212 := Aside0.mk hy212
              clear hy212
              have H' := Aside0.mk H
              clear H
              have p210 : 0 ≤ (x11_1 : Int) := of_decide_eq_true (by first | (with_reducible assumption) | assumption)
              have q210 : x11_1 < (l0_1.length : Int) := of_decide_eq_true (by first | (with_reducible assumption) | assumption)
              obtain ⟨ad210, e210, hx210_0, hx210_1, hx210_2⟩ := at_T30 HR0_1.out x11_1 p210 q210
              cases e210
              replace hx210_0 := (HB.out.cell (World.block_lt_of_cell? w _ hx210_0)).trans hx210_0
              replace hx210_1 := (HB.out.cell (World.block_lt_of_cell? w _ hx210_1)).trans hx210_1
              replace hx210_2 := (HB.out.cell (World.block_lt_of_cell? w _ hx210_2)).trans hx210_2
              replace p210 := eq_true p210
              replace q210 := eq_true q210
              go_wp2_with (first | ((with_reducible refine gate_dst (N := 5) rfl ?_); refine box_event ?hg (N := 5) ?hd (cs := #[.int .i64 0, .int .i64 0, .int .i64 0]) (t := 30) ?hr ?_; (case hd => rfl); (case hg => rfl); (case hr => first | (go_simp; done) | (go_simp; rfl)); intro gb211 hg w6 hbox hb; have n0_ := Aside0.mk (Kd.R_below (by (with_reducible repeat (first | apply Kd.R_alloc | apply Kd.R_drewN | apply Kd.R_drew)); exact HO_3.out) hb); have n1_ := Aside0.mk (below_step (by repeat (first | (with_reducible first | exact HB.out | apply below_alloc | apply pw_below_drewN | apply below_drew1) | exact HB.out)) hb); have n2_ := Aside0.mk (hbox); have n3_ := Aside0.mk ((by rw [hg]; exact (below_size (by repeat (first | (with_reducible first | exact HB.out | apply below_alloc | apply pw_below_drewN | apply below_drew1) | exact HB.out))) : w.heap.size ≤ gb211)); have n4_ := Aside0.mk ((by rw [hg]; exact (below_size (by repeat (first | (with_reducible first | exact HB.out | apply below_alloc | apply pw_below_drewN | apply below_drew1) | exact HB.out))) : w.heap.size ≤ gb211)); clear HO_3; clear HB; have HO_3 := n0_; have HB := n1_; have BK211 := n2_; have GW211 := n3_; have GE211 := n4_; clear n0_ n1_ n2_ n3_ n4_; clear hb hbox hg; have hcz7_0 : w6.cell? ⟨gb211, 0, none⟩ = some (.int .i64 0) := (blk_cell BK211.out 0).trans rfl; have hcz7_1 : w6.cell? ⟨gb211, 1, none⟩ = some (.int .i64 0) := (blk_cell BK211.out 1).trans rfl; have hcz7_2 : w6.cell? ⟨gb211, 2, none⟩ = some (.int .i64 0) := (blk_cell BK211.out 2).trans rfl; have hfz7_0 := blk_frozen BK211.out 0; have hfz7_1 := blk_frozen BK211.out 1; have hfz7_2 := blk_frozen BK211.out 2) | ((with_reducible refine gate_builtin (b := .append) (xs := #[.tmp 15, .tmp 18]) rfl ?_); at_builtin; refine Kd.R_append (Kd.int .i64) (w0 := w) w.heap.size rfl (.tmp 15) (.tmp 18) 28 3 (.int .i64 0) 8 rfl Try.underlying28 info3 rfl (by decide) (by omega) u3 x3_1 ((rd_T30 l0_1 x11_1).f2) [.int .i64 ((rd_T30 l0_1 x11_1).f2)] (fun _ => True) (fun _ => False) rfl (by first | (go_simp; done) | (go_simp; rfl)) ?aP (fun _ hk => hk.elim) ?aF ?aO ?aB ?aS ?aL ?_; (case aP => exact rfl); (case aB => exact (by repeat (first | (with_reducible first | exact HB.out | apply below_alloc | apply pw_below_drewN | apply below_drew1 | refine below_set ?_ GE211.out) | exact HB.out))); (case aF => exact (fun _ _ => trivial)); (case aO => exact (by (with_reducible repeat (first | apply Kd.R_alloc | apply Kd.R_drewN | apply Kd.R_drew)); exact Kd.R_mono (Kd.R_far (p := ⟨gb211, 2, none⟩) (Kd.R_far (p := ⟨gb211, 1, none⟩) (Kd.R_far (p := ⟨gb211, 0, none⟩) (Kd.R_types HO_3.out BK211.out (by decide)) (fun _ hk => hk.2) (.int .i64 ((rd_T30 l0_1 x11_1).f0))) (fun _ hk => hk.2) (.int .i64 ((rd_T30 l0_1 x11_1).f1))) (fun _ hk => hk.2) (.int .i64 ((rd_T30 l0_1 x11_1).f2))) (fun _ hk => trivial))); (case aS => exact (below_size (by repeat (first | (with_reducible first | exact HB.out | apply below_alloc | apply pw_below_drewN | apply below_drew1 | refine below_set ?_ GE211.out) | exact HB.out)))); (case aL => have := LMc5.out; omega); intro v213 w8 ho hb hg hat; rw [← Ny212.out] at ho; have n0_ := Aside0.mk (blk_grown (g := gb211) (o := .cells #[.int .i64 ((rd_T30 l0_1 x11_1).f0), .int .i64 ((rd_T30 l0_1 x11_1).f1), .int .i64 ((rd_T30 l0_1 x11_1).f2)] 30 (0, 0)) (by (with_reducible repeat (first | refine blk_drewN ?_ _ | refine blk_drew ?_ | refine blk_alloc ?_ _)); refine blk_put (cs := #[.int .i64 ((rd_T30 l0_1 x11_1).f0), .int .i64 ((rd_T30 l0_1 x11_1).f1), .int .i64 0]) ?_ 2 _ rfl; (with_reducible repeat (first | refine blk_drewN ?_ _ | refine blk_drew ?_ | refine blk_alloc ?_ _)); refine blk_put (cs := #[.int .i64 ((rd_T30 l0_1 x11_1).f0), .int .i64 0, .int .i64 0]) ?_ 1 _ rfl; (with_reducible repeat (first | refine blk_drewN ?_ _ | refine blk_drew ?_ | refine blk_alloc ?_ _)); refine blk_put (cs := #[.int .i64 0, .int .i64 0, .int .i64 0]) ?_ 0 _ rfl; (with_reducible repeat (first | refine blk_drewN ?_ _ | refine blk_drew ?_ | refine blk_alloc ?_ _)); exact BK211.out) hg (Kd.R_ne HO_3.out BK211.out (by decide))); have n1_ := Aside0.mk (hb); have n2_ := Aside0.mk (ho); clear BK211; clear HB; clear HO_3; have BK211 := n0_; have HB := n1_; have HO214 := n2_; clear n0_ n1_ n2_; clear ho hb hg hat))
              go_roundg k1
              case measure => have := HK1.out; omega
              case rel => exact ⟨(y212), (wrap64 (x11_1 + 1)), (by first | rfl | (simp; done) | (simp [*]; done)), H', ⟨by have := HK1.out; omega⟩, ⟨by (with_reducible repeat (first | apply Kd.R_alloc | apply Kd.R_drewN | apply Kd.R_drew)); exact HO214.out⟩, ⟨by repeat (first | (with_reducible first | exact HB.out | apply below_alloc | apply pw_below_drewN | apply below_drew1 | refine below_set ?_ GE211.out) | exact HB.out)⟩⟩
            · rw [if_neg c5] at H
              exact absurd H (by simp)
          · rw [if_neg c4] at H
            exact absurd H (by simp)
        · rw [if_neg c3] at H
          exact absurd H (by simp)
      · rw [if_neg c2] at H
        have c2b0 : decide (x11_1 < (l0_1.length : Int)) = false := decide_eq_false c2
        clear c2
        obtain rfl := Option.some.inj H
        go_wp2
        go_ret
        exact ⟨_, by first | rfl | (simp [errW_none, errW_some] <;> rfl) | (simp [*, errW_none, errW_some] <;> rfl), by (with_reducible repeat (first | apply Kd.R_alloc | apply Kd.R_drewN | apply Kd.R_drew)); exact HO_3.out, by repeat (first | (with_reducible first | exact HB.out | apply below_alloc | apply pw_below_drewN | apply below_drew1) | exact HB.out)⟩
def branch_town_entering.l0 : Nat → Int → List Int → List (S30) → Int → Int → Option (List Int)
  | 0, _, _, _, _, _ => none
  | k + 1, x1, x5, x11, x12, x13 => if x13 < x12 then (if 0 ≤ x13 then (if x13 < (x11.length : Int) then (if 0 ≤ ((rd_T30 x11 x13).f0) then (if (Go.bits .and .i64 (shr .i64 x1 ((rd_T30 x11 x13).f0)) 1) = 0 then (if 0 ≤ ((rd_T30 x11 x13).f1) then (if (Go.bits .and .i64 (shr .i64 x1 ((rd_T30 x11 x13).f1)) 1) = 1 then (if x5.length < 17592186044416 then (branch_town_entering.l0 k x1 (x5 ++ [x13]) x11 x12 (wrap64 (x13 + 1))) else (none)) else (branch_town_entering.l0 k x1 x5 x11 x12 (wrap64 (x13 + 1)))) else (none)) else (branch_town_entering.l0 k x1 x5 x11 x12 (wrap64 (x13 + 1)))) else (none)) else (none)) else (none)) else (some x5)
def branch_town_entering.f (k : Nat) (a0_0 : Int) (l0_1 : List (S30)) (a1 : Int) : Option (List Int) := branch_town_entering.l0 k a1 ([] : List Int) l0_1 (l0_1.length : Int) 0
theorem branch_town_entering.mono_l : ∀ k, (∀ y0 y1 y2 y3 y4, LeO (branch_town_entering.l0 k y0 y1 y2 y3 y4) (branch_town_entering.l0 (k + 1) y0 y1 y2 y3 y4))
  | 0 => fun _ _ _ _ _ r h => by simp [branch_town_entering.l0] at h
  | k + 1 => by
    have ih0 := branch_town_entering.mono_l k
    · intro y0 y1 y2 y3 y4
      unfold branch_town_entering.l0
      repeat' first
      | (with_reducible exact ih0 _ _ _ _ _)
      | (with_reducible exact LeO.refl _)
      | (with_reducible exact LeO.none _)
      | (with_reducible refine LeO.ite ?_ ?_)
      | (with_reducible refine LeO.bind ?_ (fun _ => ?_))
      | exact ih0 _ _ _ _ _
      | exact LeO.none _
      | refine LeO.ite ?_ ?_
      | refine LeO.bind ?_ (fun _ => ?_)
theorem branch_town_entering.mono : ∀ a0 a1 a2 k, LeO (branch_town_entering.f k a0 a1 a2) (branch_town_entering.f (k + 1) a0 a1 a2) := by
  intro a0 a1 a2 k
  have ih0 := branch_town_entering.mono_l k
  unfold branch_town_entering.f
  repeat' first
      | (with_reducible exact ih0 _ _ _ _ _)
      | (with_reducible exact LeO.refl _)
      | (with_reducible exact LeO.none _)
      | (with_reducible refine LeO.ite ?_ ?_)
      | (with_reducible refine LeO.bind ?_ (fun _ => ?_))
      | exact ih0 _ _ _ _ _
      | exact LeO.none _
      | refine LeO.ite ?_ ?_
      | refine LeO.bind ?_ (fun _ => ?_)
set_option maxHeartbeats 8000000 in
set_option maxRecDepth 100000 in
theorem branch_town_entering.calls (k : Nat) (g0 : Nat) (a0_0 : Int) (A0_1 : Option Addr) (c0_1 : Nat) (l0_1 : List (S30)) (a0_2 : Option Nat) (a1 : Int) (r : List Int) (w : World) (hP0 : w.heap[g0]? = some (.cells #[.int .i64 a0_0, .slice A0_1 l0_1.length c0_1, .map a0_2] 70 (0, 0))) (hr0_1 : Kd.C k30 w A0_1 l0_1.length l0_1) (hc0_1 : l0_1.length ≤ c0_1) (h : branch_town_entering.f k a0_0 l0_1 a1 = some r) :
    Calls Try.prog 59 #[.pointer (some ⟨g0, 0, none⟩), .int .i64 a1] w fun e w' => ∃ v0_ : Value, e = .returned (v0_) ∧ Kd.R (Kd.int .i64) 3 w' w.heap.size (fun _ => True) v0_ r ∧ Below w.heap.size w w' := by
  have hu30 := Try.underlying30
  have HP0 := Aside0.mk hP0
  clear hP0
  have HR0_1 := Aside0.mk hr0_1
  have HC0_1 := Aside0.mk hc0_1
  clear hr0_1 hc0_1
  have HB := Aside0.mk (Below.refl w.heap.size w)
  have H : (branch_town_entering.l0 k a1 ([] : List Int) l0_1 (l0_1.length : Int) 0) = some r := h
  clear h
  have H' := Aside0.mk H
  clear H
  have hx215_0 := blk_cell HP0.out 0
  replace hx215_0 := hx215_0.trans rfl
  have hx215_1 := blk_cell HP0.out 1
  replace hx215_1 := hx215_1.trans rfl
  have hx215_2 := blk_cell HP0.out 2
  replace hx215_2 := hx215_2.trans rfl
  go_enter Try.func59, Try.ntmps59
  go_wp2
  go_loopg [5, 13] k (fun kq v5 v13 w' => ∃ (x5_1 : List Int) (x13_1 : Int), v13 = .int .i64 x13_1 ∧ Aside0 (branch_town_entering.l0 kq a1 x5_1 l0_1 (l0_1.length : Int) x13_1 = some r) ∧ Aside0 (kq ≤ k) ∧ Aside0 (Kd.R (Kd.int .i64) 3 w' w.heap.size (fun _ => True) v5 x5_1) ∧ Aside0 (Below w.heap.size w w'))
  case atStart => exact ⟨(([] : List Int)), (0), (by first | rfl | (simp; done) | (simp [*]; done)), H', ⟨Nat.le_refl _⟩, ⟨by first | exact Kd.R_nil _ _ _ _ _ | exact Kd.N_nil _ _ _ _ _ | exact Kd.V_nil _ _ _ _ _ | exact Kd.Q_nil _ _ _ _ _ | exact Kd.S_nil _ _ _ _ _⟩, ⟨by repeat (first | (with_reducible first | exact HB.out | apply below_alloc | apply pw_below_drewN | apply below_drew1) | exact HB.out)⟩⟩
  case round =>
    clear H'
    try clear p2
    try clear hx2
    try clear hx215_0
    try clear hx215_1
    try clear hx215_2
    obtain ⟨x5_1, x13_1, rfl, HA, HK1, HO_5, HB⟩ := hrel
    cases gk with
    | zero => exact absurd HA.out (by simp [branch_town_entering.l0])
    | succ k1 =>
      have H := HA.out
      clear HA
      simp only [branch_town_entering.l0] at H
      by_cases c3 : x13_1 < (l0_1.length : Int)
      · rw [if_pos c3] at H
        have c3b0 : decide (x13_1 < (l0_1.length : Int)) = true := decide_eq_true c3
        clear c3
        by_cases c4 : 0 ≤ x13_1
        · rw [if_pos c4] at H
          have c4b0 : decide (0 ≤ x13_1) = true := decide_eq_true c4
          clear c4
          by_cases c5 : x13_1 < (l0_1.length : Int)
          · rw [if_pos c5] at H
            have c5b0 : decide (x13_1 < (l0_1.length : Int)) = true := decide_eq_true c5
            clear c5
            by_cases c6 : 0 ≤ ((rd_T30 l0_1 x13_1).f0)
            · rw [if_pos c6] at H
              have c6b0 := eq_true c6
              have c6b1 : decide (0 ≤ ((rd_T30 l0_1 x13_1).f0)) = true := decide_eq_true c6
              clear c6
              obtain ⟨ji7, hji7⟩ : ∃ j_ : Int, (shr .i64 a1 ((rd_T30 l0_1 x13_1).f0)) = j_ := ⟨_, rfl⟩
              replace H : (if (Go.bits .and .i64 (ji7) 1) = 0 then (if 0 ≤ ((rd_T30 l0_1 x13_1).f1) then (if (Go.bits .and .i64 (shr .i64 a1 ((rd_T30 l0_1 x13_1).f1)) 1) = 1 then (if x5_1.length < 17592186044416 then (branch_town_entering.l0 k1 a1 (x5_1 ++ [x13_1]) l0_1 (l0_1.length : Int) (wrap64 (x13_1 + 1))) else (none)) else (branch_town_entering.l0 k1 a1 x5_1 l0_1 (l0_1.length : Int) (wrap64 (x13_1 + 1)))) else (none)) else (branch_town_entering.l0 k1 a1 x5_1 l0_1 (l0_1.length : Int) (wrap64 (x13_1 + 1)))) = some r := by first | (rw [hji7] at H; exact H) | (simp only [hji7] at H ⊢; exact H)
              have hji7_ : (a1 / 2 ^ min ((rd_T30 l0_1 x13_1).f0).toNat 64) = ji7 := hji7
              have hji7z : ((rd_T30 l0_1 x13_1).f0) ≤ 64 → (a1 / 2 ^ ((rd_T30 l0_1 x13_1).f0).toNat) = ji7 := shr_small hji7
              by_cases c8 : (Go.bits .and .i64 (ji7) 1) = 0
              · rw [if_pos c8] at H
                have c8b0 : ((Go.bits .and .i64 (ji7) 1) == 0) = true := beq_iff_eq.mpr c8
                have c8b1 : ((Go.bits .and .i64 (ji7) 1) != 0) = false := bne_eq_false_iff_eq.mpr c8
                clear c8
                by_cases c9 : 0 ≤ ((rd_T30 l0_1 x13_1).f1)
                · rw [if_pos c9] at H
                  have c9b0 := eq_true c9
                  have c9b1 : decide (0 ≤ ((rd_T30 l0_1 x13_1).f1)) = true := decide_eq_true c9
                  clear c9
                  obtain ⟨ji10, hji10⟩ : ∃ j_ : Int, (shr .i64 a1 ((rd_T30 l0_1 x13_1).f1)) = j_ := ⟨_, rfl⟩
                  replace H : (if (Go.bits .and .i64 (ji10) 1) = 1 then (if x5_1.length < 17592186044416 then (branch_town_entering.l0 k1 a1 (x5_1 ++ [x13_1]) l0_1 (l0_1.length : Int) (wrap64 (x13_1 + 1))) else (none)) else (branch_town_entering.l0 k1 a1 x5_1 l0_1 (l0_1.length : Int) (wrap64 (x13_1 + 1)))) = some r := by first | (rw [hji10] at H; exact H) | (simp only [hji10] at H ⊢; exact H)
                  have hji10_ : (a1 / 2 ^ min ((rd_T30 l0_1 x13_1).f1).toNat 64) = ji10 := hji10
                  have hji10z : ((rd_T30 l0_1 x13_1).f1) ≤ 64 → (a1 / 2 ^ ((rd_T30 l0_1 x13_1).f1).toNat) = ji10 := shr_small hji10
                  by_cases c11 : (Go.bits .and .i64 (ji10) 1) = 1
                  · rw [if_pos c11] at H
                    have c11b0 : ((Go.bits .and .i64 (ji10) 1) == 1) = true := beq_iff_eq.mpr c11
                    have c11b1 : ((Go.bits .and .i64 (ji10) 1) != 1) = false := bne_eq_false_iff_eq.mpr c11
                    clear c11
                    by_cases c12 : x5_1.length < 17592186044416
                    · rw [if_pos c12] at H
                      have LMc12 := Aside0.mk c12
                      clear c12
                      obtain ⟨y218, hy218⟩ : ∃ y_ : List Int, y_ = (x5_1 ++ [x13_1]) := ⟨_, rfl⟩
                      replace H : (branch_town_entering.l0 k1 a1 y218 l0_1 (l0_1.length : Int) (wrap64 (x13_1 + 1))) = some r := by first | (rw [hy218]; with_reducible exact H) | (have H2_ := (Option.bind_some _ _).symm.trans H; rw [hy218]; with_reducible exact H2_) | (have H2_ := (Option.bind_some _ _).symm.trans H; with_reducible exact H2_) | with_reducible exact H | (rw [hy218]; exact H) | exact H
                      have Ny218 := Aside0.mk hy218
                      clear hy218
                      have H' := Aside0.mk H
                      clear H
                      have p216 : 0 ≤ (x13_1 : Int) := of_decide_eq_true (by first | (with_reducible assumption) | assumption)
                      have q216 : x13_1 < (l0_1.length : Int) := of_decide_eq_true (by first | (with_reducible assumption) | assumption)
                      obtain ⟨ad216, e216, hx216_0, hx216_1, hx216_2⟩ := at_T30 HR0_1.out x13_1 p216 q216
                      cases e216
                      replace hx216_0 := (HB.out.cell (World.block_lt_of_cell? w _ hx216_0)).trans hx216_0
                      replace hx216_1 := (HB.out.cell (World.block_lt_of_cell? w _ hx216_1)).trans hx216_1
                      replace hx216_2 := (HB.out.cell (World.block_lt_of_cell? w _ hx216_2)).trans hx216_2
                      replace p216 := eq_true p216
                      replace q216 := eq_true q216
                      go_wp2_with (first | ((with_reducible refine gate_dst (N := 7) rfl ?_); refine box_event ?hg (N := 7) ?hd (cs := #[.int .i64 0, .int .i64 0, .int .i64 0]) (t := 30) ?hr ?_; (case hd => rfl); (case hg => rfl); (case hr => first | (go_simp; done) | (go_simp; rfl)); intro gb217 hg w13 hbox hb; have n0_ := Aside0.mk (Kd.R_below (by (with_reducible repeat (first | apply Kd.R_alloc | apply Kd.R_drewN | apply Kd.R_drew)); exact HO_5.out) hb); have n1_ := Aside0.mk (below_step (by repeat (first | (with_reducible first | exact HB.out | apply below_alloc | apply pw_below_drewN | apply below_drew1) | exact HB.out)) hb); have n2_ := Aside0.mk (hbox); have n3_ := Aside0.mk ((by rw [hg]; exact (below_size (by repeat (first | (with_reducible first | exact HB.out | apply below_alloc | apply pw_below_drewN | apply below_drew1) | exact HB.out))) : w.heap.size ≤ gb217)); have n4_ := Aside0.mk ((by rw [hg]; exact (below_size (by repeat (first | (with_reducible first | exact HB.out | apply below_alloc | apply pw_below_drewN | apply below_drew1) | exact HB.out))) : w.heap.size ≤ gb217)); clear HO_5; clear HB; have HO_5 := n0_; have HB := n1_; have BK217 := n2_; have GW217 := n3_; have GE217 := n4_; clear n0_ n1_ n2_ n3_ n4_; clear hb hbox hg; have hcz14_0 : w13.cell? ⟨gb217, 0, none⟩ = some (.int .i64 0) := (blk_cell BK217.out 0).trans rfl; have hcz14_1 : w13.cell? ⟨gb217, 1, none⟩ = some (.int .i64 0) := (blk_cell BK217.out 1).trans rfl; have hcz14_2 : w13.cell? ⟨gb217, 2, none⟩ = some (.int .i64 0) := (blk_cell BK217.out 2).trans rfl; have hfz14_0 := blk_frozen BK217.out 0; have hfz14_1 := blk_frozen BK217.out 1; have hfz14_2 := blk_frozen BK217.out 2) | ((with_reducible refine gate_builtin (b := .append) (xs := #[.tmp 32, .tmp 34]) rfl ?_); at_builtin; refine Kd.R_append (Kd.int .i64) (w0 := w) w.heap.size rfl (.tmp 32) (.tmp 34) 28 3 (.int .i64 0) 8 rfl Try.underlying28 info3 rfl (by decide) (by omega) u5 x5_1 x13_1 [.int .i64 x13_1] (fun _ => True) (fun _ => False) rfl (by first | (go_simp; done) | (go_simp; rfl)) ?aP (fun _ hk => hk.elim) ?aF ?aO ?aB ?aS ?aL ?_; (case aP => exact rfl); (case aB => exact (by repeat (first | (with_reducible first | exact HB.out | apply below_alloc | apply pw_below_drewN | apply below_drew1 | refine below_set ?_ GE217.out) | exact HB.out))); (case aF => exact (fun _ _ => trivial)); (case aO => exact (by (with_reducible repeat (first | apply Kd.R_alloc | apply Kd.R_drewN | apply Kd.R_drew)); exact Kd.R_mono (Kd.R_far (p := ⟨gb217, 2, none⟩) (Kd.R_far (p := ⟨gb217, 1, none⟩) (Kd.R_far (p := ⟨gb217, 0, none⟩) (Kd.R_types HO_5.out BK217.out (by decide)) (fun _ hk => hk.2) (.int .i64 ((rd_T30 l0_1 x13_1).f0))) (fun _ hk => hk.2) (.int .i64 ((rd_T30 l0_1 x13_1).f1))) (fun _ hk => hk.2) (.int .i64 ((rd_T30 l0_1 x13_1).f2))) (fun _ hk => trivial))); (case aS => exact (below_size (by repeat (first | (with_reducible first | exact HB.out | apply below_alloc | apply pw_below_drewN | apply below_drew1 | refine below_set ?_ GE217.out) | exact HB.out)))); (case aL => have := LMc12.out; omega); intro v219 w15 ho hb hg hat; rw [← Ny218.out] at ho; have n0_ := Aside0.mk (blk_grown (g := gb217) (o := .cells #[.int .i64 ((rd_T30 l0_1 x13_1).f0), .int .i64 ((rd_T30 l0_1 x13_1).f1), .int .i64 ((rd_T30 l0_1 x13_1).f2)] 30 (0, 0)) (by (with_reducible repeat (first | refine blk_drewN ?_ _ | refine blk_drew ?_ | refine blk_alloc ?_ _)); refine blk_put (cs := #[.int .i64 ((rd_T30 l0_1 x13_1).f0), .int .i64 ((rd_T30 l0_1 x13_1).f1), .int .i64 0]) ?_ 2 _ rfl; (with_reducible repeat (first | refine blk_drewN ?_ _ | refine blk_drew ?_ | refine blk_alloc ?_ _)); refine blk_put (cs := #[.int .i64 ((rd_T30 l0_1 x13_1).f0), .int .i64 0, .int .i64 0]) ?_ 1 _ rfl; (with_reducible repeat (first | refine blk_drewN ?_ _ | refine blk_drew ?_ | refine blk_alloc ?_ _)); refine blk_put (cs := #[.int .i64 0, .int .i64 0, .int .i64 0]) ?_ 0 _ rfl; (with_reducible repeat (first | refine blk_drewN ?_ _ | refine blk_drew ?_ | refine blk_alloc ?_ _)); exact BK217.out) hg (Kd.R_ne HO_5.out BK217.out (by decide))); have n1_ := Aside0.mk (hb); have n2_ := Aside0.mk (ho); clear BK217; clear HB; clear HO_5; have BK217 := n0_; have HB := n1_; have HO220 := n2_; clear n0_ n1_ n2_; clear ho hb hg hat))
                      go_roundg k1
                      case measure => have := HK1.out; omega
                      case rel => exact ⟨(y218), (wrap64 (x13_1 + 1)), (by first | rfl | (simp; done) | (simp [*]; done)), H', ⟨by have := HK1.out; omega⟩, ⟨by (with_reducible repeat (first | apply Kd.R_alloc | apply Kd.R_drewN | apply Kd.R_drew)); exact HO220.out⟩, ⟨by repeat (first | (with_reducible first | exact HB.out | apply below_alloc | apply pw_below_drewN | apply below_drew1 | refine below_set ?_ GE217.out) | exact HB.out)⟩⟩
                    · rw [if_neg c12] at H
                      exact absurd H (by simp)
                  · rw [if_neg c11] at H
                    have c11b0 : ((Go.bits .and .i64 (ji10) 1) == 1) = false := beq_eq_false_iff_ne.mpr c11
                    have c11b1 : ((Go.bits .and .i64 (ji10) 1) != 1) = true := bne_iff_ne.mpr c11
                    have H' := Aside0.mk H
                    clear H
                    have p216 : 0 ≤ (x13_1 : Int) := of_decide_eq_true (by first | (with_reducible assumption) | assumption)
                    have q216 : x13_1 < (l0_1.length : Int) := of_decide_eq_true (by first | (with_reducible assumption) | assumption)
                    obtain ⟨ad216, e216, hx216_0, hx216_1, hx216_2⟩ := at_T30 HR0_1.out x13_1 p216 q216
                    cases e216
                    replace hx216_0 := (HB.out.cell (World.block_lt_of_cell? w _ hx216_0)).trans hx216_0
                    replace hx216_1 := (HB.out.cell (World.block_lt_of_cell? w _ hx216_1)).trans hx216_1
                    replace hx216_2 := (HB.out.cell (World.block_lt_of_cell? w _ hx216_2)).trans hx216_2
                    replace p216 := eq_true p216
                    replace q216 := eq_true q216
                    go_wp2_with (first | ((with_reducible refine gate_dst (N := 7) rfl ?_); refine box_event ?hg (N := 7) ?hd (cs := #[.int .i64 0, .int .i64 0, .int .i64 0]) (t := 30) ?hr ?_; (case hd => rfl); (case hg => rfl); (case hr => first | (go_simp; done) | (go_simp; rfl)); intro gb217 hg w16 hbox hb; have n0_ := Aside0.mk (Kd.R_below (by (with_reducible repeat (first | apply Kd.R_alloc | apply Kd.R_drewN | apply Kd.R_drew)); exact HO_5.out) hb); have n1_ := Aside0.mk (below_step (by repeat (first | (with_reducible first | exact HB.out | apply below_alloc | apply pw_below_drewN | apply below_drew1) | exact HB.out)) hb); have n2_ := Aside0.mk (hbox); have n3_ := Aside0.mk ((by rw [hg]; exact (below_size (by repeat (first | (with_reducible first | exact HB.out | apply below_alloc | apply pw_below_drewN | apply below_drew1) | exact HB.out))) : w.heap.size ≤ gb217)); have n4_ := Aside0.mk ((by rw [hg]; exact (below_size (by repeat (first | (with_reducible first | exact HB.out | apply below_alloc | apply pw_below_drewN | apply below_drew1) | exact HB.out))) : w.heap.size ≤ gb217)); clear HO_5; clear HB; have HO_5 := n0_; have HB := n1_; have BK217 := n2_; have GW217 := n3_; have GE217 := n4_; clear n0_ n1_ n2_ n3_ n4_; clear hb hbox hg; have hcz17_0 : w16.cell? ⟨gb217, 0, none⟩ = some (.int .i64 0) := (blk_cell BK217.out 0).trans rfl; have hcz17_1 : w16.cell? ⟨gb217, 1, none⟩ = some (.int .i64 0) := (blk_cell BK217.out 1).trans rfl; have hcz17_2 : w16.cell? ⟨gb217, 2, none⟩ = some (.int .i64 0) := (blk_cell BK217.out 2).trans rfl; have hfz17_0 := blk_frozen BK217.out 0; have hfz17_1 := blk_frozen BK217.out 1; have hfz17_2 := blk_frozen BK217.out 2))
                    go_roundg k1
                    case measure => have := HK1.out; omega
                    case rel => exact ⟨(x5_1), (wrap64 (x13_1 + 1)), (by first | rfl | (simp; done) | (simp [*]; done)), H', ⟨by have := HK1.out; omega⟩, ⟨by (with_reducible repeat (first | apply Kd.R_alloc | apply Kd.R_drewN | apply Kd.R_drew)); exact Kd.R_mono (Kd.R_far (p := ⟨gb217, 2, none⟩) (Kd.R_far (p := ⟨gb217, 1, none⟩) (Kd.R_far (p := ⟨gb217, 0, none⟩) (Kd.R_types HO_5.out BK217.out (by decide)) (fun _ hk => hk.2) (.int .i64 ((rd_T30 l0_1 x13_1).f0))) (fun _ hk => hk.2) (.int .i64 ((rd_T30 l0_1 x13_1).f1))) (fun _ hk => hk.2) (.int .i64 ((rd_T30 l0_1 x13_1).f2))) (fun _ hk => trivial)⟩, ⟨by repeat (first | (with_reducible first | exact HB.out | apply below_alloc | apply pw_below_drewN | apply below_drew1 | refine below_set ?_ GE217.out) | exact HB.out)⟩⟩
                · rw [if_neg c9] at H
                  exact absurd H (by simp)
              · rw [if_neg c8] at H
                have c8b0 : ((Go.bits .and .i64 (ji7) 1) == 0) = false := beq_eq_false_iff_ne.mpr c8
                have c8b1 : ((Go.bits .and .i64 (ji7) 1) != 0) = true := bne_iff_ne.mpr c8
                have H' := Aside0.mk H
                clear H
                have p216 : 0 ≤ (x13_1 : Int) := of_decide_eq_true (by first | (with_reducible assumption) | assumption)
                have q216 : x13_1 < (l0_1.length : Int) := of_decide_eq_true (by first | (with_reducible assumption) | assumption)
                obtain ⟨ad216, e216, hx216_0, hx216_1, hx216_2⟩ := at_T30 HR0_1.out x13_1 p216 q216
                cases e216
                replace hx216_0 := (HB.out.cell (World.block_lt_of_cell? w _ hx216_0)).trans hx216_0
                replace hx216_1 := (HB.out.cell (World.block_lt_of_cell? w _ hx216_1)).trans hx216_1
                replace hx216_2 := (HB.out.cell (World.block_lt_of_cell? w _ hx216_2)).trans hx216_2
                replace p216 := eq_true p216
                replace q216 := eq_true q216
                go_wp2_with (first | ((with_reducible refine gate_dst (N := 7) rfl ?_); refine box_event ?hg (N := 7) ?hd (cs := #[.int .i64 0, .int .i64 0, .int .i64 0]) (t := 30) ?hr ?_; (case hd => rfl); (case hg => rfl); (case hr => first | (go_simp; done) | (go_simp; rfl)); intro gb217 hg w18 hbox hb; have n0_ := Aside0.mk (Kd.R_below (by (with_reducible repeat (first | apply Kd.R_alloc | apply Kd.R_drewN | apply Kd.R_drew)); exact HO_5.out) hb); have n1_ := Aside0.mk (below_step (by repeat (first | (with_reducible first | exact HB.out | apply below_alloc | apply pw_below_drewN | apply below_drew1) | exact HB.out)) hb); have n2_ := Aside0.mk (hbox); have n3_ := Aside0.mk ((by rw [hg]; exact (below_size (by repeat (first | (with_reducible first | exact HB.out | apply below_alloc | apply pw_below_drewN | apply below_drew1) | exact HB.out))) : w.heap.size ≤ gb217)); have n4_ := Aside0.mk ((by rw [hg]; exact (below_size (by repeat (first | (with_reducible first | exact HB.out | apply below_alloc | apply pw_below_drewN | apply below_drew1) | exact HB.out))) : w.heap.size ≤ gb217)); clear HO_5; clear HB; have HO_5 := n0_; have HB := n1_; have BK217 := n2_; have GW217 := n3_; have GE217 := n4_; clear n0_ n1_ n2_ n3_ n4_; clear hb hbox hg; have hcz19_0 : w18.cell? ⟨gb217, 0, none⟩ = some (.int .i64 0) := (blk_cell BK217.out 0).trans rfl; have hcz19_1 : w18.cell? ⟨gb217, 1, none⟩ = some (.int .i64 0) := (blk_cell BK217.out 1).trans rfl; have hcz19_2 : w18.cell? ⟨gb217, 2, none⟩ = some (.int .i64 0) := (blk_cell BK217.out 2).trans rfl; have hfz19_0 := blk_frozen BK217.out 0; have hfz19_1 := blk_frozen BK217.out 1; have hfz19_2 := blk_frozen BK217.out 2))
                go_roundg k1
                case measure => have := HK1.out; omega
                case rel => exact ⟨(x5_1), (wrap64 (x13_1 + 1)), (by first | rfl | (simp; done) | (simp [*]; done)), H', ⟨by have := HK1.out; omega⟩, ⟨by (with_reducible repeat (first | apply Kd.R_alloc | apply Kd.R_drewN | apply Kd.R_drew)); exact Kd.R_mono (Kd.R_far (p := ⟨gb217, 2, none⟩) (Kd.R_far (p := ⟨gb217, 1, none⟩) (Kd.R_far (p := ⟨gb217, 0, none⟩) (Kd.R_types HO_5.out BK217.out (by decide)) (fun _ hk => hk.2) (.int .i64 ((rd_T30 l0_1 x13_1).f0))) (fun _ hk => hk.2) (.int .i64 ((rd_T30 l0_1 x13_1).f1))) (fun _ hk => hk.2) (.int .i64 ((rd_T30 l0_1 x13_1).f2))) (fun _ hk => trivial)⟩, ⟨by repeat (first | (with_reducible first | exact HB.out | apply below_alloc | apply pw_below_drewN | apply below_drew1 | refine below_set ?_ GE217.out) | exact HB.out)⟩⟩
            · rw [if_neg c6] at H
              exact absurd H (by simp)
          · rw [if_neg c5] at H
            exact absurd H (by simp)
        · rw [if_neg c4] at H
          exact absurd H (by simp)
      · rw [if_neg c3] at H
        have c3b0 : decide (x13_1 < (l0_1.length : Int)) = false := decide_eq_false c3
        clear c3
        obtain rfl := Option.some.inj H
        go_wp2
        go_ret
        exact ⟨_, by first | rfl | (simp [errW_none, errW_some] <;> rfl) | (simp [*, errW_none, errW_some] <;> rfl), by (with_reducible repeat (first | apply Kd.R_alloc | apply Kd.R_drewN | apply Kd.R_drew)); exact HO_5.out, by repeat (first | (with_reducible first | exact HB.out | apply below_alloc | apply pw_below_drewN | apply below_drew1) | exact HB.out)⟩
def branch_town_all.l0 : Nat → List Int → Int → Int → Option (List Int)
  | 0, _, _, _ => none
  | k + 1, x3, x9, x10 => if x10 < x9 then (if x3.length < 17592186044416 then (branch_town_all.l0 k (x3 ++ [x10]) x9 (wrap64 (x10 + 1))) else (none)) else (some x3)
def branch_town_all.f (k : Nat) (a0_0 : Int) (l0_1 : List (S30)) : Option (List Int) := branch_town_all.l0 k ([] : List Int) (l0_1.length : Int) 0
mutual
def branch_town_reach.l0 : Nat → List Int → Int → Int → Int → Int → List (S30) → Option (Int)
  | 0, _, _, _, _, _, _ => none
  | k + 1, x1, x5, x12, x13, x1000, x1001 => if x13 < x12 then (branch_town_reach.l1 k x1 x5 x12 x13 x1 (x1.length : Int) 0 x1000 x1001) else (some x5)
def branch_town_reach.l1 : Nat → List Int → Int → Int → Int → List Int → Int → Int → Int → List (S30) → Option (Int)
  | 0, _, _, _, _, _, _, _, _, _ => none
  | k + 1, x1, x5, x12, x13, x15, x16, x17, x1000, x1001 => if x17 < x16 then (if 0 ≤ x17 then (if x17 < (x15.length : Int) then (if 0 ≤ (rd x15 x17) then (if (rd x15 x17) < (x1001.length : Int) then (if 0 ≤ ((rd_T30 x1001 (rd x15 x17)).f0) then (if (Go.bits .and .i64 (shr .i64 x5 ((rd_T30 x1001 (rd x15 x17)).f0)) 1) = 1 then (if 0 ≤ ((rd_T30 x1001 (rd x15 x17)).f1) then (branch_town_reach.l1 k x1 (Go.bits .or .i64 x5 (shl .i64 1 ((rd_T30 x1001 (rd x15 x17)).f1))) x12 x13 x15 x16 (wrap64 (x17 + 1)) x1000 x1001) else (none)) else (branch_town_reach.l1 k x1 x5 x12 x13 x15 x16 (wrap64 (x17 + 1)) x1000 x1001)) else (none)) else (none)) else (none)) else (none)) else (none)) else (branch_town_reach.l0 k x1 x5 x12 (wrap64 (x13 + 1)) x1000 x1001)
end
def branch_town_reach.f (k : Nat) (a0_0 : Int) (l0_1 : List (S30)) (l1 : List Int) : Option (Int) := branch_town_reach.l0 k l1 1 a0_0 0 a0_0 l0_1
def branch_town_everybody.f (a0_0 : Int) (l0_1 : List (S30)) : Option (Int) := if 0 ≤ a0_0 then (some (wrap64 ((shl .i64 1 a0_0) - 1))) else (none)
set_option maxHeartbeats 8000000 in
set_option maxRecDepth 100000 in
theorem branch_town_everybody.calls (g0 : Nat) (a0_0 : Int) (A0_1 : Option Addr) (c0_1 : Nat) (l0_1 : List (S30)) (a0_2 : Option Nat) (r : Int) (w : World) (hP0 : w.heap[g0]? = some (.cells #[.int .i64 a0_0, .slice A0_1 l0_1.length c0_1, .map a0_2] 70 (0, 0))) (hr0_1 : Kd.C k30 w A0_1 l0_1.length l0_1) (hc0_1 : l0_1.length ≤ c0_1) (h : branch_town_everybody.f a0_0 l0_1 = some r) :
    Calls Try.prog 74 #[.pointer (some ⟨g0, 0, none⟩)] w fun e w' => e = .returned (.int .i64 r) ∧ Drawn0 w w' := by
  have HP0 := Aside0.mk hP0
  clear hP0
  have HR0_1 := Aside0.mk hr0_1
  have HC0_1 := Aside0.mk hc0_1
  clear hr0_1 hc0_1
  have H : (if 0 ≤ a0_0 then (some (wrap64 ((shl .i64 1 a0_0) - 1))) else (none)) = some r := h
  clear h
  by_cases c2 : 0 ≤ a0_0
  · rw [if_pos c2] at H
    have c2b0 := eq_true c2
    have c2b1 : decide (0 ≤ a0_0) = true := decide_eq_true c2
    clear c2
    obtain ⟨ji3, hji3⟩ : ∃ j_ : Int, (shl .i64 1 a0_0) = j_ := ⟨_, rfl⟩
    replace H : (some (wrap64 ((ji3) - 1))) = some r := by first | (rw [hji3] at H; exact H) | (simp only [hji3] at H ⊢; exact H)
    have hji3_ : (IntKind.i64.wrap (1 * 2 ^ min a0_0.toNat 64)) = ji3 := hji3
    have hji3z : a0_0 ≤ 64 → (IntKind.i64.wrap (1 * 2 ^ a0_0.toNat)) = ji3 := shl_small hji3
    have hji3u : (IntKind.i64.wrap (2 ^ min a0_0.toNat 64)) = ji3 := by have h_ := hji3_; rw [Int.one_mul] at h_; exact h_
    have hji3v : a0_0 ≤ 64 → (IntKind.i64.wrap (2 ^ a0_0.toNat)) = ji3 := fun hle_ => by have h_ := hji3z hle_; rw [Int.one_mul] at h_; exact h_
    have hji3y : (wrap64 (1 * 2 ^ min a0_0.toNat 64)) = ji3 := (i64_w _).symm.trans hji3_
    have hji3x : a0_0 ≤ 64 → (wrap64 (1 * 2 ^ a0_0.toNat)) = ji3 := fun h_ => (i64_w _).symm.trans (hji3z h_)
    obtain rfl := Option.some.inj H
    have hx230_0 := blk_cell HP0.out 0
    replace hx230_0 := hx230_0.trans rfl
    have hx230_1 := blk_cell HP0.out 1
    replace hx230_1 := hx230_1.trans rfl
    have hx230_2 := blk_cell HP0.out 2
    replace hx230_2 := hx230_2.trans rfl
    go_enter Try.func74, Try.ntmps74
    go_wp2
    go_ret
    exact ⟨by first | rfl | (simp; done) | (simp only [← hji3] <;> (first | rfl | simp)) | (simp [*]; done), by repeat (first | exact Drawn0.refl _ | apply Drawn0.step)⟩
  · rw [if_neg c2] at H
    exact absurd H (by simp)
end Go.Proofs.Ytpmadffgdfholaa.B
namespace Go.Proofs.Ytpmadffgdfholaa.B
open Go.RowKit Go.Proofs.YtpmadffgdfholaaW.PrintWords Go.Proofs.YtpmadffgdfholaaW.PrintLast Go.Proofs.YtpmadffgdfholaaW.PrintMore
attribute [local go_sem] max2_int min2_int max_two min_two max_three min_three max_four min_four   -- for this text's walks alone
set_option linter.unusedVariables false
set_option linter.unusedSimpArgs false
mutual
def branch_town_is.l0 : Nat → List Int → Int → Int → List Int → Int → Int → Int → List (S30) → Option (Int × Bool)
  | 0, _, _, _, _, _, _, _, _ => none
  | k + 1, x1, x6, x7, x18, x19, x20, x1000, x1001 => if x20 < x19 then (if 0 ≤ x20 then (if x20 < (x18.length : Int) then (if (rd x18 x20) < 0 then (branch_town_is.j1 k x1 x6 x7 (rd x18 x20) x18 x19 x20 true x1000 x1001) else (if (rd x18 x20) ≥ (x1001.length : Int) then (branch_town_is.j1 k x1 x6 x7 (rd x18 x20) x18 x19 x20 true x1000 x1001) else (if x20 > 0 then (if 0 ≤ (wrap64 (x20 - 1)) then (if (wrap64 (x20 - 1)) < (x1.length : Int) then (if (rd x18 x20) ≤ (rd x1 (wrap64 (x20 - 1))) then (branch_town_is.j1 k x1 x6 x7 (rd x18 x20) x18 x19 x20 true x1000 x1001) else (if 0 ≤ (rd x18 x20) then (if (rd x18 x20) < (x1001.length : Int) then (if 0 ≤ ((rd_T30 x1001 (rd x18 x20)).f1) then (branch_town_is.j1 k x1 x6 x7 (rd x18 x20) x18 x19 x20 ((Go.bits .and .i64 (shr .i64 x7 ((rd_T30 x1001 (rd x18 x20)).f1)) 1) == 1) x1000 x1001) else (none)) else (none)) else (none))) else (none)) else (none)) else (if 0 ≤ (rd x18 x20) then (if (rd x18 x20) < (x1001.length : Int) then (if 0 ≤ ((rd_T30 x1001 (rd x18 x20)).f1) then (branch_town_is.j1 k x1 x6 x7 (rd x18 x20) x18 x19 x20 ((Go.bits .and .i64 (shr .i64 x7 ((rd_T30 x1001 (rd x18 x20)).f1)) 1) == 1) x1000 x1001) else (none)) else (none)) else (none))))) else (none)) else (none)) else ((branch_town_reach.f k x1000 x1001 x1).bind fun t243 => ((branch_town_everybody.f x1000 x1001).bind fun t244 => (if t243 = t244 then (some (x6, true)) else (some (0, false)))))
def branch_town_is.j1 : Nat → List Int → Int → Int → Int → List Int → Int → Int → Bool → Int → List (S30) → Option (Int × Bool)
  | 0, _, _, _, _, _, _, _, _, _, _ => none
  | k + 1, x1, x6, x7, x9, x18, x19, x20, x62, x1000, x1001 => if x62 = true then (some (0, false)) else (if 0 ≤ x9 then (if x9 < (x1001.length : Int) then (if 0 ≤ ((rd_T30 x1001 x9).f1) then (branch_town_is.l0 k x1 (wrap64 (x6 + ((rd_T30 x1001 x9).f2))) (Go.bits .or .i64 x7 (shl .i64 1 ((rd_T30 x1001 x9).f1))) x18 x19 (wrap64 (x20 + 1)) x1000 x1001) else (none)) else (none)) else (none))
end
def branch_town_is.f (k : Nat) (a0_0 : Int) (l0_1 : List (S30)) (l1 : List Int) : Option (Int × Bool) := if (l1.length : Int) = (wrap64 (a0_0 - 1)) then (branch_town_is.l0 k l1 0 1 l1 (l1.length : Int) 0 a0_0 l0_1) else (some (0, false))
def branch_town_isSet.f (a0_0 : Int) (l0_1 : List (S30)) (a1 : Int) : Option (Bool) := if a1 > 0 then ((branch_town_everybody.f a0_0 l0_1).bind fun t245 => (if a1 ≤ t245 then (some ((Go.bits .and .i64 a1 1) == 0)) else (some false))) else (some false)
set_option maxHeartbeats 8000000 in
set_option maxRecDepth 100000 in
theorem branch_town_isSet.calls (g0 : Nat) (a0_0 : Int) (A0_1 : Option Addr) (c0_1 : Nat) (l0_1 : List (S30)) (a0_2 : Option Nat) (a1 : Int) (r : Bool) (w : World) (hP0 : w.heap[g0]? = some (.cells #[.int .i64 a0_0, .slice A0_1 l0_1.length c0_1, .map a0_2] 70 (0, 0))) (hr0_1 : Kd.C k30 w A0_1 l0_1.length l0_1) (hc0_1 : l0_1.length ≤ c0_1) (h : branch_town_isSet.f a0_0 l0_1 a1 = some r) :
    Calls Try.prog 58 #[.pointer (some ⟨g0, 0, none⟩), .int .i64 a1] w fun e w' => e = .returned (.bool r) ∧ Drawn0 w w' := by
  have HP0 := Aside0.mk hP0
  clear hP0
  have HR0_1 := Aside0.mk hr0_1
  have HC0_1 := Aside0.mk hc0_1
  clear hr0_1 hc0_1
  have H : (if a1 > 0 then ((branch_town_everybody.f a0_0 l0_1).bind fun t245 => (if a1 ≤ t245 then (some ((Go.bits .and .i64 a1 1) == 0)) else (some false))) else (some false)) = some r := h
  clear h
  by_cases c3 : a1 > 0
  · rw [if_pos c3] at H
    have c3b0 : decide (0 < a1) = true := decide_eq_true c3
    clear c3
    replace H := Option.bind_eq_some_iff.mp H
    obtain ⟨t245, A40, H⟩ := H
    replace H : (if a1 ≤ t245 then (some ((Go.bits .and .i64 a1 1) == 0)) else (some false)) = some r := H
    have A4 := Aside0.mk A40
    clear A40
    by_cases c5 : a1 ≤ t245
    · rw [if_pos c5] at H
      have c5b0 : decide (a1 ≤ t245) = true := decide_eq_true c5
      clear c5
      obtain rfl := Option.some.inj H
      go_enter Try.func58, Try.ntmps58
      go_wp2_with (first | (go_at_call 74; (with_reducible refine (branch_town_everybody.calls g0 a0_0 A0_1 c0_1 l0_1 a0_2 t245 _ ?side1 ?side2 ?side3 A4.out).mono ?_); (case side1 => exact HP0.out); (case side2 => repeat (first | exact HR0_1.out | (with_reducible refine Kd.C_alloc ?_ _) | (with_reducible refine Kd.C_drewN ?_ _) | (with_reducible refine Kd.C_drew ?_))); (case side3 => exact HC0_1.out); rintro e w' ⟨rfl, ⟨nd, rfl⟩⟩))
      go_ret
      exact ⟨by first | rfl | (simp; done) | (simp [*]; done), by repeat (first | exact Drawn0.refl _ | apply Drawn0.step)⟩
    · rw [if_neg c5] at H
      have c5b0 : decide (a1 ≤ t245) = false := decide_eq_false c5
      clear c5
      obtain rfl := Option.some.inj H
      go_enter Try.func58, Try.ntmps58
      go_wp2_with (first | (go_at_call 74; (with_reducible refine (branch_town_everybody.calls g0 a0_0 A0_1 c0_1 l0_1 a0_2 t245 _ ?side1 ?side2 ?side3 A4.out).mono ?_); (case side1 => exact HP0.out); (case side2 => repeat (first | exact HR0_1.out | (with_reducible refine Kd.C_alloc ?_ _) | (with_reducible refine Kd.C_drewN ?_ _) | (with_reducible refine Kd.C_drew ?_))); (case side3 => exact HC0_1.out); rintro e w' ⟨rfl, ⟨nd, rfl⟩⟩))
      go_ret
      exact ⟨by first | rfl | (simp; done) | (simp [*]; done), by repeat (first | exact Drawn0.refl _ | apply Drawn0.step)⟩
  · rw [if_neg c3] at H
    have c3b0 : decide (0 < a1) = false := decide_eq_false c3
    clear c3
    obtain rfl := Option.some.inj H
    go_enter Try.func58, Try.ntmps58
    go_wp2
    go_ret
    exact ⟨by first | rfl | (simp; done) | (simp [*]; done), by repeat (first | exact Drawn0.refl _ | apply Drawn0.step)⟩
end Go.Proofs.Ytpmadffgdfholaa.B
namespace Go.Proofs.Ytpmadffgdfholaa.B
open Go.RowKit Go.MapKept Go.Proofs.YtpmadffgdfholaaW.PrintWords Go.Proofs.YtpmadffgdfholaaW.PrintLast Go.Proofs.YtpmadffgdfholaaW.PrintMore
set_option linter.unusedVariables false
set_option linter.unusedSimpArgs false
attribute [local go_sem ↓] Go.wp_at_zero Go.wp_at_succ
/-- What is left of the costs when a price is taken from the streets of a list; none inside: one of them has less. -/
def takeB : List Int → List Int → Int → Option (Option (List Int))
  | left, [], _ => some (some left)
  | left, i :: E, w => if 0 ≤ i ∧ i < (left.length : Int) then (if rd left i < w then some none else takeB (left.set i.toNat (wrap64 (rd left i - w))) E w) else none
/-- Price by price. -/
def provesL (k : Nat) (n : Int) (l : List S30) : List S41 → List Int → (Int → Bool) → Int → Option (Int × Bool × Int)
  | [], _, _, worth => some (worth, true, 0)
  | p :: ps, left, met, worth => (branch_town_isSet.f n l p.f0).bind fun b => if (!b || decide (p.f1 < 1) || decide (1000 < p.f1) || met p.f0) = true then some (0, false, 0) else
      (branch_town_entering.f k n l p.f0).bind fun E => if E.length < 17592186044416 then (takeB left E p.f1).bind fun o => match o with
        | none => some (0, false, 0)
        | some left' => provesL k n l ps left' (fun j => decide (j = p.f0) || met j) (wrap64 (worth + p.f1)) else none
def branch_Proves.f (k : Nat) (a0 : Int) (l1 : List S30) (l2 : List S41) : Option (Int × Bool × Int) :=
  if l2.length < 17592186044416 then if readB a0 l1 = 0 then (branch_town_costs.f k a0 l1).bind fun left => provesL k a0 l1 l2 left (fun _ => false) 0 else some (0, false, readB a0 l1) else none
theorem provesL_mono (k : Nat) (n : Int) (l : List S30) : ∀ ps left met worth, LeO (provesL k n l ps left met worth) (provesL (k + 1) n l ps left met worth)
  | [], _, _, _ => LeO.refl _
  | p :: ps, left, met, worth => by
    unfold provesL
    refine LeO.bind (LeO.refl _) fun b => ?_
    refine LeO.ite (LeO.refl _) ?_
    refine LeO.bind (branch_town_entering.mono _ _ _ k) fun E => ?_
    refine LeO.ite ?_ (LeO.refl _)
    refine LeO.bind (LeO.refl _) fun o => ?_
    cases o with
    | none => exact LeO.refl _
    | some left' => exact provesL_mono k n l ps left' _ _
theorem branch_Proves.mono : ∀ a0 a1 a2 k, LeO (branch_Proves.f k a0 a1 a2) (branch_Proves.f (k + 1) a0 a1 a2) := by
  intro a0 a1 a2 k
  unfold branch_Proves.f
  refine LeO.ite ?_ (LeO.refl _)
  refine LeO.ite ?_ (LeO.refl _)
  exact LeO.bind (branch_town_costs.mono _ _ k) fun left => provesL_mono k a0 a1 a2 left _ _
theorem drop_rd41 (ps : List S41) (i : Nat) (h : i < ps.length) : ps.drop i = rd_T41 ps (i : Int) :: ps.drop (i + 1) := by
  rw [List.drop_eq_getElem_cons h]
  simp [rd_T41, List.getD, List.getElem?_eq_getElem h]
theorem drop_rdI (ps : List Int) (i : Nat) (h : i < ps.length) : ps.drop i = rd ps (i : Int) :: ps.drop (i + 1) := by
  rw [List.drop_eq_getElem_cons h]
  simp [rd, List.getD, List.getElem?_eq_getElem h]
theorem val_succ2 (i : Nat) (h : i < 17592186044416) : Value.int .i64 (wrap64 ((i : Int) + 1)) = Value.int .i64 ((i + 1 : Nat) : Int) := by rw [show wrap64 ((i : Int) + 1) = ((i + 1 : Nat) : Int) from by unfold wrap64; omega]
theorem update_event {P : Program} {ops : Array Oper} {rest : List Oper} {o : Oper} {a : Act} {Q : Exit → Act → World → Prop} {w : World} {m mt kt et : Nat} {g : Int → Bool} (hM : SetM w m g) (ht : P.underlying mt = some (.map kt et)) (hk : P.underlying kt = some (.int .i64))
    (hg : o.guard = none) (mo xo vo : Operand) (hop : o.op = Op.mapUpdate mt mo xo vo) {i : Int} (hm : a.eval mo = .map (some m)) (hx : a.eval xo = .int .i64 i) (hv : a.eval vo = .bool true)
    (hK : ∀ w2, SetM w2 m (fun j => decide (j = i) || g j) → w.grownBy w2 (some m) → wpList P ops Q rest (a.put o.dst undef) w2) : wpList P ops Q (o :: rest) a w := by
  refine wpList_plain hg fun K' hK' => ?_
  obtain ⟨w2, hrun, r1, r2⟩ := hM.update ht hk i
  unfold Oper.wp
  simp [execOp, hop, hm, hx, hv, hrun, Result.andThen]
  exact hK' _ _ (hK w2 r1 r2)
/-- A row of cells stands where a map is written. -/
theorem Kd.R_map {α : Type} {d : Kd α} {e base m : Nat} {ok : Nat → Prop} {w w2 : World} {v : Value} {xs : List α} {g : Int → Bool} (h : d.R e w base ok v xs) (hM : SetM w m g) (hg : w.grownBy w2 (some m)) : d.R e w2 base ok v xs := by
  refine Kd.R_mono (Kd.R_grown (Kd.R_bound h) hg (fun k hk he => ?_)) (fun _ hk => hk.1)
  obtain ⟨_, _, _, q, _, cells, hc⟩ := hk
  injection he with he
  subst he
  exact hM.ne_cells hc rfl
/-- A row that was made behind a block stands where that block is written. -/
theorem Kd.R_low {α : Type} {d : Kd α} {e base : Nat} {ok : Nat → Prop} {w : World} {v : Value} {xs : List α} (h : d.R e w base ok v xs) {p : Addr} (hp : p.block < base) (u : Value) : d.R e (w.setCell p u) base ok v xs :=
  Kd.R_mono (Kd.R_far (Kd.R_bound h) (fun k hk => by have := hk.2.1; omega) u) (fun _ hk => hk.1)
theorem SetM.set {w : World} {m : Nat} {g : Int → Bool} (h : SetM w m g) {a i : Nat} {cs : Array Value} {t : TypeId} {fr : Nat × Nat} (hb : w.heap[a]? = some (.cells cs t fr)) (u : Value) : SetM (w.setCell ⟨a, i, none⟩ u) m g := h.far (p := ⟨a, i, none⟩) (h.ne_cells hb) u
theorem SetM.self {w : World} {m : Nat} {g : Int → Bool} (_ : SetM w m g) : Below w.heap.size w w := Below.refl _ _
set_option maxHeartbeats 8000000 in
set_option maxRecDepth 100000 in
theorem branch_Proves.calls (k : Nat) (a0 : Int) (A1 : Option Addr) (c1 : Nat) (l1 : List S30) (A2 : Option Addr) (c2 : Nat) (l2 : List S41) (r1 : Int) (r2 : Bool) (r3 : Int) (w : World) (hr1 : Kd.C k30 w A1 l1.length l1) (hc1 : l1.length ≤ c1) (hr2 : Kd.C k41 w A2 l2.length l2) (hc2 : l2.length ≤ c2) (h : branch_Proves.f k a0 l1 l2 = some (r1, r2, r3)) :
    Calls Try.prog 37 #[.int .i64 a0, .slice A1 l1.length c1, .slice A2 l2.length c2] w fun e w' => e = .returned (.tuple #[.int .i64 r1, .bool r2, .int .i64 r3]) ∧ Below w.heap.size w w' := by
  have hu41 := Try.underlying41
  have HR1 := Aside0.mk hr1
  have HC1 := Aside0.mk hc1
  have HR2 := Aside0.mk hr2
  have HC2 := Aside0.mk hc2
  clear hr1 hc1 hr2 hc2
  have HB := Aside0.mk (Below.refl w.heap.size w)
  unfold branch_Proves.f at h
  split at h
  case isFalse => exact absurd h (by simp)
  rename_i hlen
  have HLEN := Aside0.mk hlen
  clear hlen
  obtain ⟨t, ht⟩ : ∃ t, readB a0 l1 = t := ⟨_, rfl⟩
  rw [ht] at h
  have HT0 := Aside0.mk (show branch_read.f a0 l1 = some t by unfold branch_read.f; rw [ht])
  clear ht
  by_cases c3 : t = 0
  case neg =>
    rw [if_neg c3] at h
    have c3b : (t == 0) = false := beq_eq_false_iff_ne.mpr c3
    have c3c : (t != 0) = true := bne_iff_ne.mpr c3
    simp only [Option.some.injEq, Prod.mk.injEq] at h
    obtain ⟨rfl, rfl, rfl⟩ := h
    clear c3
    go_enter Try.func37, Try.ntmps37
    go_wp2_with (first | (go_at_call 44; (refine (branch_read.calls_err a0 A1 c1 l1 t _ HR1.out HC1.out HT0.out (by assumption)).mono ?_); rintro e w1 ⟨rfl, hb⟩; clear HB; have HB := Aside0.mk hb; clear hb))
    go_ret3
    exact ⟨by first | rfl | (simp; done), HB.out⟩
  rw [if_pos c3] at h
  have c3b : (t == 0) = true := beq_iff_eq.mpr c3
  have c3c : (t != 0) = false := bne_eq_false_iff_eq.mpr c3
  clear c3
  obtain ⟨left0, hl0, H⟩ := Option.bind_eq_some_iff.1 h
  have HL0 := Aside0.mk hl0
  have H0 := Aside0.mk H
  clear h hl0 H
  go_enter Try.func37, Try.ntmps37
  go_wp2_with (first | (go_at_call 44; (refine (branch_read.calls_ok a0 A1 c1 l1 t _ HR1.out HC1.out HT0.out (by assumption)).mono ?_); rintro e w1 ⟨gt, mr, rfl, hg, hbox, hb⟩; have GT := Aside0.mk hg; have HT := Aside0.mk hbox; clear HB; have HB := Aside0.mk hb; clear hg hbox hb) | (go_at_call 47; (refine (branch_town_costs.calls k gt a0 A1 c1 l1 mr left0 _ HT.out (Kd.C_below HR1.out HB.out) HC1.out HL0.out).mono ?_); rintro e w2 ⟨vl, rfl, ho, hb⟩; obtain ⟨Al, cl, rfl⟩ := Kd.R_slice ho; have HO := Aside0.mk (Kd.R_lower ho (below_size HB.out)); have n0_ := Aside0.mk (blk_below HT.out hb); have n1_ := Aside0.mk (below_step HB.out hb); clear HT HB; have HT := n0_; have HB := n1_; clear n0_ n1_ ho hb) | ((with_reducible refine gate_dst (N := 29) rfl ?_); refine map_event ?hg (N := 29) ?hd ?hr ?_; (case hd => rfl); (case hg => rfl); (case hr => rfl); intro m hm w3 hmap hb; have HM := Aside0.mk (SetM.new hmap); have n0_ := Aside0.mk (Kd.R_below (by (with_reducible repeat (first | apply Kd.R_alloc | apply Kd.R_drewN | apply Kd.R_drew)); exact HO.out) hb); have n1_ := Aside0.mk (blk_below (by (with_reducible repeat (first | refine blk_drewN ?_ _ | refine blk_drew ?_ | refine blk_alloc ?_ _)); exact HT.out) hb); have n2_ := Aside0.mk (below_step (by repeat (first | (with_reducible first | exact HB.out | apply below_alloc | apply pw_below_drewN | apply below_drew1) | exact HB.out)) hb); have GM := Aside0.mk ((by rw [hm]; exact (below_size (by repeat (first | (with_reducible first | exact HB.out | apply below_alloc | apply pw_below_drewN | apply below_drew1) | exact HB.out)))) : w.heap.size ≤ m); clear HO HT HB; have HO := n0_; have HT := n1_; have HB := n2_; clear n0_ n1_ n2_ hm hmap hb))
  go_loopg [13, 32] l2.length (fun kq v13 v32 w' => ∃ (i : Nat) (left : List Int) (met : Int → Bool) (worth : Int), v32 = .int .i64 (i : Int) ∧ v13 = .int .i64 worth ∧ Aside0 (i + kq = l2.length) ∧ Aside0 (provesL k a0 l1 (l2.drop i) left met worth = some (r1, r2, r3)) ∧ Aside0 (Kd.R (Kd.int .i64) 3 w' w.heap.size (fun _ => True) (.slice Al left0.length cl) left) ∧ Aside0 (SetM w' m met) ∧ Aside0 (w'.heap[gt]? = some (.cells #[.int .i64 a0, .slice A1 l1.length c1, .map mr] 70 (0, 0))) ∧ Aside0 (Below w.heap.size w w'))
  case atStart => exact ⟨0, left0, _, 0, rfl, rfl, ⟨by simp⟩, ⟨H0.out⟩, ⟨by (with_reducible repeat (first | apply Kd.R_alloc | apply Kd.R_drewN | apply Kd.R_drew)); exact HO.out⟩, ⟨HM.out⟩, ⟨by (with_reducible repeat (first | refine blk_drewN ?_ _ | refine blk_drew ?_ | refine blk_alloc ?_ _)); exact HT.out⟩, ⟨by repeat (first | (with_reducible first | exact HB.out | apply below_alloc | apply pw_below_drewN | apply below_drew1) | exact HB.out)⟩⟩
  case round =>
    clear HO HM HT HB H0
    obtain ⟨i, left, met, worth, rfl, rfl, HI, HH, HO, HM, HT, HB⟩ := hrel
    cases gk with
    | zero =>
      have hi := HI.out
      have c4b : decide ((i : Int) < (l2.length : Int)) = false := decide_eq_false (by omega)
      have c4b2 : decide (i < l2.length) = false := decide_eq_false (by omega)
      have hh := HH.out
      rw [List.drop_eq_nil_of_le (by omega)] at hh
      simp only [provesL, Option.some.injEq, Prod.mk.injEq] at hh
      obtain ⟨rfl, rfl, rfl⟩ := hh
      clear hi
      go_wp2
      go_ret3
      exact ⟨by first | rfl | (simp; done), HB.out⟩
    | succ k1 =>
      have hi0 : (0 : Int) ≤ (i : Int) := Int.natCast_nonneg _
      have hi1 : (i : Int) < (l2.length : Int) := by have := HI.out; omega
      have c4b : decide ((i : Int) < (l2.length : Int)) = true := decide_eq_true hi1
      have c4b2 : decide (i < l2.length) = true := decide_eq_true (by omega)
      have hi2 : i < l2.length := by omega
      have hh := HH.out
      rw [drop_rd41 l2 i hi2] at hh
      obtain ⟨ad, e, hx_0, hx_1⟩ := at_T41 HR2.out (i : Int) hi0 hi1
      cases e
      obtain ⟨x, hx⟩ : ∃ x, rd_T41 l2 (i : Int) = x := ⟨_, rfl⟩
      rw [hx] at hx_0 hx_1 hh
      clear hx HH
      simp only [Int.toNat_natCast] at hx_0 hx_1
      replace hx_0 := (HB.out.cell (World.block_lt_of_cell? w _ hx_0)).trans hx_0
      replace hx_1 := (HB.out.cell (World.block_lt_of_cell? w _ hx_1)).trans hx_1
      replace hi0 := eq_true hi0
      replace hi1 := eq_true hi1
      replace hi2 := eq_true hi2
      unfold provesL at hh
      obtain ⟨bs, hbs, hh⟩ := Option.bind_eq_some_iff.1 hh
      have HBS := Aside0.mk hbs
      have HH := Aside0.mk hh
      clear hbs hh
      have HB0 := Aside0.mk HM.out.self
      go_upto_region 10 with (fail)
      (try simp only [Act.put, List.setIfInBounds_toArray, List.set_cons_zero, List.set_cons_succ])
      obtain ⟨gb, hgb⟩ : ∃ gb, wr.heap.size = gb := ⟨_, rfl⟩
      rw [hgb]
      obtain ⟨wq, hwq⟩ : ∃ wq, wr.alloc (.cells #[.int .i64 x.f0, .int .i64 x.f1] 41) = wq := ⟨_, rfl⟩
      rw [hwq]
      have HB1 := Aside0.mk (hwq ▸ below_alloc HB0.out _ : Below wr.heap.size wr wq)
      have BK := Aside0.mk (hgb ▸ hwq ▸ heap_alloc_new wr _ : wq.heap[gb]? = some (.cells #[.int .i64 x.f0, .int .i64 x.f1] 41 (0, 0)))
      have GEB := Aside0.mk (hgb ▸ HB.out.size : w.heap.size ≤ gb)
      have n0_ := Aside0.mk (below_step HB.out HB1.out)
      have n1_ := Aside0.mk (blk_below HT.out HB1.out)
      have n2_ := Aside0.mk (HM.out.below HB1.out)
      have n3_ := Aside0.mk (Kd.R_below HO.out HB1.out)
      clear hgb hwq HB HT HM HO HB0 HB1 hx_0 hx_1
      have HB := n0_; have HT := n1_; have HM := n2_; have HO := n3_
      clear n0_ n1_ n2_ n3_
      have hb_0 : wq.cell? ⟨gb, 0, none⟩ = some (.int .i64 x.f0) := (blk_cell BK.out 0).trans rfl
      have hb_1 : wq.cell? ⟨gb, 1, none⟩ = some (.int .i64 x.f1) := (blk_cell BK.out 1).trans rfl
      have hlook : ∀ W, Below wq.heap.size wq W → (Instr.lookup 92 (.map (some m)) (.int .i64 x.f0) false).run Try.prog W = .ok (.bool (met x.f0)) W := fun W hW => (HM.out.below hW).lookup Try.underlying92 Try.underlying3 x.f0 (by first | rfl | (go_simp; done))
      have HLK := Aside0.mk hlook
      clear hlook
      obtain ⟨bm, hbm⟩ : ∃ bm, met x.f0 = bm := ⟨_, rfl⟩
      rw [hbm] at HLK HH
      have HBM := Aside0.mk hbm
      clear hbm
      obtain ⟨bz, hbz⟩ : ∃ bz, (!bs || decide (x.f1 < 1) || decide (1000 < x.f1) || bm) = bz := ⟨_, rfl⟩
      rw [hbz] at HH
      have HBZ := Aside0.mk hbz
      clear hbz
      go_cut [56] (fun v56 wc => ∃ b, v56 = .bool b ∧ Aside0 (b = bz) ∧ Aside0 (wc.heap[gb]? = some (.cells #[.int .i64 x.f0, .int .i64 x.f1] 41 (0, 0))) ∧ Aside0 (Kd.R (Kd.int .i64) 3 wc w.heap.size (fun _ => True) (.slice Al left0.length cl) left) ∧ Aside0 (SetM wc m met) ∧ Aside0 (wc.heap[gt]? = some (.cells #[.int .i64 a0, .slice A1 l1.length c1, .map mr] 70 (0, 0))) ∧ Aside0 (Below w.heap.size w wc))
      case first =>
        cases bs with
        | false =>
          go_wp2_with (first | (go_at_call 58; (refine (branch_town_isSet.calls gt a0 A1 c1 l1 mr x.f0 _ _ HT.out (Kd.C_below HR1.out HB.out) HC1.out HBS.out).mono ?_); rintro e w5 ⟨rfl, hdr⟩; obtain ⟨n_, hw5⟩ := hdr.out; have hb : Below wq.heap.size wq w5 := (by rw [hw5]; exact pw_below_drewN (Below.refl _ _) n_); clear hw5 hdr; have n0_ := Aside0.mk (Kd.R_below HO.out hb); have n1_ := Aside0.mk (blk_below HT.out hb); have n2_ := Aside0.mk (HM.out.below hb); have n3_ := Aside0.mk (below_step HB.out hb); have n4_ := Aside0.mk (blk_below BK.out hb); have hlk := HLK.out w5 hb; clear HO HT HM HB BK hb hb_0 hb_1; have HO := n0_; have HT := n1_; have HM := n2_; have HB := n3_; have BK := n4_; clear n0_ n1_ n2_ n3_ n4_; have hb_0 : w5.cell? ⟨gb, 0, none⟩ = some (.int .i64 x.f0) := (blk_cell BK.out 0).trans rfl; have hb_1 : w5.cell? ⟨gb, 1, none⟩ = some (.int .i64 x.f1) := (blk_cell BK.out 1).trans rfl))
          go_meet
          case rel => exact ⟨_, rfl, ⟨by rw [← HBZ.out]; simp only [Bool.not_false, Bool.true_or]; first | done | rfl | simp⟩, BK, HO, HM, HT, HB⟩
        | true =>
          by_cases t0 : x.f1 < 1
          · have s0 : decide (x.f1 < 1) = true := decide_eq_true t0
            clear t0
            go_wp2_with (first | (go_at_call 58; (refine (branch_town_isSet.calls gt a0 A1 c1 l1 mr x.f0 _ _ HT.out (Kd.C_below HR1.out HB.out) HC1.out HBS.out).mono ?_); rintro e w5 ⟨rfl, hdr⟩; obtain ⟨n_, hw5⟩ := hdr.out; have hb : Below wq.heap.size wq w5 := (by rw [hw5]; exact pw_below_drewN (Below.refl _ _) n_); clear hw5 hdr; have n0_ := Aside0.mk (Kd.R_below HO.out hb); have n1_ := Aside0.mk (blk_below HT.out hb); have n2_ := Aside0.mk (HM.out.below hb); have n3_ := Aside0.mk (below_step HB.out hb); have n4_ := Aside0.mk (blk_below BK.out hb); have hlk := HLK.out w5 hb; clear HO HT HM HB BK hb hb_0 hb_1; have HO := n0_; have HT := n1_; have HM := n2_; have HB := n3_; have BK := n4_; clear n0_ n1_ n2_ n3_ n4_; have hb_0 : w5.cell? ⟨gb, 0, none⟩ = some (.int .i64 x.f0) := (blk_cell BK.out 0).trans rfl; have hb_1 : w5.cell? ⟨gb, 1, none⟩ = some (.int .i64 x.f1) := (blk_cell BK.out 1).trans rfl))
            go_meet
            case rel => exact ⟨_, rfl, ⟨by rw [← HBZ.out]; simp only [Bool.not_true, Bool.false_or, Bool.or_true, Bool.true_or, s0]; first | done | rfl | simp⟩, BK, HO, HM, HT, HB⟩
          have s0 : decide (x.f1 < 1) = false := decide_eq_false t0
          clear t0
          by_cases t1 : 1000 < x.f1
          · have s1 : decide (1000 < x.f1) = true := decide_eq_true t1
            clear t1
            go_wp2_with (first | (go_at_call 58; (refine (branch_town_isSet.calls gt a0 A1 c1 l1 mr x.f0 _ _ HT.out (Kd.C_below HR1.out HB.out) HC1.out HBS.out).mono ?_); rintro e w5 ⟨rfl, hdr⟩; obtain ⟨n_, hw5⟩ := hdr.out; have hb : Below wq.heap.size wq w5 := (by rw [hw5]; exact pw_below_drewN (Below.refl _ _) n_); clear hw5 hdr; have n0_ := Aside0.mk (Kd.R_below HO.out hb); have n1_ := Aside0.mk (blk_below HT.out hb); have n2_ := Aside0.mk (HM.out.below hb); have n3_ := Aside0.mk (below_step HB.out hb); have n4_ := Aside0.mk (blk_below BK.out hb); have hlk := HLK.out w5 hb; clear HO HT HM HB BK hb hb_0 hb_1; have HO := n0_; have HT := n1_; have HM := n2_; have HB := n3_; have BK := n4_; clear n0_ n1_ n2_ n3_ n4_; have hb_0 : w5.cell? ⟨gb, 0, none⟩ = some (.int .i64 x.f0) := (blk_cell BK.out 0).trans rfl; have hb_1 : w5.cell? ⟨gb, 1, none⟩ = some (.int .i64 x.f1) := (blk_cell BK.out 1).trans rfl))
            go_meet
            case rel => exact ⟨_, rfl, ⟨by rw [← HBZ.out]; simp only [Bool.not_true, Bool.false_or, Bool.or_true, Bool.true_or, s0, s1]; first | done | rfl | simp⟩, BK, HO, HM, HT, HB⟩
          have s1 : decide (1000 < x.f1) = false := decide_eq_false t1
          clear t1
          cases bm with
          | true =>
            go_wp2_with (first | (go_at_call 58; (refine (branch_town_isSet.calls gt a0 A1 c1 l1 mr x.f0 _ _ HT.out (Kd.C_below HR1.out HB.out) HC1.out HBS.out).mono ?_); rintro e w5 ⟨rfl, hdr⟩; obtain ⟨n_, hw5⟩ := hdr.out; have hb : Below wq.heap.size wq w5 := (by rw [hw5]; exact pw_below_drewN (Below.refl _ _) n_); clear hw5 hdr; have n0_ := Aside0.mk (Kd.R_below HO.out hb); have n1_ := Aside0.mk (blk_below HT.out hb); have n2_ := Aside0.mk (HM.out.below hb); have n3_ := Aside0.mk (below_step HB.out hb); have n4_ := Aside0.mk (blk_below BK.out hb); have hlk := HLK.out w5 hb; clear HO HT HM HB BK hb hb_0 hb_1; have HO := n0_; have HT := n1_; have HM := n2_; have HB := n3_; have BK := n4_; clear n0_ n1_ n2_ n3_ n4_; have hb_0 : w5.cell? ⟨gb, 0, none⟩ = some (.int .i64 x.f0) := (blk_cell BK.out 0).trans rfl; have hb_1 : w5.cell? ⟨gb, 1, none⟩ = some (.int .i64 x.f1) := (blk_cell BK.out 1).trans rfl))
            go_meet
            case rel => exact ⟨_, rfl, ⟨by rw [← HBZ.out]; simp only [Bool.not_true, Bool.false_or, Bool.or_true, s0, s1]; first | done | rfl | simp⟩, BK, HO, HM, HT, HB⟩
          | false =>
            go_wp2_with (first | (go_at_call 58; (refine (branch_town_isSet.calls gt a0 A1 c1 l1 mr x.f0 _ _ HT.out (Kd.C_below HR1.out HB.out) HC1.out HBS.out).mono ?_); rintro e w5 ⟨rfl, hdr⟩; obtain ⟨n_, hw5⟩ := hdr.out; have hb : Below wq.heap.size wq w5 := (by rw [hw5]; exact pw_below_drewN (Below.refl _ _) n_); clear hw5 hdr; have n0_ := Aside0.mk (Kd.R_below HO.out hb); have n1_ := Aside0.mk (blk_below HT.out hb); have n2_ := Aside0.mk (HM.out.below hb); have n3_ := Aside0.mk (below_step HB.out hb); have n4_ := Aside0.mk (blk_below BK.out hb); have hlk := HLK.out w5 hb; clear HO HT HM HB BK hb hb_0 hb_1; have HO := n0_; have HT := n1_; have HM := n2_; have HB := n3_; have BK := n4_; clear n0_ n1_ n2_ n3_ n4_; have hb_0 : w5.cell? ⟨gb, 0, none⟩ = some (.int .i64 x.f0) := (blk_cell BK.out 0).trans rfl; have hb_1 : w5.cell? ⟨gb, 1, none⟩ = some (.int .i64 x.f1) := (blk_cell BK.out 1).trans rfl))
            go_meet
            case rel => exact ⟨_, rfl, ⟨by rw [← HBZ.out]; simp only [Bool.not_true, Bool.false_or, Bool.or_false, s0, s1]; first | done | rfl | simp⟩, BK, HO, HM, HT, HB⟩
      case rest =>
        clear BK HO HT HM HB hb_0 hb_1 HLK
        obtain ⟨b, rfl, hbb, BK, HO, HM, HT, HB⟩ := hcut
        obtain rfl := hbb.out
        clear hbb HBZ
        have hh := HH.out
        clear HH
        cases b with
        | true =>
          rw [if_pos rfl] at hh
          simp only [Option.some.injEq, Prod.mk.injEq] at hh
          obtain ⟨rfl, rfl, rfl⟩ := hh
          go_wp2
          go_ret3
          exact ⟨by first | rfl | (simp; done), HB.out⟩
        | false =>
          rw [if_neg (by decide)] at hh
          obtain ⟨E, hE, hh⟩ := Option.bind_eq_some_iff.1 hh
          by_cases hEl : E.length < 17592186044416
          case neg => rw [if_neg hEl] at hh; exact absurd hh (by simp)
          rw [if_pos hEl] at hh
          obtain ⟨o, ho, hh⟩ := Option.bind_eq_some_iff.1 hh
          have HEL := Aside0.mk hEl
          have HEE := Aside0.mk hE
          have HTK := Aside0.mk ho
          have HH := Aside0.mk hh
          clear hEl hE ho hh
          have hb_0 : wc.cell? ⟨gb, 0, none⟩ = some (.int .i64 x.f0) := (blk_cell BK.out 0).trans rfl
          have hb_1 : wc.cell? ⟨gb, 1, none⟩ = some (.int .i64 x.f1) := (blk_cell BK.out 1).trans rfl
          go_wp2_with (first | (at_mapUpdate; refine update_event HM.out Try.underlying92 Try.underlying3 rfl _ _ _ rfl (i := x.f0) rfl rfl rfl ?_; intro w6 hm6 hg6; have n0_ := Aside0.mk (Kd.R_map HO.out HM.out hg6); have n1_ := Aside0.mk (blk_grown HT.out hg6 (by have := HM.out.ne_cells HT.out; intro h; injection h with h; exact this h.symm)); have n2_ := Aside0.mk (blk_grown BK.out hg6 (by have := HM.out.ne_cells BK.out; intro h; injection h with h; exact this h.symm)); have n3_ := Aside0.mk (HB.out.grown hg6 HB.out.size (fun j hj => by cases hj; exact GM.out)); clear HO HT BK HB HM hb_0 hb_1; have HO := n0_; have HT := n1_; have BK := n2_; have HB := n3_; have HM := Aside0.mk hm6; clear n0_ n1_ n2_ n3_ hm6 hg6; have hb_0 : w6.cell? ⟨gb, 0, none⟩ = some (.int .i64 x.f0) := (blk_cell BK.out 0).trans rfl; have hb_1 : w6.cell? ⟨gb, 1, none⟩ = some (.int .i64 x.f1) := (blk_cell BK.out 1).trans rfl) | (go_at_call 59; (refine (branch_town_entering.calls k gt a0 A1 c1 l1 mr x.f0 E _ HT.out (Kd.C_below HR1.out HB.out) HC1.out HEE.out).mono ?_); rintro e w7 ⟨ve, rfl, hoe, hb⟩; obtain ⟨Ae, ce, rfl⟩ := Kd.R_slice hoe; have hlt := Kd.R_lt HO.out; obtain ⟨nb, hnb⟩ : ∃ nb, w6.heap.size = nb := ⟨_, rfl⟩; rw [hnb] at hoe hlt; have HE := Aside0.mk hoe; have HLT := Aside0.mk hlt; have n0_ := Aside0.mk (Kd.R_below HO.out hb); have n1_ := Aside0.mk (blk_below HT.out hb); have n2_ := Aside0.mk (HM.out.below hb); have n3_ := Aside0.mk (below_step HB.out hb); have n4_ := Aside0.mk (blk_below BK.out hb); clear HO HT HM HB BK hb hb_0 hb_1 hoe hlt hnb; have HO := n0_; have HT := n1_; have HM := n2_; have HB := n3_; have BK := n4_; clear n0_ n1_ n2_ n3_ n4_; have hb_0 : w7.cell? ⟨gb, 0, none⟩ = some (.int .i64 x.f0) := (blk_cell BK.out 0).trans rfl; have hb_1 : w7.cell? ⟨gb, 1, none⟩ = some (.int .i64 x.f1) := (blk_cell BK.out 1).trans rfl))
          go_loopg [65] E.length (fun kq v65 w' => ∃ (j : Nat) (lf : List Int), v65 = .int .i64 (j : Int) ∧ Aside0 (j + kq = E.length) ∧ Aside0 (takeB lf (E.drop j) x.f1 = some o) ∧ Aside0 (Kd.R (Kd.int .i64) 3 w' w.heap.size (fun _ => True) (.slice Al left0.length cl) lf) ∧ Aside0 (Kd.R (Kd.int .i64) 3 w' nb (fun _ => True) (.slice Ae E.length ce) E) ∧ Aside0 (SetM w' m (fun j => decide (j = x.f0) || met j)) ∧ Aside0 (w'.heap[gt]? = some (.cells #[.int .i64 a0, .slice A1 l1.length c1, .map mr] 70 (0, 0))) ∧ Aside0 (w'.heap[gb]? = some (.cells #[.int .i64 x.f0, .int .i64 x.f1] 41 (0, 0))) ∧ Aside0 (Below w.heap.size w w'))
          case atStart => exact ⟨0, left, rfl, ⟨by simp⟩, ⟨HTK.out⟩, ⟨by (with_reducible repeat (first | apply Kd.R_alloc | apply Kd.R_drewN | apply Kd.R_drew)); exact HO.out⟩, ⟨by (with_reducible repeat (first | apply Kd.R_alloc | apply Kd.R_drewN | apply Kd.R_drew)); exact HE.out⟩, HM, ⟨by (with_reducible repeat (first | refine blk_drewN ?_ _ | refine blk_drew ?_ | refine blk_alloc ?_ _)); exact HT.out⟩, ⟨by (with_reducible repeat (first | refine blk_drewN ?_ _ | refine blk_drew ?_ | refine blk_alloc ?_ _)); exact BK.out⟩, ⟨by repeat (first | (with_reducible first | exact HB.out | apply below_alloc | apply pw_below_drewN | apply below_drew1) | exact HB.out)⟩⟩
          case round =>
            clear HO HM HT HB BK HE hb_0 hb_1 HTK
            obtain ⟨j, lf, rfl, HJ, HTK, HO, HE, HM, HT, BK, HB⟩ := hrel
            have hb_0 : wr.cell? ⟨gb, 0, none⟩ = some (.int .i64 x.f0) := (blk_cell BK.out 0).trans rfl
            have hb_1 : wr.cell? ⟨gb, 1, none⟩ = some (.int .i64 x.f1) := (blk_cell BK.out 1).trans rfl
            cases gk with
            | zero =>
              have hj := HJ.out
              have d4b : decide ((j : Int) < (E.length : Int)) = false := decide_eq_false (by omega)
              have d4b2 : decide (j < E.length) = false := decide_eq_false (by omega)
              have hh := HTK.out
              rw [List.drop_eq_nil_of_le (by omega)] at hh
              simp only [takeB, Option.some.injEq] at hh
              subst hh
              clear hj
              go_wp2
              go_roundg k1
              case measure => omega
              case rel => exact ⟨i + 1, lf, _, wrap64 (worth + x.f1), val_succ2 i (by have := HI.out; have := HLEN.out; omega), by first | rfl | (simp; done), ⟨by have := HI.out; omega⟩, ⟨HH.out⟩, ⟨by (with_reducible repeat (first | apply Kd.R_alloc | apply Kd.R_drewN | apply Kd.R_drew)); exact HO.out⟩, ⟨HM.out⟩, ⟨by (with_reducible repeat (first | refine blk_drewN ?_ _ | refine blk_drew ?_ | refine blk_alloc ?_ _)); exact HT.out⟩, ⟨by repeat (first | (with_reducible first | exact HB.out | apply below_alloc | apply pw_below_drewN | apply below_drew1) | exact HB.out)⟩⟩
            | succ k2 =>
              have hj0 : (0 : Int) ≤ (j : Int) := Int.natCast_nonneg _
              have hj1 : (j : Int) < (E.length : Int) := by have := HJ.out; omega
              have d4b : decide ((j : Int) < (E.length : Int)) = true := decide_eq_true hj1
              have hj2 : j < E.length := by omega
              have d4b2 : decide (j < E.length) = true := decide_eq_true hj2
              have hh := HTK.out
              rw [drop_rdI E j hj2] at hh
              obtain ⟨ade, e, hy_0⟩ := Kd.at_int (Kd.R_reads' HE.out).2.2 (j : Int) hj0 hj1
              cases e
              obtain ⟨y, hy⟩ : ∃ y, rd E (j : Int) = y := ⟨_, rfl⟩
              rw [hy] at hy_0 hh
              simp only [Int.toNat_natCast] at hy_0
              clear hy HTK
              replace hj0 := eq_true hj0
              replace hj1 := eq_true hj1
              replace hj2 := eq_true hj2
              unfold takeB at hh
              by_cases hr : 0 ≤ y ∧ y < (lf.length : Int)
              case neg => rw [if_neg hr] at hh; exact absurd hh (by simp)
              rw [if_pos hr] at hh
              obtain ⟨y0, y1⟩ := hr
              have hlen : left0.length = lf.length := (Kd.R_reads' HO.out).1
              obtain ⟨go, cap, eo, gbo, glo, clo, hgo⟩ := Kd.R_form HO.out (by omega)
              injection eo with ea_ en_ ec_
              subst ea_ ec_
              clear en_
              have GO := Aside0.mk gbo
              have GC := Aside0.mk hgo
              have GN := Aside0.mk (HLT.out go rfl)
              have y1' : y < (left0.length : Int) := by rw [hlen]; exact y1
              obtain ⟨hc, hf⟩ := Kd.R_celln 0 HO.out y y0 y1'
              replace hc := (show wr.cell? ⟨go, y.toNat, none⟩ = some (.int .i64 (rd lf y)) from hc)
              have HLE := Aside0.mk hlen
              clear hlen gbo glo hgo y1
              obtain ⟨z, hz⟩ : ∃ z, rd lf y = z := ⟨_, rfl⟩
              rw [hz] at hc hh
              clear hz
              have y0b := eq_true y0
              have y1b := eq_true y1'
              by_cases t3 : z < x.f1
              · rw [if_pos t3] at hh
                have s3 : decide (z < x.f1) = true := decide_eq_true t3
                clear t3
                obtain rfl := Option.some.inj hh
                have h3 := HH.out
                simp only [Option.some.injEq, Prod.mk.injEq] at h3
                obtain ⟨rfl, rfl, rfl⟩ := h3
                go_wp2_with fail
                go_region_held3 (fun w' => w'.cell? ⟨go, y.toNat, none⟩ = some (.int .i64 z) ∧ w'.cell? ⟨gb, 1, none⟩ = some (.int .i64 x.f1)) (go_keep) (fail)
                all_goals go_wp2
                go_ret3
                exact ⟨by first | rfl | (simp; done), by repeat (first | (with_reducible first | exact HB.out | apply below_alloc | apply pw_below_drewN | apply below_drew1) | exact HB.out)⟩
              rw [if_neg t3] at hh
              have s3 : decide (z < x.f1) = false := decide_eq_false t3
              clear t3
              have HTK := Aside0.mk hh
              clear hh
              go_wp2_with fail
              go_region_held3 (fun w' => w'.cell? ⟨go, y.toNat, none⟩ = some (.int .i64 z) ∧ w'.cell? ⟨gb, 1, none⟩ = some (.int .i64 x.f1)) (go_keep) (fail)
              all_goals go_wp2
              have hne : gb ≠ go := blk_ne BK.out GC.out (by decide)
              have hne2 : go ≠ gb := fun h => hne h.symm
              have hnt : gt ≠ go := blk_ne HT.out GC.out (by decide)
              go_region_with (fail)
              all_goals (go_wp2; go_roundg k2; (case measure => omega); (case rel => exact ⟨j + 1, lf.set y.toNat (wrap64 (z - x.f1)), val_succ2 j (by have := HJ.out; have := HEL.out; omega), ⟨by have := HJ.out; omega⟩, HTK, ⟨by (try simp only [i64_w]); (with_reducible repeat (first | apply Kd.R_alloc | apply Kd.R_drewN | apply Kd.R_drew)); exact Kd.R_putn HO.out y (wrap64 (z - x.f1))⟩, ⟨by (with_reducible repeat (first | apply Kd.R_alloc | apply Kd.R_drewN | apply Kd.R_drew)); exact Kd.R_low HE.out GN.out _⟩, ⟨(SetM.set HM.out GC.out _).of_block rfl⟩, ⟨by (with_reducible repeat (first | refine blk_drewN ?_ _ | refine blk_drew ?_ | refine blk_alloc ?_ _)); exact blk_far HT.out hnt _⟩, ⟨by (with_reducible repeat (first | refine blk_drewN ?_ _ | refine blk_drew ?_ | refine blk_alloc ?_ _)); exact blk_far BK.out hne _⟩, ⟨by repeat (first | (with_reducible first | exact HB.out | apply below_alloc | apply pw_below_drewN | apply below_drew1 | refine below_set ?_ GO.out) | exact HB.out)⟩⟩))
end Go.Proofs.Ytpmadffgdfholaa.B
namespace Go.Proofs.Ytpmadffgdfholaa.B
open Go.RowKit Go.MapKept Go.ChangeMaps Go.Proofs.YtpmadffgdfholaaW.PrintWords Go.Proofs.YtpmadffgdfholaaW.PrintLast Go.Proofs.YtpmadffgdfholaaW.PrintMore
/-- Block r ranges over the set g in block m; done: the keys that have come; cnt: how many are still to come. -/
def IterM (w : World) (m r : Nat) (g done : Int → Bool) (cnt : Nat) : Prop :=
  ∃ es clock since seen c0, w.heap[m]? = some (.map es clock) ∧ Good es clock ∧ (∀ e ∈ es.toList, e.val = .bool true) ∧ (∀ i, g i = true ↔ ∃ e ∈ es.toList, e.key = .int .i64 i) ∧
    w.heap[r]? = some (.mapIter (some m) since seen c0) ∧ (∀ x ∈ es.toList, x.born < since) ∧ since ≤ c0 ∧ since ≤ clock ∧ cnt = (leftOf es seen).size ∧
    (∀ e ∈ es.toList, ∀ i, e.key = .int .i64 i → done i = seen.contains e.born) ∧ ∀ i, done i = true → g i = true
theorem IterM.set {w : World} {m r : Nat} {g done : Int → Bool} {cnt : Nat} (h : IterM w m r g done cnt) : SetM w m g := by
  obtain ⟨es, clock, since, seen, c0, hb, hg, hv, hi, _⟩ := h
  exact ⟨es, clock, hb, hg, hv, hi⟩
theorem IterM.lt {w : World} {m r : Nat} {g done : Int → Bool} {cnt : Nat} (h : IterM w m r g done cnt) : r < w.heap.size := by
  obtain ⟨es, clock, since, seen, c0, hb, hg, hv, hi, hr, _⟩ := h
  exact blk_lt hr
theorem IterM.of_blocks {w w1 : World} {m r : Nat} {g done : Int → Bool} {cnt : Nat} (h : IterM w m r g done cnt) (hm : w1.heap[m]? = w.heap[m]?) (hr : w1.heap[r]? = w.heap[r]?) : IterM w1 m r g done cnt := by
  obtain ⟨es, clock, since, seen, c0, hb, hg, hv, hi, hrr, rest⟩ := h
  exact ⟨es, clock, since, seen, c0, hm.trans hb, hg, hv, hi, hr.trans hrr, rest⟩
theorem IterM.ne {w : World} {m r : Nat} {g done : Int → Bool} {cnt : Nat} (h : IterM w m r g done cnt) : r ≠ m := by
  rintro rfl
  obtain ⟨es, clock, since, seen, c0, hb, hg, hv, hi, hr, _⟩ := h
  rw [hb] at hr; injection hr with hr; cases hr
theorem IterM.ne_map {w : World} {m r a : Nat} {g done g2 : Int → Bool} {cnt : Nat} (h : IterM w m r g done cnt) (h2 : SetM w a g2) : r ≠ a := by
  rintro rfl
  obtain ⟨es, clock, since, seen, c0, hb, hg, hv, hi, hr, _⟩ := h
  obtain ⟨es2, clock2, hb2, _⟩ := h2
  rw [hb2] at hr; injection hr with hr; cases hr
theorem IterM.ne_cells {w : World} {m r a : Nat} {g done : Int → Bool} {cnt : Nat} {cs : Array Value} {t : TypeId} {fr : Nat × Nat} (h : IterM w m r g done cnt) (hb : w.heap[a]? = some (.cells cs t fr)) : r ≠ a := by
  rintro rfl
  obtain ⟨es, clock, since, seen, c0, _, hg, hv, hi, hr, _⟩ := h
  rw [hb] at hr; injection hr with hr; cases hr
section
variable {P : Program} {w : World} {m r mt kt et : Nat} {g done : Int → Bool} {cnt : Nat}
theorem SetM.range (h : SetM w m g) (ht : P.underlying mt = some (.map kt et)) :
    ∃ w1 cnt, (Instr.range mt (.map (some m))).run P w = .ok (.pointer (some ⟨w.heap.size, 0, none⟩)) w1 ∧ IterM w1 m w.heap.size g (fun _ => false) cnt ∧ Below w.heap.size w w1 := by
  have hlt := h.lt
  obtain ⟨es, clock, hb, hg, hv, hi⟩ := h
  refine ⟨_, _, run_range_map w mt kt et m es clock ht hb, ⟨es, clock, clock, #[], clock, (Below.heap_alloc w _ m hlt).trans hb, hg, hv, hi, heap_alloc_new w _, hg.old, Nat.le_refl _, Nat.le_refl _, rfl, ?_, ?_⟩, below_alloc (Below.refl _ _) _⟩
  · intro e _ i _; simp
  · intro i h; exact absurd h (by simp)
theorem IterM.next (h : IterM w m r g done cnt) (ty : TypeId) :
    (cnt = 0 ∧ (∀ i, done i = g i) ∧ (Instr.next (.pointer (some ⟨r, 0, none⟩)) false ty).run P w = .ok (.tuple #[.bool false]) w) ∨
    ∃ i w1 cnt1, g i = true ∧ done i = false ∧ (Instr.next (.pointer (some ⟨r, 0, none⟩)) false ty).run P w = .ok (.tuple #[.bool true, .int .i64 i, .bool true]) w1 ∧
      IterM w1 m r g (fun j => decide (j = i) || done j) cnt1 ∧ cnt1 < cnt ∧ w.grownBy w1 (some r) ∧ (Instr.entry (.pointer (some ⟨r, 0, none⟩))).run P w1 = .ok (.tuple #[.int .i64 i, .bool true]) w1 := by
  have hne := h.ne
  obtain ⟨es, clock, since, seen, c0, hb, hg, hv, hi, hr, hold, hsc, hsk, rfl, hd, hdg⟩ := h
  rcases run_next_at (P := P) w ty r m since c0 seen es clock hr hb hold hsc with ⟨h0, hrun⟩ | ⟨e, he, w1, hal, hrun⟩
  · refine .inl ⟨h0, fun i => ?_, hrun⟩
    cases hgi : g i with
    | true =>
      obtain ⟨x, hx, hk⟩ := (hi i).1 hgi
      rw [hd x hx i hk, all_seen es seen h0 x hx]
    | false =>
      cases hdi : done i with
      | false => rfl
      | true => rw [hdg i hdi] at hgi; exact hgi
  · obtain ⟨hem, hes⟩ := mem_left he
    obtain ⟨i, hk⟩ := hg.keys e hem
    have hev := hv e hem
    have hr1 : w1.heap[r]? = some (.mapIter (some m) since seen c0) := by rcases hal with rfl | rfl <;> exact hr
    have hb1 : w1.heap[m]? = some (.map es clock) := by rcases hal with rfl | rfl <;> exact hb
    have hset := heap_set (o' := .mapIter (some m) since (seen.push e.born) clock) hr1
    have hb' : (setBlock w1 r (.mapIter (some m) since (seen.push e.born) clock)).heap[m]? = some (.map es clock) := (hset.2 m (fun e1 => hne e1.symm)).trans hb1
    rw [hk, hev] at hrun
    refine .inr ⟨i, _, _, (hi i).2 ⟨e, hem, hk⟩, by rw [hd e hem i hk]; exact hes, hrun, ⟨es, clock, since, seen.push e.born, clock, hb', hg, hv, hi, hset.1, hold, hsk, hsk, rfl, ?_, ?_⟩, left_shrinks es seen e he, ?_, ?_⟩
    · intro x hx j hj
      show (decide (j = i) || done j) = _
      rw [contains_push, hd x hx j hj]
      by_cases hji : j = i
      · subst hji
        have hxe : x = e := by
          obtain ⟨p, hp⟩ := List.getElem?_of_mem hx
          obtain ⟨q, hq⟩ := List.getElem?_of_mem hem
          have h1 : (es.toList.map (·.key))[p]? = some (.int .i64 j) := by rw [List.getElem?_map, hp]; simp [hj]
          have h2 : (es.toList.map (·.key))[q]? = some (.int .i64 j) := by rw [List.getElem?_map, hq]; simp [hk]
          obtain ⟨l1, _⟩ := List.getElem?_eq_some_iff.1 h1
          have hpq := (List.getElem?_inj l1 hg.once).1 (h1.trans h2.symm)
          subst hpq
          rw [hp] at hq; injection hq
        subst hxe
        simp
      · have hbe : (x.born == e.born) = false := by
          rw [beq_eq_false_iff_ne]
          intro hbb
          apply hji
          have hxe : x = e := by
            obtain ⟨p, hp⟩ := List.getElem?_of_mem hx
            obtain ⟨q, hq⟩ := List.getElem?_of_mem hem
            have h1 : (es.toList.map (·.born))[p]? = some x.born := by rw [List.getElem?_map, hp]; rfl
            have h2 : (es.toList.map (·.born))[q]? = some x.born := by rw [List.getElem?_map, hq, hbb]; rfl
            obtain ⟨l1, _⟩ := List.getElem?_eq_some_iff.1 h1
            have hpq := (List.getElem?_inj l1 hg.born).1 (h1.trans h2.symm)
            subst hpq
            rw [hp] at hq; injection hq
          subst hxe
          rw [hj] at hk; injection hk
        rw [hbe]
        simp [hji]
    · intro j hj
      simp only [Bool.or_eq_true, decide_eq_true_eq] at hj
      rcases hj with rfl | hj
      · exact (hi j).2 ⟨e, hem, hk⟩
      · exact hdg j hj
    · rcases hal with rfl | rfl <;> exact ⟨rfl, rfl, rfl, by simp [setBlock], fun i _ hi => hset.2 i (fun e1 => hi (by rw [e1]))⟩
    · have := run_entry_at (P := P) _ r m since seen es clock e hset.1 hb' hem hg.born
      rw [hk, hev] at this
      exact this
/-- The two operations as_ steps of a walk. -/
theorem range_event {ops : Array Oper} {rest : List Oper} {o : Oper} {a : Act} {Q : Exit → Act → World → Prop} (hM : SetM w m g) (ht : P.underlying mt = some (.map kt et)) (hg : o.guard = none) (mo : Operand) (hop : o.op = Op.range mt mo) (hm : a.eval mo = .map (some m))
    (hK : ∀ r w1 cnt, w.heap.size ≤ r → IterM w1 m r g (fun _ => false) cnt → Below w.heap.size w w1 → wpList P ops Q rest (a.put o.dst (.pointer (some ⟨r, 0, none⟩))) w1) : wpList P ops Q (o :: rest) a w := by
  refine wpList_plain hg fun K' hK' => ?_
  obtain ⟨w1, cnt, hrun, h1, h2⟩ := hM.range ht
  unfold Oper.wp
  simp [execOp, hop, hm, hrun, Result.andThen]
  exact hK' _ _ (hK _ _ _ (Nat.le_refl _) h1 h2)
theorem next_event {ops : Array Oper} {rest : List Oper} {o : Oper} {a : Act} {Q : Exit → Act → World → Prop} (hI : IterM w m r g done cnt) (hg : o.guard = none) (it : Operand) (hop : o.op = Op.next it false) (hm : a.eval it = .pointer (some ⟨r, 0, none⟩))
    (hD : cnt = 0 → (∀ i, done i = g i) → wpList P ops Q rest (a.put o.dst (.tuple #[.bool false])) w)
    (hK : ∀ i w1 cnt1, g i = true → done i = false → IterM w1 m r g (fun j => decide (j = i) || done j) cnt1 → cnt1 < cnt → w.grownBy w1 (some r) → (Instr.entry (.pointer (some ⟨r, 0, none⟩))).run P w1 = .ok (.tuple #[.int .i64 i, .bool true]) w1 →
      wpList P ops Q rest (a.put o.dst (.tuple #[.bool true, .int .i64 i, .bool true])) w1) : wpList P ops Q (o :: rest) a w := by
  refine wpList_plain hg fun K' hK' => ?_
  unfold Oper.wp
  rcases hI.next (P := P) o.type with ⟨h0, hd, hrun⟩ | ⟨i, w1, cnt1, h1, h2, hrun, h3, h4, h5, h6⟩
  · simp [execOp, hop, hm, hrun, Result.andThen]
    exact hK' _ _ (hD h0 hd)
  · simp [execOp, hop, hm, hrun, Result.andThen]
    exact hK' _ _ (hK i w1 cnt1 h1 h2 h3 h4 h5 h6)
end
end Go.Proofs.Ytpmadffgdfholaa.B
namespace Go.Proofs.Ytpmadffgdfholaa.B
open Go.RowKit Go.Proofs.YtpmadffgdfholaaW.PrintWords Go.Proofs.YtpmadffgdfholaaW.PrintLast Go.Proofs.YtpmadffgdfholaaW.PrintMore
attribute [local go_sem] max2_int min2_int max_two min_two max_three min_three max_four min_four   -- for this text's walks alone
set_option linter.unusedVariables false
set_option linter.unusedSimpArgs false
def branch_town_alone_1.f (a0 : Int) (l1_0 : List Int) (a2_0 : (Int → Option Bool)) : Option (Bool) := if 0 ≤ a0 then (if a0 < (l1_0.length : Int) then (if (rd l1_0 a0) = 0 then ((a2_0 a0).bind fun t104 => (some (!t104))) else (some false)) else (none)) else (none)
set_option maxHeartbeats 8000000 in
set_option maxRecDepth 100000 in
theorem branch_town_alone_1.calls (a0 : Int) (g1 : Nat) (A1_0 : Option Addr) (c1_0 : Nat) (l1_0 : List Int) (g2 : Nat) (vf2_0 : Value) (a2_0 : (Int → Option Bool)) (r : Bool) (w : World) (hP1 : w.heap[g1]? = some (.cells #[.slice A1_0 l1_0.length c1_0] 28 (0, 0))) (hr1_0 : Kd.C (Kd.int .i64) w A1_0 l1_0.length l1_0) (hc1_0 : l1_0.length ≤ c1_0) (hP2 : w.heap[g2]? = some (.cells #[vf2_0] 75 (0, 0))) (hF2_0 : IsFn Try.prog w vf2_0 a2_0) (h : branch_town_alone_1.f a0 l1_0 a2_0 = some r) :
    Calls Try.prog 79 #[.int .i64 a0, .pointer (some ⟨g1, 0, none⟩), .pointer (some ⟨g2, 0, none⟩)] w fun e w' => e = .returned (.bool r) ∧ Below w.heap.size w w' := by
  have HP1 := Aside0.mk hP1
  clear hP1
  have HR1_0 := Aside0.mk hr1_0
  have HC1_0 := Aside0.mk hc1_0
  clear hr1_0 hc1_0
  have HP2 := Aside0.mk hP2
  clear hP2
  have HF2_0 := Aside0.mk hF2_0
  clear hF2_0
  have HB := Aside0.mk (Below.refl w.heap.size w)
  have H : (if 0 ≤ a0 then (if a0 < (l1_0.length : Int) then (if (rd l1_0 a0) = 0 then ((a2_0 a0).bind fun t104 => (some (!t104))) else (some false)) else (none)) else (none)) = some r := h
  clear h
  by_cases c4 : 0 ≤ a0
  · rw [if_pos c4] at H
    have c4b0 : decide (0 ≤ a0) = true := decide_eq_true c4
    clear c4
    by_cases c5 : a0 < (l1_0.length : Int)
    · rw [if_pos c5] at H
      have c5b0 : decide (a0 < (l1_0.length : Int)) = true := decide_eq_true c5
      clear c5
      by_cases c6 : (rd l1_0 a0) = 0
      · rw [if_pos c6] at H
        have c6b0 : ((rd l1_0 a0) == 0) = true := beq_iff_eq.mpr c6
        have c6b1 : ((rd l1_0 a0) != 0) = false := bne_eq_false_iff_eq.mpr c6
        clear c6
        replace H := Option.bind_eq_some_iff.mp H
        obtain ⟨t104, A70, H⟩ := H
        replace H : (some (!t104)) = some r := H
        have A7 := Aside0.mk A70
        clear A70
        obtain rfl := Option.some.inj H
        have hx101_0 := blk_cell HP1.out 0
        replace hx101_0 := hx101_0.trans rfl
        have p102 : 0 ≤ (a0 : Int) := of_decide_eq_true (by first | (with_reducible assumption) | assumption)
        have q102 : a0 < (l1_0.length : Int) := of_decide_eq_true (by first | (with_reducible assumption) | assumption)
        obtain ⟨ad102, e102, hx102_0⟩ := Kd.at_int HR1_0.out a0 p102 q102
        cases e102
        replace p102 := eq_true p102
        replace q102 := eq_true q102
        have hx103_0 := blk_cell HP2.out 0
        replace hx103_0 := hx103_0.trans rfl
        go_enter Try.func79, Try.ntmps79
        go_wp2_with (first | ((with_reducible refine gate_dst (N := 13) rfl ?_); (try (refine gate_guard (by rfl) ?_; dsimp only)); refine goesF_ (some 13) rfl rfl HF2_0.out rfl rfl (i := a0) rfl ?sideB A7.out ?_; (case sideB => exact by repeat (first | (with_reducible first | exact HB.out | apply below_alloc | apply pw_below_drewN | apply below_drew1) | exact HB.out)); intro w8 hb; have n0_ := Aside0.mk (below_step (by repeat (first | (with_reducible first | exact HB.out | apply below_alloc | apply pw_below_drewN | apply below_drew1) | exact HB.out)) hb); clear HB; have HB := n0_; clear n0_; (try clear hb); (try clear hb2); (try clear hk); (try clear hi)))
        go_ret
        exact ⟨by first | rfl | (simp [errW_none, errW_some] <;> rfl) | (simp [*, errW_none, errW_some] <;> rfl), by repeat (first | (with_reducible first | exact HB.out | apply below_alloc | apply pw_below_drewN | apply below_drew1) | exact HB.out)⟩
      · rw [if_neg c6] at H
        have c6b0 : ((rd l1_0 a0) == 0) = false := beq_eq_false_iff_ne.mpr c6
        have c6b1 : ((rd l1_0 a0) != 0) = true := bne_iff_ne.mpr c6
        obtain rfl := Option.some.inj H
        have hx101_0 := blk_cell HP1.out 0
        replace hx101_0 := hx101_0.trans rfl
        have p102 : 0 ≤ (a0 : Int) := of_decide_eq_true (by first | (with_reducible assumption) | assumption)
        have q102 : a0 < (l1_0.length : Int) := of_decide_eq_true (by first | (with_reducible assumption) | assumption)
        obtain ⟨ad102, e102, hx102_0⟩ := Kd.at_int HR1_0.out a0 p102 q102
        cases e102
        replace p102 := eq_true p102
        replace q102 := eq_true q102
        go_enter Try.func79, Try.ntmps79
        go_wp2
        go_ret
        exact ⟨by first | rfl | (simp [errW_none, errW_some] <;> rfl) | (simp [*, errW_none, errW_some] <;> rfl), by repeat (first | (with_reducible first | exact HB.out | apply below_alloc | apply pw_below_drewN | apply below_drew1) | exact HB.out)⟩
    · rw [if_neg c5] at H
      exact absurd H (by simp)
  · rw [if_neg c4] at H
    exact absurd H (by simp)
mutual
def branch_town_alone_2.l0 : Nat → Int → Int → Int → Int → List (S30) → (Int → Option Bool) → Option (Int)
  | 0, _, _, _, _, _, _ => none
  | k + 1, x5, x13, x14, x2000, x2001, x3000 => if x14 < x13 then (branch_town_alone_2.l1 k x5 x13 x14 x2001 (x2001.length : Int) 0 x2000 x2001 x3000) else (some x5)
def branch_town_alone_2.l1 : Nat → Int → Int → Int → List (S30) → Int → Int → Int → List (S30) → (Int → Option Bool) → Option (Int)
  | 0, _, _, _, _, _, _, _, _, _ => none
  | k + 1, x5, x13, x14, x19, x20, x21, x2000, x2001, x3000 => if x21 < x20 then (if 0 ≤ x21 then (if x21 < (x19.length : Int) then ((x3000 x21).bind fun t112 => (if t112 = true then (if 0 ≤ ((rd_T30 x19 x21).f0) then (if (Go.bits .and .i64 (shr .i64 x5 ((rd_T30 x19 x21).f0)) 1) = 1 then (if 0 ≤ ((rd_T30 x19 x21).f1) then (branch_town_alone_2.l1 k (Go.bits .or .i64 x5 (shl .i64 1 ((rd_T30 x19 x21).f1))) x13 x14 x19 x20 (wrap64 (x21 + 1)) x2000 x2001 x3000) else (none)) else (branch_town_alone_2.l1 k x5 x13 x14 x19 x20 (wrap64 (x21 + 1)) x2000 x2001 x3000)) else (none)) else (branch_town_alone_2.l1 k x5 x13 x14 x19 x20 (wrap64 (x21 + 1)) x2000 x2001 x3000))) else (none)) else (none)) else (branch_town_alone_2.l0 k x5 x13 (wrap64 (x14 + 1)) x2000 x2001 x3000)
end
def branch_town_alone_2.f (k : Nat) (a0 : Int) (a1_0 : Int) (l1_1 : List (S30)) (a2_0 : (Int → Option Bool)) : Option (Int) := if 0 ≤ a0 then (branch_town_alone_2.l0 k (shl .i64 1 a0) a1_0 0 a1_0 l1_1 a2_0) else (none)
theorem branch_town_alone_2.mono_l : ∀ k, (∀ y0 y1 y2 y3 y4 y5, LeO (branch_town_alone_2.l0 k y0 y1 y2 y3 y4 y5) (branch_town_alone_2.l0 (k + 1) y0 y1 y2 y3 y4 y5)) ∧ (∀ y0 y1 y2 y3 y4 y5 y6 y7 y8, LeO (branch_town_alone_2.l1 k y0 y1 y2 y3 y4 y5 y6 y7 y8) (branch_town_alone_2.l1 (k + 1) y0 y1 y2 y3 y4 y5 y6 y7 y8))
  | 0 => ⟨fun _ _ _ _ _ _ r h => by simp [branch_town_alone_2.l0] at h, fun _ _ _ _ _ _ _ _ _ r h => by simp [branch_town_alone_2.l1] at h⟩
  | k + 1 => by
    obtain ⟨ih0, ih1⟩ := branch_town_alone_2.mono_l k
    refine ⟨?_, ?_⟩
    · intro y0 y1 y2 y3 y4 y5
      unfold branch_town_alone_2.l0
      repeat' first
      | (with_reducible exact ih0 _ _ _ _ _ _)
      | (with_reducible exact ih1 _ _ _ _ _ _ _ _ _)
      | (with_reducible exact LeO.refl _)
      | (with_reducible exact LeO.none _)
      | (with_reducible refine LeO.ite ?_ ?_)
      | (with_reducible refine LeO.bind ?_ (fun _ => ?_))
      | exact ih0 _ _ _ _ _ _
      | exact ih1 _ _ _ _ _ _ _ _ _
      | exact LeO.none _
      | refine LeO.ite ?_ ?_
      | refine LeO.bind ?_ (fun _ => ?_)
    · intro y0 y1 y2 y3 y4 y5 y6 y7 y8
      unfold branch_town_alone_2.l1
      repeat' first
      | (with_reducible exact ih0 _ _ _ _ _ _)
      | (with_reducible exact ih1 _ _ _ _ _ _ _ _ _)
      | (with_reducible exact LeO.refl _)
      | (with_reducible exact LeO.none _)
      | (with_reducible refine LeO.ite ?_ ?_)
      | (with_reducible refine LeO.bind ?_ (fun _ => ?_))
      | exact ih0 _ _ _ _ _ _
      | exact ih1 _ _ _ _ _ _ _ _ _
      | exact LeO.none _
      | refine LeO.ite ?_ ?_
      | refine LeO.bind ?_ (fun _ => ?_)
theorem branch_town_alone_2.mono : ∀ a0 a1 a2 a3 k, LeO (branch_town_alone_2.f k a0 a1 a2 a3) (branch_town_alone_2.f (k + 1) a0 a1 a2 a3) := by
  intro a0 a1 a2 a3 k
  obtain ⟨ih0, ih1⟩ := branch_town_alone_2.mono_l k
  unfold branch_town_alone_2.f
  repeat' first
      | (with_reducible exact ih0 _ _ _ _ _ _)
      | (with_reducible exact ih1 _ _ _ _ _ _ _ _ _)
      | (with_reducible exact LeO.refl _)
      | (with_reducible exact LeO.none _)
      | (with_reducible refine LeO.ite ?_ ?_)
      | (with_reducible refine LeO.bind ?_ (fun _ => ?_))
      | exact ih0 _ _ _ _ _ _
      | exact ih1 _ _ _ _ _ _ _ _ _
      | exact LeO.none _
      | refine LeO.ite ?_ ?_
      | refine LeO.bind ?_ (fun _ => ?_)
set_option maxHeartbeats 8000000 in
set_option maxRecDepth 100000 in
theorem branch_town_alone_2.calls (k : Nat) (a0 : Int) (g1 : Nat) (gg1 : Nat) (a1_0 : Int) (A1_1 : Option Addr) (c1_1 : Nat) (l1_1 : List (S30)) (a1_2 : Option Nat) (g2 : Nat) (vf2_0 : Value) (a2_0 : (Int → Option Bool)) (r : Int) (w : World) (hP1 : w.heap[g1]? = some (.cells #[.pointer (some ⟨gg1, 0, none⟩)] 65 (0, 0))) (hQ1 : w.heap[gg1]? = some (.cells #[.int .i64 a1_0, .slice A1_1 l1_1.length c1_1, .map a1_2] 70 (0, 0))) (hr1_1 : Kd.C k30 w A1_1 l1_1.length l1_1) (hc1_1 : l1_1.length ≤ c1_1) (hP2 : w.heap[g2]? = some (.cells #[vf2_0] 75 (0, 0))) (hF2_0 : IsFn Try.prog w vf2_0 a2_0) (h : branch_town_alone_2.f k a0 a1_0 l1_1 a2_0 = some r) :
    Calls Try.prog 80 #[.int .i64 a0, .pointer (some ⟨g1, 0, none⟩), .pointer (some ⟨g2, 0, none⟩)] w fun e w' => e = .returned (.int .i64 r) ∧ Below w.heap.size w w' := by
  have hu65 := Try.underlying65
  have hu30 := Try.underlying30
  have HP1 := Aside0.mk hP1
  clear hP1
  have HQ1 := Aside0.mk hQ1
  clear hQ1
  have HR1_1 := Aside0.mk hr1_1
  have HC1_1 := Aside0.mk hc1_1
  clear hr1_1 hc1_1
  have HP2 := Aside0.mk hP2
  clear hP2
  have HF2_0 := Aside0.mk hF2_0
  clear hF2_0
  have HB := Aside0.mk (Below.refl w.heap.size w)
  have H : (if 0 ≤ a0 then (branch_town_alone_2.l0 k (shl .i64 1 a0) a1_0 0 a1_0 l1_1 a2_0) else (none)) = some r := h
  clear h
  by_cases c4 : 0 ≤ a0
  · rw [if_pos c4] at H
    have c4b0 := eq_true c4
    have c4b1 : decide (0 ≤ a0) = true := decide_eq_true c4
    clear c4
    obtain ⟨ji5, hji5⟩ : ∃ j_ : Int, (shl .i64 1 a0) = j_ := ⟨_, rfl⟩
    replace H : (branch_town_alone_2.l0 k ji5 a1_0 0 a1_0 l1_1 a2_0) = some r := by first | (rw [hji5] at H; exact H) | (simp only [hji5] at H ⊢; exact H)
    have hji5_ : (IntKind.i64.wrap (1 * 2 ^ min a0.toNat 64)) = ji5 := hji5
    have hji5z : a0 ≤ 64 → (IntKind.i64.wrap (1 * 2 ^ a0.toNat)) = ji5 := shl_small hji5
    have hji5u : (IntKind.i64.wrap (2 ^ min a0.toNat 64)) = ji5 := by have h_ := hji5_; rw [Int.one_mul] at h_; exact h_
    have hji5v : a0 ≤ 64 → (IntKind.i64.wrap (2 ^ a0.toNat)) = ji5 := fun hle_ => by have h_ := hji5z hle_; rw [Int.one_mul] at h_; exact h_
    have hji5y : (wrap64 (1 * 2 ^ min a0.toNat 64)) = ji5 := (i64_w _).symm.trans hji5_
    have hji5x : a0 ≤ 64 → (wrap64 (1 * 2 ^ a0.toNat)) = ji5 := fun h_ => (i64_w _).symm.trans (hji5z h_)
    have H' := Aside0.mk H
    clear H
    have hx105_0 := blk_cell HP1.out 0
    replace hx105_0 := hx105_0.trans rfl
    have hx106_0 := blk_cell HQ1.out 0
    replace hx106_0 := hx106_0.trans rfl
    have hx106_1 := blk_cell HQ1.out 1
    replace hx106_1 := hx106_1.trans rfl
    have hx106_2 := blk_cell HQ1.out 2
    replace hx106_2 := hx106_2.trans rfl
    go_enter Try.func80, Try.ntmps80
    go_wp2
    go_loopg [5, 14] k (fun kq v5 v14 w' => ∃ (x5_1 : Int) (x14_1 : Int), v5 = .int .i64 x5_1 ∧ v14 = .int .i64 x14_1 ∧ Aside0 (branch_town_alone_2.l0 kq x5_1 a1_0 x14_1 a1_0 l1_1 a2_0 = some r) ∧ Aside0 (kq ≤ k) ∧ Aside0 (Below w.heap.size w w'))
    case atStart => exact ⟨(ji5), (0), (by first | rfl | (simp; done) | (simp only [← hji5] <;> (first | rfl | simp)) | (simp [*]; done)), (by first | rfl | (simp; done) | (simp [*]; done)), H', ⟨Nat.le_refl _⟩, ⟨by repeat (first | (with_reducible first | exact HB.out | apply below_alloc | apply pw_below_drewN | apply below_drew1) | exact HB.out)⟩⟩
    case round =>
      clear H'
      try clear c1
      try clear hx1
      try clear p2
      try clear c4
      try clear c4b0
      try clear c4b1
      try clear hx105_0
      try clear hx106_0
      try clear hx106_1
      try clear hx106_2
      obtain ⟨x5_1, x14_1, rfl, rfl, HA, HK1, HB⟩ := hrel
      cases gk with
      | zero => exact absurd HA.out (by simp [branch_town_alone_2.l0])
      | succ k1 =>
        have H := HA.out
        clear HA
        simp only [branch_town_alone_2.l0] at H
        by_cases c6 : x14_1 < a1_0
        · rw [if_pos c6] at H
          have c6b0 : decide (x14_1 < a1_0) = true := decide_eq_true c6
          clear c6
          have H' := Aside0.mk H
          clear H
          have hx107_0 := blk_cell HP1.out 0
          replace hx107_0 := hx107_0.trans rfl
          replace hx107_0 := (HB.out.cell (World.block_lt_of_cell? w _ hx107_0)).trans hx107_0
          have hx108_0 := blk_cell HQ1.out 0
          replace hx108_0 := hx108_0.trans rfl
          replace hx108_0 := (HB.out.cell (World.block_lt_of_cell? w _ hx108_0)).trans hx108_0
          have hx108_1 := blk_cell HQ1.out 1
          replace hx108_1 := hx108_1.trans rfl
          replace hx108_1 := (HB.out.cell (World.block_lt_of_cell? w _ hx108_1)).trans hx108_1
          have hx108_2 := blk_cell HQ1.out 2
          replace hx108_2 := hx108_2.trans rfl
          replace hx108_2 := (HB.out.cell (World.block_lt_of_cell? w _ hx108_2)).trans hx108_2
          go_wp2
          go_loopg [5, 21] k1 (fun kq v5 v21 w' => ∃ (x5_2 : Int) (x21_2 : Int), v5 = .int .i64 x5_2 ∧ v21 = .int .i64 x21_2 ∧ Aside0 (branch_town_alone_2.l1 kq x5_2 a1_0 x14_1 l1_1 (l1_1.length : Int) x21_2 a1_0 l1_1 a2_0 = some r) ∧ Aside0 (kq ≤ k1) ∧ Aside0 (Below w.heap.size w w'))
          case atStart => exact ⟨(x5_1), (0), (by first | rfl | (simp; done) | (simp [*]; done)), (by first | rfl | (simp; done) | (simp [*]; done)), H', ⟨Nat.le_refl _⟩, ⟨by repeat (first | (with_reducible first | exact HB.out | apply below_alloc | apply pw_below_drewN | apply below_drew1) | exact HB.out)⟩⟩
          case round =>
            clear H'
            try clear c1
            try clear hx1
            try clear p2
            try clear c4
            try clear c4b0
            try clear c4b1
            try clear c6
            try clear c6b0
            try clear p6
            try clear hx105_0
            try clear hx106_0
            try clear hx106_1
            try clear hx106_2
            try clear hx107_0
            try clear hx108_0
            try clear hx108_1
            try clear hx108_2
            try clear p2
            obtain ⟨x5_2, x21_2, rfl, rfl, HA, HK2, HB⟩ := hrel
            cases gk with
            | zero => exact absurd HA.out (by simp [branch_town_alone_2.l1])
            | succ k2 =>
              have H := HA.out
              clear HA
              simp only [branch_town_alone_2.l1] at H
              by_cases c7 : x21_2 < (l1_1.length : Int)
              · rw [if_pos c7] at H
                have c7b0 : decide (x21_2 < (l1_1.length : Int)) = true := decide_eq_true c7
                clear c7
                by_cases c8 : 0 ≤ x21_2
                · rw [if_pos c8] at H
                  have c8b0 : decide (0 ≤ x21_2) = true := decide_eq_true c8
                  clear c8
                  by_cases c9 : x21_2 < (l1_1.length : Int)
                  · rw [if_pos c9] at H
                    have c9b0 : decide (x21_2 < (l1_1.length : Int)) = true := decide_eq_true c9
                    clear c9
                    replace H := Option.bind_eq_some_iff.mp H
                    obtain ⟨t112, A100, H⟩ := H
                    replace H : (if t112 = true then (if 0 ≤ ((rd_T30 l1_1 x21_2).f0) then (if (Go.bits .and .i64 (shr .i64 x5_2 ((rd_T30 l1_1 x21_2).f0)) 1) = 1 then (if 0 ≤ ((rd_T30 l1_1 x21_2).f1) then (branch_town_alone_2.l1 k2 (Go.bits .or .i64 x5_2 (shl .i64 1 ((rd_T30 l1_1 x21_2).f1))) a1_0 x14_1 l1_1 (l1_1.length : Int) (wrap64 (x21_2 + 1)) a1_0 l1_1 a2_0) else (none)) else (branch_town_alone_2.l1 k2 x5_2 a1_0 x14_1 l1_1 (l1_1.length : Int) (wrap64 (x21_2 + 1)) a1_0 l1_1 a2_0)) else (none)) else (branch_town_alone_2.l1 k2 x5_2 a1_0 x14_1 l1_1 (l1_1.length : Int) (wrap64 (x21_2 + 1)) a1_0 l1_1 a2_0)) = some r := H
                    have A10 := Aside0.mk A100
                    clear A100
                    by_cases c11 : t112 = true
                    · subst c11
                      have H1 : (if 0 ≤ ((rd_T30 l1_1 x21_2).f0) then (if (Go.bits .and .i64 (shr .i64 x5_2 ((rd_T30 l1_1 x21_2).f0)) 1) = 1 then (if 0 ≤ ((rd_T30 l1_1 x21_2).f1) then (branch_town_alone_2.l1 k2 (Go.bits .or .i64 x5_2 (shl .i64 1 ((rd_T30 l1_1 x21_2).f1))) a1_0 x14_1 l1_1 (l1_1.length : Int) (wrap64 (x21_2 + 1)) a1_0 l1_1 a2_0) else (none)) else (branch_town_alone_2.l1 k2 x5_2 a1_0 x14_1 l1_1 (l1_1.length : Int) (wrap64 (x21_2 + 1)) a1_0 l1_1 a2_0)) else (none)) = some r := by rw [if_pos rfl] at H; exact H
                      clear H
                      have H := H1
                      clear H1
                      by_cases c12 : 0 ≤ ((rd_T30 l1_1 x21_2).f0)
                      · rw [if_pos c12] at H
                        have c12b0 := eq_true c12
                        have c12b1 : decide (0 ≤ ((rd_T30 l1_1 x21_2).f0)) = true := decide_eq_true c12
                        clear c12
                        obtain ⟨ji13, hji13⟩ : ∃ j_ : Int, (shr .i64 x5_2 ((rd_T30 l1_1 x21_2).f0)) = j_ := ⟨_, rfl⟩
                        replace H : (if (Go.bits .and .i64 (ji13) 1) = 1 then (if 0 ≤ ((rd_T30 l1_1 x21_2).f1) then (branch_town_alone_2.l1 k2 (Go.bits .or .i64 x5_2 (shl .i64 1 ((rd_T30 l1_1 x21_2).f1))) a1_0 x14_1 l1_1 (l1_1.length : Int) (wrap64 (x21_2 + 1)) a1_0 l1_1 a2_0) else (none)) else (branch_town_alone_2.l1 k2 x5_2 a1_0 x14_1 l1_1 (l1_1.length : Int) (wrap64 (x21_2 + 1)) a1_0 l1_1 a2_0)) = some r := by first | (rw [hji13] at H; exact H) | (simp only [hji13] at H ⊢; exact H)
                        (try rw [hji13] at A10)
                        have hji13_ : (x5_2 / 2 ^ min ((rd_T30 l1_1 x21_2).f0).toNat 64) = ji13 := hji13
                        have hji13z : ((rd_T30 l1_1 x21_2).f0) ≤ 64 → (x5_2 / 2 ^ ((rd_T30 l1_1 x21_2).f0).toNat) = ji13 := shr_small hji13
                        by_cases c14 : (Go.bits .and .i64 (ji13) 1) = 1
                        · rw [if_pos c14] at H
                          have c14b0 : ((Go.bits .and .i64 (ji13) 1) == 1) = true := beq_iff_eq.mpr c14
                          have c14b1 : ((Go.bits .and .i64 (ji13) 1) != 1) = false := bne_eq_false_iff_eq.mpr c14
                          clear c14
                          by_cases c15 : 0 ≤ ((rd_T30 l1_1 x21_2).f1)
                          · rw [if_pos c15] at H
                            have c15b0 := eq_true c15
                            have c15b1 : decide (0 ≤ ((rd_T30 l1_1 x21_2).f1)) = true := decide_eq_true c15
                            clear c15
                            obtain ⟨ji16, hji16⟩ : ∃ j_ : Int, (shl .i64 1 ((rd_T30 l1_1 x21_2).f1)) = j_ := ⟨_, rfl⟩
                            replace H : (branch_town_alone_2.l1 k2 (Go.bits .or .i64 x5_2 (ji16)) a1_0 x14_1 l1_1 (l1_1.length : Int) (wrap64 (x21_2 + 1)) a1_0 l1_1 a2_0) = some r := by first | (rw [hji16] at H; exact H) | (simp only [hji16] at H ⊢; exact H)
                            (try rw [hji16] at A10)
                            have hji16_ : (IntKind.i64.wrap (1 * 2 ^ min ((rd_T30 l1_1 x21_2).f1).toNat 64)) = ji16 := hji16
                            have hji16z : ((rd_T30 l1_1 x21_2).f1) ≤ 64 → (IntKind.i64.wrap (1 * 2 ^ ((rd_T30 l1_1 x21_2).f1).toNat)) = ji16 := shl_small hji16
                            have hji16u : (IntKind.i64.wrap (2 ^ min ((rd_T30 l1_1 x21_2).f1).toNat 64)) = ji16 := by have h_ := hji16_; rw [Int.one_mul] at h_; exact h_
                            have hji16v : ((rd_T30 l1_1 x21_2).f1) ≤ 64 → (IntKind.i64.wrap (2 ^ ((rd_T30 l1_1 x21_2).f1).toNat)) = ji16 := fun hle_ => by have h_ := hji16z hle_; rw [Int.one_mul] at h_; exact h_
                            have hji16y : (wrap64 (1 * 2 ^ min ((rd_T30 l1_1 x21_2).f1).toNat 64)) = ji16 := (i64_w _).symm.trans hji16_
                            have hji16x : ((rd_T30 l1_1 x21_2).f1) ≤ 64 → (wrap64 (1 * 2 ^ ((rd_T30 l1_1 x21_2).f1).toNat)) = ji16 := fun h_ => (i64_w _).symm.trans (hji16z h_)
                            have H' := Aside0.mk H
                            clear H
                            have p109 : 0 ≤ (x21_2 : Int) := of_decide_eq_true (by first | (with_reducible assumption) | assumption)
                            have q109 : x21_2 < (l1_1.length : Int) := of_decide_eq_true (by first | (with_reducible assumption) | assumption)
                            obtain ⟨ad109, e109, hx109_0, hx109_1, hx109_2⟩ := at_T30 HR1_1.out x21_2 p109 q109
                            cases e109
                            replace hx109_0 := (HB.out.cell (World.block_lt_of_cell? w _ hx109_0)).trans hx109_0
                            replace hx109_1 := (HB.out.cell (World.block_lt_of_cell? w _ hx109_1)).trans hx109_1
                            replace hx109_2 := (HB.out.cell (World.block_lt_of_cell? w _ hx109_2)).trans hx109_2
                            replace p109 := eq_true p109
                            replace q109 := eq_true q109
                            go_wp2_with (first | ((with_reducible refine gate_dst (N := 7) rfl ?_); refine box_event ?hg (N := 7) ?hd (cs := #[.int .i64 0, .int .i64 0, .int .i64 0]) (t := 30) ?hr ?_; (case hd => rfl); (case hg => rfl); (case hr => first | (go_simp; done) | (go_simp; rfl)); intro gb110 hg w17 hbox hb; have n0_ := Aside0.mk (below_step (by repeat (first | (with_reducible first | exact HB.out | apply below_alloc | apply pw_below_drewN | apply below_drew1) | exact HB.out)) hb); have n1_ := Aside0.mk (hbox); have n2_ := Aside0.mk ((by rw [hg]; exact (below_size (by repeat (first | (with_reducible first | exact HB.out | apply below_alloc | apply pw_below_drewN | apply below_drew1) | exact HB.out))) : w.heap.size ≤ gb110)); have n3_ := Aside0.mk ((by rw [hg]; exact (below_size (by repeat (first | (with_reducible first | exact HB.out | apply below_alloc | apply pw_below_drewN | apply below_drew1) | exact HB.out))) : w.heap.size ≤ gb110)); clear HB; have HB := n0_; have BK110 := n1_; have GW110 := n2_; have GE110 := n3_; clear n0_ n1_ n2_ n3_; clear hb hbox hg; have hcz18_0 : w17.cell? ⟨gb110, 0, none⟩ = some (.int .i64 0) := (blk_cell BK110.out 0).trans rfl; have hcz18_1 : w17.cell? ⟨gb110, 1, none⟩ = some (.int .i64 0) := (blk_cell BK110.out 1).trans rfl; have hcz18_2 : w17.cell? ⟨gb110, 2, none⟩ = some (.int .i64 0) := (blk_cell BK110.out 2).trans rfl; have hfz18_0 := blk_frozen BK110.out 0; have hfz18_1 := blk_frozen BK110.out 1; have hfz18_2 := blk_frozen BK110.out 2; have hx111_0 := blk_cell HP2.out 0; replace hx111_0 := hx111_0.trans rfl; replace hx111_0 := (HB.out.cell (World.block_lt_of_cell? w _ hx111_0)).trans hx111_0; replace hx111_0 := (cell_far (a := ⟨g2, 0, none⟩) (p := ⟨gb110, 0, none⟩) (Nat.ne_of_lt (Nat.lt_of_lt_of_le (blk_lt HP2.out) GW110.out)) (.int .i64 ((rd_T30 l1_1 x21_2).f0))).trans hx111_0; replace hx111_0 := (cell_far (a := ⟨g2, 0, none⟩) (p := ⟨gb110, 1, none⟩) (Nat.ne_of_lt (Nat.lt_of_lt_of_le (blk_lt HP2.out) GW110.out)) (.int .i64 ((rd_T30 l1_1 x21_2).f1))).trans hx111_0; replace hx111_0 := (cell_far (a := ⟨g2, 0, none⟩) (p := ⟨gb110, 2, none⟩) (Nat.ne_of_lt (Nat.lt_of_lt_of_le (blk_lt HP2.out) GW110.out)) (.int .i64 ((rd_T30 l1_1 x21_2).f2))).trans hx111_0) | ((with_reducible refine gate_dst (N := 28) rfl ?_); refine goesF_ (some 28) rfl rfl HF2_0.out rfl rfl (i := x21_2) rfl ?sideB A10.out ?_; (case sideB => exact by repeat (first | (with_reducible first | exact HB.out | apply below_alloc | apply pw_below_drewN | apply below_drew1 | refine below_set ?_ GE110.out) | exact HB.out)); intro w19 hb; have n0_ := Aside0.mk (blk_below (g := gb110) (o := .cells #[.int .i64 ((rd_T30 l1_1 x21_2).f0), .int .i64 ((rd_T30 l1_1 x21_2).f1), .int .i64 ((rd_T30 l1_1 x21_2).f2)] 30 (0, 0)) (by (with_reducible repeat (first | refine blk_drewN ?_ _ | refine blk_drew ?_ | refine blk_alloc ?_ _)); refine blk_put (cs := #[.int .i64 ((rd_T30 l1_1 x21_2).f0), .int .i64 ((rd_T30 l1_1 x21_2).f1), .int .i64 0]) ?_ 2 _ rfl; (with_reducible repeat (first | refine blk_drewN ?_ _ | refine blk_drew ?_ | refine blk_alloc ?_ _)); refine blk_put (cs := #[.int .i64 ((rd_T30 l1_1 x21_2).f0), .int .i64 0, .int .i64 0]) ?_ 1 _ rfl; (with_reducible repeat (first | refine blk_drewN ?_ _ | refine blk_drew ?_ | refine blk_alloc ?_ _)); refine blk_put (cs := #[.int .i64 0, .int .i64 0, .int .i64 0]) ?_ 0 _ rfl; (with_reducible repeat (first | refine blk_drewN ?_ _ | refine blk_drew ?_ | refine blk_alloc ?_ _)); exact BK110.out) hb); have n1_ := Aside0.mk (below_step (by repeat (first | (with_reducible first | exact HB.out | apply below_alloc | apply pw_below_drewN | apply below_drew1 | refine below_set ?_ GE110.out) | exact HB.out)) hb); clear BK110; clear HB; have BK110 := n0_; have HB := n1_; clear n0_ n1_; (try clear hb); (try clear hb2); (try clear hk); (try clear hi); have hcz20_0 : w19.cell? ⟨gb110, 0, none⟩ = some (.int .i64 ((rd_T30 l1_1 x21_2).f0)) := (blk_cell BK110.out 0).trans rfl; have hcz20_1 : w19.cell? ⟨gb110, 1, none⟩ = some (.int .i64 ((rd_T30 l1_1 x21_2).f1)) := (blk_cell BK110.out 1).trans rfl; have hcz20_2 : w19.cell? ⟨gb110, 2, none⟩ = some (.int .i64 ((rd_T30 l1_1 x21_2).f2)) := (blk_cell BK110.out 2).trans rfl; have hfz20_0 := blk_frozen BK110.out 0; have hfz20_1 := blk_frozen BK110.out 1; have hfz20_2 := blk_frozen BK110.out 2))
                            go_roundg k2
                            case measure => have := HK1.out; have := HK2.out; omega
                            case rel => exact ⟨(Go.bits .or .i64 x5_2 (ji16)), (wrap64 (x21_2 + 1)), (by first | rfl | (simp; done) | (simp only [← hji16] <;> (first | rfl | simp)) | (simp [*]; done)), (by first | rfl | (simp; done) | (simp [*]; done)), H', ⟨by have := HK1.out; have := HK2.out; omega⟩, ⟨by repeat (first | (with_reducible first | exact HB.out | apply below_alloc | apply pw_below_drewN | apply below_drew1 | refine below_set ?_ GE110.out) | exact HB.out)⟩⟩
                          · rw [if_neg c15] at H
                            exact absurd H (by simp)
                        · rw [if_neg c14] at H
                          have c14b0 : ((Go.bits .and .i64 (ji13) 1) == 1) = false := beq_eq_false_iff_ne.mpr c14
                          have c14b1 : ((Go.bits .and .i64 (ji13) 1) != 1) = true := bne_iff_ne.mpr c14
                          have H' := Aside0.mk H
                          clear H
                          have p109 : 0 ≤ (x21_2 : Int) := of_decide_eq_true (by first | (with_reducible assumption) | assumption)
                          have q109 : x21_2 < (l1_1.length : Int) := of_decide_eq_true (by first | (with_reducible assumption) | assumption)
                          obtain ⟨ad109, e109, hx109_0, hx109_1, hx109_2⟩ := at_T30 HR1_1.out x21_2 p109 q109
                          cases e109
                          replace hx109_0 := (HB.out.cell (World.block_lt_of_cell? w _ hx109_0)).trans hx109_0
                          replace hx109_1 := (HB.out.cell (World.block_lt_of_cell? w _ hx109_1)).trans hx109_1
                          replace hx109_2 := (HB.out.cell (World.block_lt_of_cell? w _ hx109_2)).trans hx109_2
                          replace p109 := eq_true p109
                          replace q109 := eq_true q109
                          go_wp2_with (first | ((with_reducible refine gate_dst (N := 7) rfl ?_); refine box_event ?hg (N := 7) ?hd (cs := #[.int .i64 0, .int .i64 0, .int .i64 0]) (t := 30) ?hr ?_; (case hd => rfl); (case hg => rfl); (case hr => first | (go_simp; done) | (go_simp; rfl)); intro gb110 hg w21 hbox hb; have n0_ := Aside0.mk (below_step (by repeat (first | (with_reducible first | exact HB.out | apply below_alloc | apply pw_below_drewN | apply below_drew1) | exact HB.out)) hb); have n1_ := Aside0.mk (hbox); have n2_ := Aside0.mk ((by rw [hg]; exact (below_size (by repeat (first | (with_reducible first | exact HB.out | apply below_alloc | apply pw_below_drewN | apply below_drew1) | exact HB.out))) : w.heap.size ≤ gb110)); have n3_ := Aside0.mk ((by rw [hg]; exact (below_size (by repeat (first | (with_reducible first | exact HB.out | apply below_alloc | apply pw_below_drewN | apply below_drew1) | exact HB.out))) : w.heap.size ≤ gb110)); clear HB; have HB := n0_; have BK110 := n1_; have GW110 := n2_; have GE110 := n3_; clear n0_ n1_ n2_ n3_; clear hb hbox hg; have hcz22_0 : w21.cell? ⟨gb110, 0, none⟩ = some (.int .i64 0) := (blk_cell BK110.out 0).trans rfl; have hcz22_1 : w21.cell? ⟨gb110, 1, none⟩ = some (.int .i64 0) := (blk_cell BK110.out 1).trans rfl; have hcz22_2 : w21.cell? ⟨gb110, 2, none⟩ = some (.int .i64 0) := (blk_cell BK110.out 2).trans rfl; have hfz22_0 := blk_frozen BK110.out 0; have hfz22_1 := blk_frozen BK110.out 1; have hfz22_2 := blk_frozen BK110.out 2; have hx111_0 := blk_cell HP2.out 0; replace hx111_0 := hx111_0.trans rfl; replace hx111_0 := (HB.out.cell (World.block_lt_of_cell? w _ hx111_0)).trans hx111_0; replace hx111_0 := (cell_far (a := ⟨g2, 0, none⟩) (p := ⟨gb110, 0, none⟩) (Nat.ne_of_lt (Nat.lt_of_lt_of_le (blk_lt HP2.out) GW110.out)) (.int .i64 ((rd_T30 l1_1 x21_2).f0))).trans hx111_0; replace hx111_0 := (cell_far (a := ⟨g2, 0, none⟩) (p := ⟨gb110, 1, none⟩) (Nat.ne_of_lt (Nat.lt_of_lt_of_le (blk_lt HP2.out) GW110.out)) (.int .i64 ((rd_T30 l1_1 x21_2).f1))).trans hx111_0; replace hx111_0 := (cell_far (a := ⟨g2, 0, none⟩) (p := ⟨gb110, 2, none⟩) (Nat.ne_of_lt (Nat.lt_of_lt_of_le (blk_lt HP2.out) GW110.out)) (.int .i64 ((rd_T30 l1_1 x21_2).f2))).trans hx111_0) | ((with_reducible refine gate_dst (N := 28) rfl ?_); refine goesF_ (some 28) rfl rfl HF2_0.out rfl rfl (i := x21_2) rfl ?sideB A10.out ?_; (case sideB => exact by repeat (first | (with_reducible first | exact HB.out | apply below_alloc | apply pw_below_drewN | apply below_drew1 | refine below_set ?_ GE110.out) | exact HB.out)); intro w23 hb; have n0_ := Aside0.mk (blk_below (g := gb110) (o := .cells #[.int .i64 ((rd_T30 l1_1 x21_2).f0), .int .i64 ((rd_T30 l1_1 x21_2).f1), .int .i64 ((rd_T30 l1_1 x21_2).f2)] 30 (0, 0)) (by (with_reducible repeat (first | refine blk_drewN ?_ _ | refine blk_drew ?_ | refine blk_alloc ?_ _)); refine blk_put (cs := #[.int .i64 ((rd_T30 l1_1 x21_2).f0), .int .i64 ((rd_T30 l1_1 x21_2).f1), .int .i64 0]) ?_ 2 _ rfl; (with_reducible repeat (first | refine blk_drewN ?_ _ | refine blk_drew ?_ | refine blk_alloc ?_ _)); refine blk_put (cs := #[.int .i64 ((rd_T30 l1_1 x21_2).f0), .int .i64 0, .int .i64 0]) ?_ 1 _ rfl; (with_reducible repeat (first | refine blk_drewN ?_ _ | refine blk_drew ?_ | refine blk_alloc ?_ _)); refine blk_put (cs := #[.int .i64 0, .int .i64 0, .int .i64 0]) ?_ 0 _ rfl; (with_reducible repeat (first | refine blk_drewN ?_ _ | refine blk_drew ?_ | refine blk_alloc ?_ _)); exact BK110.out) hb); have n1_ := Aside0.mk (below_step (by repeat (first | (with_reducible first | exact HB.out | apply below_alloc | apply pw_below_drewN | apply below_drew1 | refine below_set ?_ GE110.out) | exact HB.out)) hb); clear BK110; clear HB; have BK110 := n0_; have HB := n1_; clear n0_ n1_; (try clear hb); (try clear hb2); (try clear hk); (try clear hi); have hcz24_0 : w23.cell? ⟨gb110, 0, none⟩ = some (.int .i64 ((rd_T30 l1_1 x21_2).f0)) := (blk_cell BK110.out 0).trans rfl; have hcz24_1 : w23.cell? ⟨gb110, 1, none⟩ = some (.int .i64 ((rd_T30 l1_1 x21_2).f1)) := (blk_cell BK110.out 1).trans rfl; have hcz24_2 : w23.cell? ⟨gb110, 2, none⟩ = some (.int .i64 ((rd_T30 l1_1 x21_2).f2)) := (blk_cell BK110.out 2).trans rfl; have hfz24_0 := blk_frozen BK110.out 0; have hfz24_1 := blk_frozen BK110.out 1; have hfz24_2 := blk_frozen BK110.out 2))
                          go_roundg k2
                          case measure => have := HK1.out; have := HK2.out; omega
                          case rel => exact ⟨(x5_2), (wrap64 (x21_2 + 1)), (by first | rfl | (simp; done) | (simp [*]; done)), (by first | rfl | (simp; done) | (simp [*]; done)), H', ⟨by have := HK1.out; have := HK2.out; omega⟩, ⟨by repeat (first | (with_reducible first | exact HB.out | apply below_alloc | apply pw_below_drewN | apply below_drew1 | refine below_set ?_ GE110.out) | exact HB.out)⟩⟩
                      · rw [if_neg c12] at H
                        exact absurd H (by simp)
                    · replace c11 := Bool.eq_false_iff.mpr c11
                      subst c11
                      have H1 : (branch_town_alone_2.l1 k2 x5_2 a1_0 x14_1 l1_1 (l1_1.length : Int) (wrap64 (x21_2 + 1)) a1_0 l1_1 a2_0) = some r := by rw [if_neg (show ¬ (false = true) by decide)] at H; exact H
                      clear H
                      have H := H1
                      clear H1
                      have H' := Aside0.mk H
                      clear H
                      have p109 : 0 ≤ (x21_2 : Int) := of_decide_eq_true (by first | (with_reducible assumption) | assumption)
                      have q109 : x21_2 < (l1_1.length : Int) := of_decide_eq_true (by first | (with_reducible assumption) | assumption)
                      obtain ⟨ad109, e109, hx109_0, hx109_1, hx109_2⟩ := at_T30 HR1_1.out x21_2 p109 q109
                      cases e109
                      replace hx109_0 := (HB.out.cell (World.block_lt_of_cell? w _ hx109_0)).trans hx109_0
                      replace hx109_1 := (HB.out.cell (World.block_lt_of_cell? w _ hx109_1)).trans hx109_1
                      replace hx109_2 := (HB.out.cell (World.block_lt_of_cell? w _ hx109_2)).trans hx109_2
                      replace p109 := eq_true p109
                      replace q109 := eq_true q109
                      go_wp2_with (first | ((with_reducible refine gate_dst (N := 7) rfl ?_); refine box_event ?hg (N := 7) ?hd (cs := #[.int .i64 0, .int .i64 0, .int .i64 0]) (t := 30) ?hr ?_; (case hd => rfl); (case hg => rfl); (case hr => first | (go_simp; done) | (go_simp; rfl)); intro gb110 hg w25 hbox hb; have n0_ := Aside0.mk (below_step (by repeat (first | (with_reducible first | exact HB.out | apply below_alloc | apply pw_below_drewN | apply below_drew1) | exact HB.out)) hb); have n1_ := Aside0.mk (hbox); have n2_ := Aside0.mk ((by rw [hg]; exact (below_size (by repeat (first | (with_reducible first | exact HB.out | apply below_alloc | apply pw_below_drewN | apply below_drew1) | exact HB.out))) : w.heap.size ≤ gb110)); have n3_ := Aside0.mk ((by rw [hg]; exact (below_size (by repeat (first | (with_reducible first | exact HB.out | apply below_alloc | apply pw_below_drewN | apply below_drew1) | exact HB.out))) : w.heap.size ≤ gb110)); clear HB; have HB := n0_; have BK110 := n1_; have GW110 := n2_; have GE110 := n3_; clear n0_ n1_ n2_ n3_; clear hb hbox hg; have hcz26_0 : w25.cell? ⟨gb110, 0, none⟩ = some (.int .i64 0) := (blk_cell BK110.out 0).trans rfl; have hcz26_1 : w25.cell? ⟨gb110, 1, none⟩ = some (.int .i64 0) := (blk_cell BK110.out 1).trans rfl; have hcz26_2 : w25.cell? ⟨gb110, 2, none⟩ = some (.int .i64 0) := (blk_cell BK110.out 2).trans rfl; have hfz26_0 := blk_frozen BK110.out 0; have hfz26_1 := blk_frozen BK110.out 1; have hfz26_2 := blk_frozen BK110.out 2; have hx111_0 := blk_cell HP2.out 0; replace hx111_0 := hx111_0.trans rfl; replace hx111_0 := (HB.out.cell (World.block_lt_of_cell? w _ hx111_0)).trans hx111_0; replace hx111_0 := (cell_far (a := ⟨g2, 0, none⟩) (p := ⟨gb110, 0, none⟩) (Nat.ne_of_lt (Nat.lt_of_lt_of_le (blk_lt HP2.out) GW110.out)) (.int .i64 ((rd_T30 l1_1 x21_2).f0))).trans hx111_0; replace hx111_0 := (cell_far (a := ⟨g2, 0, none⟩) (p := ⟨gb110, 1, none⟩) (Nat.ne_of_lt (Nat.lt_of_lt_of_le (blk_lt HP2.out) GW110.out)) (.int .i64 ((rd_T30 l1_1 x21_2).f1))).trans hx111_0; replace hx111_0 := (cell_far (a := ⟨g2, 0, none⟩) (p := ⟨gb110, 2, none⟩) (Nat.ne_of_lt (Nat.lt_of_lt_of_le (blk_lt HP2.out) GW110.out)) (.int .i64 ((rd_T30 l1_1 x21_2).f2))).trans hx111_0) | ((with_reducible refine gate_dst (N := 28) rfl ?_); refine goesF_ (some 28) rfl rfl HF2_0.out rfl rfl (i := x21_2) rfl ?sideB A10.out ?_; (case sideB => exact by repeat (first | (with_reducible first | exact HB.out | apply below_alloc | apply pw_below_drewN | apply below_drew1 | refine below_set ?_ GE110.out) | exact HB.out)); intro w27 hb; have n0_ := Aside0.mk (blk_below (g := gb110) (o := .cells #[.int .i64 ((rd_T30 l1_1 x21_2).f0), .int .i64 ((rd_T30 l1_1 x21_2).f1), .int .i64 ((rd_T30 l1_1 x21_2).f2)] 30 (0, 0)) (by (with_reducible repeat (first | refine blk_drewN ?_ _ | refine blk_drew ?_ | refine blk_alloc ?_ _)); refine blk_put (cs := #[.int .i64 ((rd_T30 l1_1 x21_2).f0), .int .i64 ((rd_T30 l1_1 x21_2).f1), .int .i64 0]) ?_ 2 _ rfl; (with_reducible repeat (first | refine blk_drewN ?_ _ | refine blk_drew ?_ | refine blk_alloc ?_ _)); refine blk_put (cs := #[.int .i64 ((rd_T30 l1_1 x21_2).f0), .int .i64 0, .int .i64 0]) ?_ 1 _ rfl; (with_reducible repeat (first | refine blk_drewN ?_ _ | refine blk_drew ?_ | refine blk_alloc ?_ _)); refine blk_put (cs := #[.int .i64 0, .int .i64 0, .int .i64 0]) ?_ 0 _ rfl; (with_reducible repeat (first | refine blk_drewN ?_ _ | refine blk_drew ?_ | refine blk_alloc ?_ _)); exact BK110.out) hb); have n1_ := Aside0.mk (below_step (by repeat (first | (with_reducible first | exact HB.out | apply below_alloc | apply pw_below_drewN | apply below_drew1 | refine below_set ?_ GE110.out) | exact HB.out)) hb); clear BK110; clear HB; have BK110 := n0_; have HB := n1_; clear n0_ n1_; (try clear hb); (try clear hb2); (try clear hk); (try clear hi)))
                      go_roundg k2
                      case measure => have := HK1.out; have := HK2.out; omega
                      case rel => exact ⟨(x5_2), (wrap64 (x21_2 + 1)), (by first | rfl | (simp; done) | (simp [*]; done)), (by first | rfl | (simp; done) | (simp [*]; done)), H', ⟨by have := HK1.out; have := HK2.out; omega⟩, ⟨by repeat (first | (with_reducible first | exact HB.out | apply below_alloc | apply pw_below_drewN | apply below_drew1 | refine below_set ?_ GE110.out) | exact HB.out)⟩⟩
                  · rw [if_neg c9] at H
                    exact absurd H (by simp)
                · rw [if_neg c8] at H
                  exact absurd H (by simp)
              · rw [if_neg c7] at H
                have c7b0 : decide (x21_2 < (l1_1.length : Int)) = false := decide_eq_false c7
                clear c7
                have H' := Aside0.mk H
                clear H
                go_wp2
                go_roundg k2
                case measure => have := HK1.out; have := HK2.out; omega
                case rel => exact ⟨(x5_2), (wrap64 (x14_1 + 1)), (by first | rfl | (simp; done) | (simp [*]; done)), (by first | rfl | (simp; done) | (simp [*]; done)), H', ⟨by have := HK1.out; have := HK2.out; omega⟩, ⟨by repeat (first | (with_reducible first | exact HB.out | apply below_alloc | apply pw_below_drewN | apply below_drew1) | exact HB.out)⟩⟩
        · rw [if_neg c6] at H
          have c6b0 : decide (x14_1 < a1_0) = false := decide_eq_false c6
          clear c6
          obtain rfl := Option.some.inj H
          go_wp2
          go_ret
          exact ⟨by first | rfl | (simp [errW_none, errW_some] <;> rfl) | (simp only [← hji5]; first | rfl | (simp [errW_none, errW_some] <;> rfl)) | (simp [*, errW_none, errW_some] <;> rfl), by repeat (first | (with_reducible first | exact HB.out | apply below_alloc | apply pw_below_drewN | apply below_drew1) | exact HB.out)⟩
  · rw [if_neg c4] at H
    exact absurd H (by simp)
def branch_town_first_2.f (a0 : Int) (a1_0 : Int) (l1_1 : List (S30)) (a2_0 : Int) : Option (Bool) := if 0 ≤ a0 then (if a0 < (l1_1.length : Int) then (some (((rd_T30 l1_1 a0).f1) == a2_0)) else (none)) else (none)
set_option maxHeartbeats 8000000 in
set_option maxRecDepth 100000 in
theorem branch_town_first_2.calls (a0 : Int) (g1 : Nat) (gg1 : Nat) (a1_0 : Int) (A1_1 : Option Addr) (c1_1 : Nat) (l1_1 : List (S30)) (a1_2 : Option Nat) (g2 : Nat) (a2_0 : Int) (r : Bool) (w : World) (hP1 : w.heap[g1]? = some (.cells #[.pointer (some ⟨gg1, 0, none⟩)] 65 (0, 0))) (hQ1 : w.heap[gg1]? = some (.cells #[.int .i64 a1_0, .slice A1_1 l1_1.length c1_1, .map a1_2] 70 (0, 0))) (hr1_1 : Kd.C k30 w A1_1 l1_1.length l1_1) (hc1_1 : l1_1.length ≤ c1_1) (hP2 : w.heap[g2]? = some (.cells #[.int .i64 a2_0] 3 (0, 0))) (h : branch_town_first_2.f a0 a1_0 l1_1 a2_0 = some r) :
    Calls Try.prog 71 #[.int .i64 a0, .pointer (some ⟨g1, 0, none⟩), .pointer (some ⟨g2, 0, none⟩)] w fun e w' => e = .returned (.bool r) ∧ Drawn0 w w' := by
  have hu65 := Try.underlying65
  have HP1 := Aside0.mk hP1
  clear hP1
  have HQ1 := Aside0.mk hQ1
  clear hQ1
  have HR1_1 := Aside0.mk hr1_1
  have HC1_1 := Aside0.mk hc1_1
  clear hr1_1 hc1_1
  have HP2 := Aside0.mk hP2
  clear hP2
  have H : (if 0 ≤ a0 then (if a0 < (l1_1.length : Int) then (some (((rd_T30 l1_1 a0).f1) == a2_0)) else (none)) else (none)) = some r := h
  clear h
  by_cases c4 : 0 ≤ a0
  · rw [if_pos c4] at H
    have c4b0 : decide (0 ≤ a0) = true := decide_eq_true c4
    clear c4
    by_cases c5 : a0 < (l1_1.length : Int)
    · rw [if_pos c5] at H
      have c5b0 : decide (a0 < (l1_1.length : Int)) = true := decide_eq_true c5
      clear c5
      obtain rfl := Option.some.inj H
      have hx113_0 := blk_cell HP1.out 0
      replace hx113_0 := hx113_0.trans rfl
      have hx114_0 := blk_cell HQ1.out 0
      replace hx114_0 := hx114_0.trans rfl
      have hx114_1 := blk_cell HQ1.out 1
      replace hx114_1 := hx114_1.trans rfl
      have hx114_2 := blk_cell HQ1.out 2
      replace hx114_2 := hx114_2.trans rfl
      have p115 : 0 ≤ (a0 : Int) := of_decide_eq_true (by first | (with_reducible assumption) | assumption)
      have q115 : a0 < (l1_1.length : Int) := of_decide_eq_true (by first | (with_reducible assumption) | assumption)
      obtain ⟨ad115, e115, hx115_0, hx115_1, hx115_2⟩ := at_T30 HR1_1.out a0 p115 q115
      cases e115
      replace p115 := eq_true p115
      replace q115 := eq_true q115
      have hx116_0 := blk_cell HP2.out 0
      replace hx116_0 := hx116_0.trans rfl
      go_enter Try.func71, Try.ntmps71
      go_wp2
      repeat (go_quiet (fail); try go_wp2)
      go_ret
      exact ⟨by first | rfl | (simp; done) | (simp [*]; done), by repeat (first | exact Drawn0.refl _ | apply Drawn0.step)⟩
    · rw [if_neg c5] at H
      exact absurd H (by simp)
  · rw [if_neg c4] at H
    exact absurd H (by simp)
def branch_town_first_1.f (a0 : Int) : Option (Bool) := some false
set_option maxHeartbeats 8000000 in
set_option maxRecDepth 100000 in
theorem branch_town_first_1.calls (a0 : Int) (r : Bool) (w : World) (h : branch_town_first_1.f a0 = some r) :
    Calls Try.prog 69 #[.int .i64 a0] w fun e w' => e = .returned (.bool r) ∧ Drawn0 w w' := by
  have H : (some false) = some r := h
  clear h
  obtain rfl := Option.some.inj H
  go_enter Try.func69, Try.ntmps69
  go_wp2
  go_ret
  exact ⟨by first | rfl | (simp; done) | (simp [*]; done), by repeat (first | exact Drawn0.refl _ | apply Drawn0.step)⟩
def branch_Proof_1.f (a0 : Int) : Option (Bool) := some false
end Go.Proofs.Ytpmadffgdfholaa.B
namespace Go.Proofs.Ytpmadffgdfholaa.B
open Go.RowKit Go.Proofs.YtpmadffgdfholaaW.PrintWords Go.Proofs.YtpmadffgdfholaaW.PrintLast Go.Proofs.YtpmadffgdfholaaW.PrintMore
set_option linter.unusedVariables false
set_option linter.unusedSimpArgs false
/-- What stands while alone runs. -/
structure AlEnv (w W : World) (g0 g3 g7 : Nat) (n : Int) (A : Option Addr) (c : Nat) (l : List S30) (m : Option Nat) (vf : Value) (o : Int → Option Bool) : Prop where
  hb : Below w.heap.size w W
  hP : W.heap[g3]? = some (.cells #[.pointer (some ⟨g0, 0, none⟩)] 65 (0, 0))
  hQ : W.heap[g0]? = some (.cells #[.int .i64 n, .slice A l.length c, .map m] 70 (0, 0))
  hr : Kd.C k30 W A l.length l
  hc : l.length ≤ c
  h7 : W.heap[g7]? = some (.cells #[vf] 75 (0, 0))
  hF : IsFn Try.prog W vf o
theorem AlEnv.below {w W W2 : World} {g0 g3 g7 : Nat} {n : Int} {A : Option Addr} {c : Nat} {l : List S30} {m : Option Nat} {vf : Value} {o : Int → Option Bool} (h : AlEnv w W g0 g3 g7 n A c l m vf o) (hb : Below W.heap.size W W2) : AlEnv w W2 g0 g3 g7 n A c l m vf o :=
  ⟨below_step h.hb hb, (hb.block _ (blk_lt h.hP)).trans h.hP, (hb.block _ (blk_lt h.hQ)).trans h.hQ, Kd.C_below h.hr hb, h.hc, (hb.block _ (blk_lt h.h7)).trans h.h7, h.hF.below hb⟩
theorem AlEnv.call {w W : World} {g0 g3 g7 : Nat} {n : Int} {A : Option Addr} {c : Nat} {l : List S30} {m : Option Nat} {vf : Value} {o : Int → Option Bool} (h : AlEnv w W g0 g3 g7 n A c l m vf o) (k : Nat) (d r : Int) (hf : branch_town_alone_2.f k d n l o = some r) :
    Calls Try.prog 80 #[.int .i64 d, .pointer (some ⟨g3, 0, none⟩), .pointer (some ⟨g7, 0, none⟩)] W fun e W' => e = .returned (.int .i64 r) ∧ AlEnv w W' g0 g3 g7 n A c l m vf o :=
  (branch_town_alone_2.calls k d g3 g0 n A c l m g7 vf o r W h.hP h.hQ h.hr h.hc h.h7 h.hF hf).mono fun e W' ⟨he, hb⟩ => ⟨he, h.below hb⟩
theorem IsFn_alone1 {W : World} {g4 g5 : Nat} {A : Option Addr} {c : Nat} {l : List Int} {vo : Value} {o : Int → Option Bool} (h4 : W.heap[g4]? = some (.cells #[.slice A l.length c] 28 (0, 0))) (hr : Kd.C (Kd.int .i64) W A l.length l) (hc : l.length ≤ c) (h5 : W.heap[g5]? = some (.cells #[vo] 75 (0, 0))) (hF : IsFn Try.prog W vo o) :
    IsFn Try.prog W (.func (.func 79) #[] #[.pointer (some ⟨g4, 0, none⟩), .pointer (some ⟨g5, 0, none⟩)]) (fun i => branch_town_alone_1.f i l o) := by
  refine ⟨79, _, Try.f79, rfl, Try.func79, by kernel_rfl, rfl, fun W2 hW i r hf => ?_⟩
  exact (branch_town_alone_1.calls i g4 A c l g5 vo o r W2 ((hW.block _ (blk_lt h4)).trans h4) (Kd.C_below hr hW) hc ((hW.block _ (blk_lt h5)).trans h5) (hF.below hW) hf).mono fun e W' ⟨he, hb⟩ => ⟨he, by first | exact hb | exact hb.below⟩
def hasB (s c : Int) : Bool := Go.bits .and .i64 (shr .i64 s c) 1 == 1
/-- The corners from which c is reached. -/
def gatherB (R : Int → Int) (c : Int) : Nat → Int
  | 0 => 0
  | j + 1 => if hasB (R j) c then Go.bits .or .i64 (gatherB R c j) (shl .i64 1 j) else gatherB R c j
/-- Is each of the set's corners below j reached from c? -/
def closedB (R : Int → Int) (c s : Int) : Nat → Bool
  | 0 => true
  | j + 1 => closedB R c s j && !(hasB s j && (Go.bits .and .i64 (shr .i64 (R c) j) 1 == 0))
def isAloneB (R : Int → Int) (n : Nat) (c : Int) : Bool := !(hasB (R 0) c) && closedB R c (gatherB R c n) n
/-- From corner c on, j corners being left. -/
def aloneB (R : Int → Int) (n : Nat) : Nat → Int
  | 0 => 0
  | j + 1 => if isAloneB R n ((n - (j + 1) : Nat) : Int) then gatherB R ((n - (j + 1) : Nat) : Int) n else aloneB R n j
theorem gatherB_succ (R : Int → Int) (c y : Int) (h : 0 ≤ y) : gatherB R c (y + 1).toNat = if hasB (R y) c then Go.bits .or .i64 (gatherB R c y.toNat) (shl .i64 1 y) else gatherB R c y.toNat := by
  obtain ⟨j, rfl⟩ := Int.eq_ofNat_of_zero_le h
  rfl
theorem closedB_succ (R : Int → Int) (c s z : Int) (h : 0 ≤ z) : closedB R c s (z + 1).toNat = (closedB R c s z.toNat && !(hasB s z && (Go.bits .and .i64 (shr .i64 (R c) z) 1 == 0))) := by
  obtain ⟨j, rfl⟩ := Int.eq_ofNat_of_zero_le h
  rfl
theorem closedB_false (R : Int → Int) (c s : Int) (n : Nat) (z : Int) (h0 : 0 ≤ z) (h1 : z < n) (hs : hasB s z = true) (hr : (Go.bits .and .i64 (shr .i64 (R c) z) 1 == 0) = true) : closedB R c s n = false := by
  obtain ⟨j, rfl⟩ := Int.eq_ofNat_of_zero_le h0
  have hj : j < n := by omega
  clear h0 h1
  induction n with
  | zero => omega
  | succ n ih =>
    rcases Nat.lt_or_ge j n with h | h
    · simp [closedB, ih h]
    · obtain rfl : j = n := by omega
      simp [closedB, hs, hr]
theorem aloneB_skip (R : Int → Int) (n k : Nat) (x : Int) (hx : 0 ≤ x ∧ x + ((k + 1 : Nat) : Int) = (n : Int)) (h : isAloneB R n x = false) : aloneB R n (k + 1) = aloneB R n k := by
  have e : ((n - (k + 1) : Nat) : Int) = x := by omega
  simp only [aloneB, e, h]; simp
theorem aloneB_hit (R : Int → Int) (n k : Nat) (x : Int) (hx : 0 ≤ x ∧ x + ((k + 1 : Nat) : Int) = (n : Int)) (h : isAloneB R n x = true) : aloneB R n (k + 1) = gatherB R x n := by
  have e : ((n - (k + 1) : Nat) : Int) = x := by omega
  simp only [aloneB, e, h]; simp
set_option maxHeartbeats 4000000 in
set_option maxRecDepth 100000 in
theorem alone_calls (k : Nat) (g0 : Nat) (n : Nat) (A0 : Option Addr) (c0 : Nat) (l : List S30) (m : Option Nat) (A1 : Option Addr) (c1 : Nat) (l1 : List Int) (vo : Value) (o : Int → Option Bool) (R : Int → Int) (w : World) (N : Int) (hN : N = n) (hn : n ≤ 7) (hn1 : 1 ≤ n)
    (hP0 : w.heap[g0]? = some (.cells #[.int .i64 N, .slice A0 l.length c0, .map m] 70 (0, 0))) (hr0 : Kd.C k30 w A0 l.length l) (hc0 : l.length ≤ c0) (hr1 : Kd.C (Kd.int .i64) w A1 l1.length l1) (hc1 : l1.length ≤ c1) (hF : IsFn Try.prog w vo o)
    (hR : ∀ d : Int, 0 ≤ d → d < n → branch_town_alone_2.f k d N l (fun i => branch_town_alone_1.f i l1 o) = some (R d)) :
    Calls Try.prog 68 #[.pointer (some ⟨g0, 0, none⟩), .slice A1 l1.length c1, vo] w fun e w' => e = .returned (.int .i64 (aloneB R n n)) ∧ Below w.heap.size w w' := by
  have HN := Aside0.mk hN
  clear hN
  have HR := Aside0.mk hR
  have HP0 := Aside0.mk hP0
  have HR0 := Aside0.mk hr0
  have HR1 := Aside0.mk hr1
  have HF := Aside0.mk hF
  clear hR hP0 hr0 hr1 hF
  obtain ⟨fo, caps, hvo⟩ : ∃ fo caps, vo = .func (.func fo) #[] caps := by obtain ⟨fo, caps, _, e, _⟩ := HF.out; exact ⟨fo, caps, e⟩
  subst hvo
  have hmf : ∀ (fn : Fn) (first cap : Array Value) (w : World), (Instr.makeFunc fn first cap).run Try.prog w = .ok (.func fn first cap) w := fun _ _ _ _ => rfl
  go_enter Try.func68, Try.ntmps68
  go_wp2_with (first
    | ((with_reducible refine gate_dst (N := 3) rfl ?_); refine box_event ?hg (N := 3) ?hd (cs := #[.pointer (some ⟨g0, 0, none⟩)]) (t := 65) ?hr ?_; (case hd => rfl); (case hg => rfl); (case hr => first | (go_simp; done) | (go_simp; rfl)); intro g3 hg3 w3 hbox3 hb3; have H3 := Aside0.mk hbox3; have B3 := Aside0.mk hb3; clear hg3 hbox3 hb3)
    | ((with_reducible refine gate_dst (N := 4) rfl ?_); refine box_event ?hg (N := 4) ?hd (cs := #[.slice A1 l1.length c1]) (t := 28) ?hr ?_; (case hd => rfl); (case hg => rfl); (case hr => first | (go_simp; done) | (go_simp; rfl)); intro g4 hg4 w4 hbox4 hb4; have H4 := Aside0.mk hbox4; have B4 := Aside0.mk hb4; clear hg4 hbox4 hb4)
    | ((with_reducible refine gate_dst (N := 5) rfl ?_); refine box_event ?hg (N := 5) ?hd (cs := #[.func (.func fo) #[] caps]) (t := 75) ?hr ?_; (case hd => rfl); (case hg => rfl); (case hr => first | (go_simp; done) | (go_simp; rfl)); intro g5 hg5 w5 hbox5 hb5; have H5 := Aside0.mk hbox5; have B5 := Aside0.mk hb5; clear hg5 hbox5 hb5))
  go_step3
  go_wp2_with (first | ((with_reducible refine gate_dst (N := 7) rfl ?_); refine box_event ?hg (N := 7) ?hd (cs := #[.nilFunc]) (t := 75) ?hr ?_; (case hd => rfl); (case hg => rfl); (case hr => first | (go_simp; done) | (go_simp; rfl)); intro g7 hg7 w7 hbox7 hb7; have H7 := Aside0.mk hbox7; have B7 := Aside0.mk hb7; have G7 := Aside0.mk (Nat.le_of_eq hg7.symm); clear hg7 hbox7 hb7; have hcz7 : w7.cell? ⟨g7, 0, none⟩ = some .nilFunc := (blk_cell H7.out 0).trans rfl; have hfz7 := blk_frozen H7.out 0))
  have e5 : Below w.heap.size w w5 := below_step (below_step (below_step (Below.refl _ _) B3.out) B4.out) B5.out
  have e7 : Below w.heap.size w w7 := below_step e5 B7.out
  have G0 : w.heap.size ≤ g7 := Nat.le_trans e5.size G7.out
  have ENV : Aside0 (AlEnv w (w7.setCell ⟨g7, 0, none⟩ (.func (.func 79) #[] #[.pointer (some ⟨g4, 0, none⟩), .pointer (some ⟨g5, 0, none⟩)])) g0 g3 g7 N A0 c0 l m (.func (.func 79) #[] #[.pointer (some ⟨g4, 0, none⟩), .pointer (some ⟨g5, 0, none⟩)]) (fun i => branch_town_alone_1.f i l1 o)) := by
    have s45 : w4.heap.size ≤ w5.heap.size := B5.out.size
    have s35 : w3.heap.size ≤ w5.heap.size := Nat.le_trans B4.out.size s45
    have n3 : g3 ≠ g7 := Nat.ne_of_lt (Nat.lt_of_lt_of_le (blk_lt H3.out) (Nat.le_trans s35 G7.out))
    have n4 : g4 ≠ g7 := Nat.ne_of_lt (Nat.lt_of_lt_of_le (blk_lt H4.out) (Nat.le_trans s45 G7.out))
    have n5 : g5 ≠ g7 := Nat.ne_of_lt (Nat.lt_of_lt_of_le (blk_lt H5.out) G7.out)
    have n0 : g0 ≠ g7 := Nat.ne_of_lt (Nat.lt_of_lt_of_le (blk_lt HP0.out) G0)
    refine ⟨⟨below_set e7 G0, blk_far (blk_below (blk_below (blk_below H3.out B4.out) B5.out) B7.out) n3 _, blk_far (blk_below HP0.out e7) n0 _, Kd.C_below HR0.out (below_set e7 G0), hc0, blk_put H7.out 0 _ rfl, ?_⟩⟩
    exact IsFn_alone1 (blk_far (blk_below (blk_below H4.out B5.out) B7.out) n4 _) (Kd.C_below HR1.out (below_set e7 G0)) hc1 (blk_far (blk_below H5.out B7.out) n5 _) (HF.out.below (below_set e7 G0))
  clear e5 G0 G7
  clear e7 hcz7 hfz7
  refine (ENV.out.call k 0 (R 0) (HR.out 0 (by omega) (by omega))).mono ?_
  rintro e w8 ⟨rfl, henv⟩
  clear ENV B3 B4 B5 B7 H3 H4 H5 H7
  have HE := Aside0.mk henv
  clear henv
  have hx3 := blk_cell HE.out.hP 0
  replace hx3 := hx3.trans rfl
  have hx0 := blk_cell HE.out.hQ 0
  replace hx0 := hx0.trans rfl
  go_wp2
  go_step3
  go_wp2
  clear hx3 hx0
  go_loopg [22] n (fun kq v22 w' => ∃ (x : Int), v22 = .int .i64 x ∧ Aside0 (0 ≤ x ∧ x + kq = n) ∧ Aside0 (aloneB R n kq = aloneB R n n) ∧ Aside0 (AlEnv w w' g0 g3 g7 N A0 c0 l m (.func (.func 79) #[] #[.pointer (some ⟨g4, 0, none⟩), .pointer (some ⟨g5, 0, none⟩)]) (fun i => branch_town_alone_1.f i l1 o)))
  case atStart => exact ⟨0, rfl, ⟨by simp⟩, ⟨rfl⟩, HE⟩
  case round =>
    clear HE
    obtain ⟨x, rfl, HX, HA, HE⟩ := hrel
    cases gk with
    | zero =>
      have b0 : decide (x < N) = false := decide_eq_false (by have := HX.out; have := HN.out; omega)
      go_wp2
      rw [Exit.noGoto_ret]
      go_ret
      exact ⟨by rw [← HA.out]; rfl, HE.out.hb⟩
    | succ k1 =>
      have b0 : decide (x < N) = true := decide_eq_true (by have := HX.out; have := HN.out; omega)
      have p0 : 0 ≤ x := by have := HX.out; omega
      have p0b : decide (0 ≤ x) = true := decide_eq_true p0
      have p1 : x ≤ 6 := by have := HX.out; omega
      obtain ⟨jA, hjA⟩ : ∃ j_ : Int, (shr .i64 (R 0) x) = j_ := ⟨_, rfl⟩
      have hjA_ : ((R 0) / 2 ^ min (x).toNat 64) = jA := hjA
      have hjAz : x ≤ 64 → ((R 0) / 2 ^ (x).toNat) = jA := shr_small hjA
      have hjAw : ((R 0) / 2 ^ (x).toNat) = jA := hjAz (by omega)
      by_cases tA : Go.bits .and .i64 jA 1 = 1
      · have tA0 : ((Go.bits .and .i64 jA 1) == 1) = true := beq_iff_eq.mpr tA
        have tA1 : ((Go.bits .and .i64 jA 1) != 1) = false := bne_eq_false_iff_eq.mpr tA
        have HT := Aside0.mk tA
        clear tA
        go_wp2
        go_roundg k1
        case measure => omega
        case rel => exact ⟨x + 1, by first | rfl | (simp; done) | go_num, ⟨by have := HX.out; omega⟩, ⟨by rw [← HA.out]; exact (aloneB_skip R n k1 x (by have := HX.out; omega) (by unfold isAloneB hasB; rw [hjA, HT.out]; rfl)).symm⟩, HE⟩
      · have tA0 : ((Go.bits .and .i64 jA 1) == 1) = false := beq_eq_false_iff_ne.mpr tA
        have tA1 : ((Go.bits .and .i64 jA 1) != 1) = true := bne_iff_ne.mpr tA
        have HT := Aside0.mk tA
        clear tA
        have hx3 : _ = some (Value.pointer (some ⟨g0, 0, none⟩)) := blk_cell HE.out.hP 0
        have hx0 : _ = some (Value.int .i64 N) := blk_cell HE.out.hQ 0
        go_wp2
        clear hx3 hx0
        go_loopg [11, 34] n (fun kq v11 v34 w' => ∃ (y s : Int), v34 = .int .i64 y ∧ v11 = .int .i64 s ∧ Aside0 (0 ≤ y ∧ y + kq = n) ∧ Aside0 (s = gatherB R x y.toNat) ∧ Aside0 (AlEnv w w' g0 g3 g7 N A0 c0 l m (.func (.func 79) #[] #[.pointer (some ⟨g4, 0, none⟩), .pointer (some ⟨g5, 0, none⟩)]) (fun i => branch_town_alone_1.f i l1 o)))
        case atStart => exact ⟨0, 0, rfl, rfl, ⟨by simp⟩, ⟨rfl⟩, HE⟩
        case round =>
          clear HE
          obtain ⟨y, s, rfl, rfl, HY, HS, HE⟩ := hrel
          cases gk with
          | zero =>
            have c0b : decide (y < N) = false := decide_eq_false (by have := HY.out; have := HN.out; omega)
            have hx3 : _ = some (Value.pointer (some ⟨g0, 0, none⟩)) := blk_cell HE.out.hP 0
            have hx0 : _ = some (Value.int .i64 N) := blk_cell HE.out.hQ 0
            go_wp2
            clear hx3 hx0
            have HG : Aside0 (s = gatherB R x n) := ⟨by rw [HS.out]; congr 1; have := HY.out; omega⟩
            clear HS HY c0b
            go_loopg [53] n (fun kq v53 w' => ∃ (z : Int), v53 = .int .i64 z ∧ Aside0 (0 ≤ z ∧ z + kq = n) ∧ Aside0 (closedB R x s z.toNat = true) ∧ Aside0 (AlEnv w w' g0 g3 g7 N A0 c0 l m (.func (.func 79) #[] #[.pointer (some ⟨g4, 0, none⟩), .pointer (some ⟨g5, 0, none⟩)]) (fun i => branch_town_alone_1.f i l1 o)))
            case atStart => exact ⟨0, rfl, ⟨by simp⟩, ⟨rfl⟩, HE⟩
            case round =>
              clear HE
              obtain ⟨z, rfl, HZ, HC, HE⟩ := hrel
              cases gk with
              | zero =>
                have d0b : decide (z < N) = false := decide_eq_false (by have := HZ.out; have := HN.out; omega)
                go_wp2
                rw [Exit.noGoto_ret]
                go_ret
                have hz_ : z.toNat = n := by have := HZ.out; omega
                have hc_ := HC.out
                rw [hz_, HG.out] at hc_
                have hi_ : isAloneB R n x = true := by unfold isAloneB; rw [hc_]; simp [hasB, hjA, HT.out]
                exact ⟨by rw [← HA.out, aloneB_hit R n k1 x (by have := HX.out; omega) hi_, ← HG.out]; rfl, HE.out.hb⟩
              | succ k3 =>
                have d0b : decide (z < N) = true := decide_eq_true (by have := HZ.out; have := HN.out; omega)
                have q0 : 0 ≤ z := by have := HZ.out; omega
                have q0b : decide (0 ≤ z) = true := decide_eq_true q0
                have q1 : z ≤ 6 := by have := HZ.out; omega
                obtain ⟨jS, hjS⟩ : ∃ j_ : Int, (shr .i64 s z) = j_ := ⟨_, rfl⟩
                have hjS_ : (s / 2 ^ min (z).toNat 64) = jS := hjS
                have hjSz : z ≤ 64 → (s / 2 ^ (z).toNat) = jS := shr_small hjS
                have hjSw : (s / 2 ^ (z).toNat) = jS := hjSz (by omega)
                by_cases tS : Go.bits .and .i64 jS 1 = 1
                · have tS0 : ((Go.bits .and .i64 jS 1) == 1) = true := beq_iff_eq.mpr tS
                  have tS1 : ((Go.bits .and .i64 jS 1) != 1) = false := bne_eq_false_iff_eq.mpr tS
                  have HTS := Aside0.mk tS
                  clear tS
                  go_wp2_with fail
                  refine (HE.out.call k x (R x) (HR.out x (by omega) (by have := HX.out; omega))).mono ?_
                  rintro e w9 ⟨rfl, henv⟩
                  clear HE
                  have HE := Aside0.mk henv
                  clear henv
                  obtain ⟨jT, hjT⟩ : ∃ j_ : Int, (shr .i64 (R x) z) = j_ := ⟨_, rfl⟩
                  have hjT_ : ((R x) / 2 ^ min (z).toNat 64) = jT := hjT
                  have hjTz : z ≤ 64 → ((R x) / 2 ^ (z).toNat) = jT := shr_small hjT
                  have hjTw : ((R x) / 2 ^ (z).toNat) = jT := hjTz (by omega)
                  by_cases tT : Go.bits .and .i64 jT 1 = 0
                  · have tT0 : ((Go.bits .and .i64 jT 1) == 0) = true := beq_iff_eq.mpr tT
                    have tT1 : ((Go.bits .and .i64 jT 1) != 0) = false := bne_eq_false_iff_eq.mpr tT
                    have HTT := Aside0.mk tT
                    clear tT
                    go_wp2
                    go_roundg k1
                    case measure => omega
                    case rel => exact ⟨x + 1, by first | rfl | (simp; done) | go_num, ⟨by have := HX.out; omega⟩, ⟨by rw [← HA.out]; exact (aloneB_skip R n k1 x (by have := HX.out; omega) (by unfold isAloneB; rw [← HG.out, closedB_false R x s n z q0 (by have := HZ.out; omega) (by simp [hasB, hjS, HTS.out]) (by rw [hjT, HTT.out]; rfl)]; simp)).symm⟩, HE⟩
                  · have tT0 : ((Go.bits .and .i64 jT 1) == 0) = false := beq_eq_false_iff_ne.mpr tT
                    have tT1 : ((Go.bits .and .i64 jT 1) != 0) = true := bne_iff_ne.mpr tT
                    have HTT := Aside0.mk tT
                    clear tT
                    go_wp2
                    go_roundg k3
                    case measure => omega
                    case rel => exact ⟨z + 1, by first | rfl | (simp; done) | go_num, ⟨by have := HZ.out; omega⟩, ⟨by rw [closedB_succ R x s z q0, HC.out, hjT, tT0]; simp⟩, HE⟩
                · have tS0 : ((Go.bits .and .i64 jS 1) == 1) = false := beq_eq_false_iff_ne.mpr tS
                  have tS1 : ((Go.bits .and .i64 jS 1) != 1) = true := bne_iff_ne.mpr tS
                  have HTS := Aside0.mk tS
                  clear tS
                  go_wp2
                  go_roundg k3
                  case measure => omega
                  case rel => exact ⟨z + 1, by first | rfl | (simp; done) | go_num, ⟨by have := HZ.out; omega⟩, ⟨by rw [closedB_succ R x s z q0, HC.out]; simp [hasB, hjS, HTS.out]⟩, HE⟩
          | succ k2 =>
            have c0b : decide (y < N) = true := decide_eq_true (by have := HY.out; have := HN.out; omega)
            have q0 : 0 ≤ y := by have := HY.out; omega
            have q0b : decide (0 ≤ y) = true := decide_eq_true q0
            have q1 : y ≤ 6 := by have := HY.out; omega
            go_wp2_with fail
            refine (HE.out.call k y (R y) (HR.out y (by omega) (by have := HY.out; omega))).mono ?_
            rintro e w9 ⟨rfl, henv⟩
            clear HE
            have HE := Aside0.mk henv
            clear henv
            obtain ⟨jR, hjR⟩ : ∃ j_ : Int, (shr .i64 (R y) x) = j_ := ⟨_, rfl⟩
            have hjR_ : ((R y) / 2 ^ min (x).toNat 64) = jR := hjR
            have hjRz : x ≤ 64 → ((R y) / 2 ^ (x).toNat) = jR := shr_small hjR
            have hjRw : ((R y) / 2 ^ (x).toNat) = jR := hjRz (by omega)
            by_cases tR : Go.bits .and .i64 jR 1 = 1
            · have tR0 : ((Go.bits .and .i64 jR 1) == 1) = true := beq_iff_eq.mpr tR
              have tR1 : ((Go.bits .and .i64 jR 1) != 1) = false := bne_eq_false_iff_eq.mpr tR
              have HTR := Aside0.mk tR
              clear tR
              obtain ⟨jL, hjL⟩ : ∃ j_ : Int, (shl .i64 1 y) = j_ := ⟨_, rfl⟩
              have hjL_ : (IntKind.i64.wrap (1 * 2 ^ min (y).toNat 64)) = jL := hjL
              have hjLz : y ≤ 64 → (IntKind.i64.wrap (1 * 2 ^ (y).toNat)) = jL := shl_small hjL
              have hjLu : (IntKind.i64.wrap (2 ^ min (y).toNat 64)) = jL := by have h_ := hjL_; rw [Int.one_mul] at h_; exact h_
              have hjLv : y ≤ 64 → (IntKind.i64.wrap (2 ^ (y).toNat)) = jL := fun hle_ => by have h_ := hjLz hle_; rw [Int.one_mul] at h_; exact h_
              have hjLy : (wrap64 (1 * 2 ^ min (y).toNat 64)) = jL := (i64_w _).symm.trans hjL_
              have hjLw1 : (IntKind.i64.wrap (1 * 2 ^ (y).toNat)) = jL := hjLz (by omega)
              have hjLw2 : (IntKind.i64.wrap (2 ^ (y).toNat)) = jL := hjLv (by omega)
              have hjLw3 : (wrap64 (1 * 2 ^ (y).toNat)) = jL := (i64_w _).symm.trans (hjLz (by omega))
              have hjLw4 : (wrap64 (2 ^ (y).toNat)) = jL := (i64_w _).symm.trans (hjLv (by omega))
              have hjLx : y ≤ 64 → (wrap64 (1 * 2 ^ (y).toNat)) = jL := fun h_ => (i64_w _).symm.trans (hjLz h_)
              go_wp2
              go_roundg k2
              case measure => omega
              case rel => exact ⟨y + 1, _, by first | rfl | (simp; done) | go_num, rfl, ⟨by have := HY.out; omega⟩, ⟨by rw [gatherB_succ R x y q0, ← HS.out]; simp [hasB, hjR, HTR.out, hjL]⟩, HE⟩
            · have tR0 : ((Go.bits .and .i64 jR 1) == 1) = false := beq_eq_false_iff_ne.mpr tR
              have tR1 : ((Go.bits .and .i64 jR 1) != 1) = true := bne_iff_ne.mpr tR
              have HTR := Aside0.mk tR
              clear tR
              go_wp2
              go_roundg k2
              case measure => omega
              case rel => exact ⟨y + 1, s, by first | rfl | (simp; done) | go_num, rfl, ⟨by have := HY.out; omega⟩, ⟨by rw [gatherB_succ R x y q0, ← HS.out]; simp [hasB, hjR, HTR.out]⟩, HE⟩
theorem gatherB_congr {R S : Int → Int} {n : Nat} (h : ∀ d : Int, 0 ≤ d → d < n → R d = S d) (c : Int) : ∀ j, j ≤ n → gatherB R c j = gatherB S c j
  | 0, _ => rfl
  | j + 1, hj => by simp only [gatherB]; rw [gatherB_congr h c j (by omega), h j (by omega) (by omega)]
theorem closedB_congr {R S : Int → Int} {n : Nat} (h : ∀ d : Int, 0 ≤ d → d < n → R d = S d) (c s : Int) (h0 : 0 ≤ c) (h1 : c < n) : ∀ j, closedB R c s j = closedB S c s j
  | 0 => rfl
  | j + 1 => by simp only [closedB]; rw [closedB_congr h c s h0 h1 j, h c h0 h1]
theorem isAloneB_congr {R S : Int → Int} {n : Nat} (h : ∀ d : Int, 0 ≤ d → d < n → R d = S d) (c : Int) (h0 : 0 ≤ c) (h1 : c < n) : isAloneB R n c = isAloneB S n c := by
  unfold isAloneB; rw [gatherB_congr h c n (Nat.le_refl _), closedB_congr h c _ h0 h1, h 0 (by omega) (by omega)]
theorem aloneB_congr {R S : Int → Int} {n : Nat} (h : ∀ d : Int, 0 ≤ d → d < n → R d = S d) : ∀ j, j ≤ n → aloneB R n j = aloneB S n j
  | 0, _ => rfl
  | j + 1, hj => by simp only [aloneB]; rw [aloneB_congr h j (by omega), isAloneB_congr h _ (by omega) (by omega), gatherB_congr h _ n (Nat.le_refl _)]
def branch_town_alone.f (k : Nat) (a0_0 : Int) (l0_1 : List (S30)) (l1 : List Int) (a2 : Int → Option Bool) : Option Int :=
  if 1 ≤ a0_0 ∧ a0_0 ≤ 7 ∧ (∀ d ∈ List.range a0_0.toNat, (branch_town_alone_2.f k (d : Int) a0_0 l0_1 (fun i => branch_town_alone_1.f i l1 a2)).isSome = true) then
    some (aloneB (fun d => (branch_town_alone_2.f k d a0_0 l0_1 (fun i => branch_town_alone_1.f i l1 a2)).getD 0) a0_0.toNat a0_0.toNat) else none
theorem branch_town_alone.mono : ∀ a0 a1 a3 a4 k, LeO (branch_town_alone.f k a0 a1 a3 a4) (branch_town_alone.f (k + 1) a0 a1 a3 a4) := by
  intro a0 a1 a3 a4 k r h
  unfold branch_town_alone.f at h ⊢
  split at h
  case isFalse => exact absurd h (by simp)
  rename_i hc
  obtain ⟨h1, h2, h3⟩ := hc
  have hs : ∀ d ∈ List.range a0.toNat, ∃ r, branch_town_alone_2.f k (d : Int) a0 a1 (fun i => branch_town_alone_1.f i a3 a4) = some r ∧ branch_town_alone_2.f (k + 1) (d : Int) a0 a1 (fun i => branch_town_alone_1.f i a3 a4) = some r := by
    intro d hd
    obtain ⟨r, hr⟩ := Option.isSome_iff_exists.1 (h3 d hd)
    exact ⟨r, hr, branch_town_alone_2.mono _ _ _ _ k r hr⟩
  rw [if_pos ⟨h1, h2, fun d hd => by obtain ⟨r, _, h⟩ := hs d hd; rw [h]; rfl⟩, ← h]
  refine congrArg some (aloneB_congr (fun d h0 h1 => ?_) _ (Nat.le_refl _)).symm
  obtain ⟨r, e1, e2⟩ := hs d.toNat (List.mem_range.2 (by omega))
  rw [Int.toNat_of_nonneg h0] at e1 e2
  simp only [e1, e2]
theorem branch_town_alone.calls (k : Nat) (g0 : Nat) (a0_0 : Int) (A0_1 : Option Addr) (c0_1 : Nat) (l0_1 : List (S30)) (a0_2 : Option Nat) (A1 : Option Addr) (c1 : Nat) (l1 : List Int) (vf2 : Value) (a2 : Int → Option Bool) (r : Int) (w : World) (hP0 : w.heap[g0]? = some (.cells #[.int .i64 a0_0, .slice A0_1 l0_1.length c0_1, .map a0_2] 70 (0, 0))) (hr0_1 : Kd.C k30 w A0_1 l0_1.length l0_1) (hc0_1 : l0_1.length ≤ c0_1) (hr1 : Kd.C (Kd.int .i64) w A1 l1.length l1) (hc1 : l1.length ≤ c1) (hF2 : IsFn Try.prog w vf2 a2) (h : branch_town_alone.f k a0_0 l0_1 l1 a2 = some r) :
    Calls Try.prog 68 #[.pointer (some ⟨g0, 0, none⟩), .slice A1 l1.length c1, vf2] w fun e w' => e = .returned (.int .i64 r) ∧ Below w.heap.size w w' := by
  unfold branch_town_alone.f at h
  split at h
  case isFalse => exact absurd h (by simp)
  rename_i hc
  obtain ⟨h1, h2, h3⟩ := hc
  obtain rfl := Option.some.inj h
  refine alone_calls k g0 a0_0.toNat A0_1 c0_1 l0_1 a0_2 A1 c1 l1 vf2 a2 _ w a0_0 (by omega) (by omega) (by omega) hP0 hr0_1 hc0_1 hr1 hc1 hF2 (fun d e0 e1 => ?_)
  obtain ⟨r, hr⟩ := Option.isSome_iff_exists.1 (h3 d.toNat (List.mem_range.2 (by omega)))
  rw [Int.toNat_of_nonneg e0] at hr
  rw [hr]; rfl
end Go.Proofs.Ytpmadffgdfholaa.B
namespace Go.Proofs.Ytpmadffgdfholaa.B
open Go.RowKit Go.Proofs.YtpmadffgdfholaaW.PrintWords Go.Proofs.YtpmadffgdfholaaW.PrintLast Go.Proofs.YtpmadffgdfholaaW.PrintMore
attribute [local go_sem] max2_int min2_int max_two min_two max_three min_three max_four min_four   -- for this text's walks alone
set_option linter.unusedVariables false
set_option linter.unusedSimpArgs false
mutual
def branch_town_cheapest.l0 : Nat → (Int → Option Bool) → List Int → Int → List (S41) → Int → List (S30) → Option (Int × (List (S41)) × Bool)
  | 0, _, _, _, _, _, _ => none
  | k + 1, x2, x9, x10, x11, x1000, x1001 => (branch_town_alone.f k x1000 x1001 x9 x2).bind fun t104 => (if t104 = 0 then (some (x10, x11, true)) else ((branch_town_entering.f k x1000 x1001 t104).bind fun t105 => (branch_town_cheapest.l1 k x2 x9 x10 x11 t104 (-1) t105 (t105.length : Int) 0 x1000 x1001)))
def branch_town_cheapest.l1 : Nat → (Int → Option Bool) → List Int → Int → List (S41) → Int → Int → List Int → Int → Int → Int → List (S30) → Option (Int × (List (S41)) × Bool)
  | 0, _, _, _, _, _, _, _, _, _, _, _ => none
  | k + 1, x2, x9, x10, x11, x12, x13, x30, x31, x32, x1000, x1001 => if x32 < x31 then (if 0 ≤ x32 then (if x32 < (x30.length : Int) then ((x2 (rd x30 x32)).bind fun t109 => (if t109 = true then (branch_town_cheapest.l1 k x2 x9 x10 x11 x12 x13 x30 x31 (wrap64 (x32 + 1)) x1000 x1001) else (if x13 < 0 then (if 0 ≤ (rd x30 x32) then (if (rd x30 x32) < (x9.length : Int) then (branch_town_cheapest.l1 k x2 x9 x10 x11 x12 (rd x9 (rd x30 x32)) x30 x31 (wrap64 (x32 + 1)) x1000 x1001) else (none)) else (none)) else (if 0 ≤ (rd x30 x32) then (if (rd x30 x32) < (x9.length : Int) then (if (rd x9 (rd x30 x32)) < x13 then (branch_town_cheapest.l1 k x2 x9 x10 x11 x12 (rd x9 (rd x30 x32)) x30 x31 (wrap64 (x32 + 1)) x1000 x1001) else (branch_town_cheapest.l1 k x2 x9 x10 x11 x12 x13 x30 x31 (wrap64 (x32 + 1)) x1000 x1001)) else (none)) else (none))))) else (none)) else (none)) else (if x13 < 0 then (some (0, ([] : List (S41)), false)) else ((branch_town_entering.f k x1000 x1001 x12).bind fun t113 => (branch_town_cheapest.l2 k x2 x9 x10 x11 x12 x13 t113 (t113.length : Int) 0 x1000 x1001)))
def branch_town_cheapest.l2 : Nat → (Int → Option Bool) → List Int → Int → List (S41) → Int → Int → List Int → Int → Int → Int → List (S30) → Option (Int × (List (S41)) × Bool)
  | 0, _, _, _, _, _, _, _, _, _, _, _ => none
  | k + 1, x2, x9, x10, x11, x12, x13, x61, x62, x63, x1000, x1001 => if x63 < x62 then (if 0 ≤ x63 then (if x63 < (x61.length : Int) then (if 0 ≤ (rd x61 x63) then (if (rd x61 x63) < (x9.length : Int) then (branch_town_cheapest.l2 k x2 (x9.set ((rd x61 x63) : Int).toNat (wrap64 ((rd x9 (rd x61 x63)) - x13))) x10 x11 x12 x13 x61 x62 (wrap64 (x63 + 1)) x1000 x1001) else (none)) else (none)) else (none)) else (none)) else (if x13 > 0 then (if x11.length < 8796093022208 then (branch_town_cheapest.l0 k x2 x9 (wrap64 (x10 + x13)) (x11 ++ [(⟨x12, x13⟩ : S41)]) x1000 x1001) else (none)) else (branch_town_cheapest.l0 k x2 x9 x10 x11 x1000 x1001))
end
def branch_town_cheapest.f (k : Nat) (a0_0 : Int) (l0_1 : List (S30)) (l1 : List Int) (a2 : (Int → Option Bool)) : Option (Int × (List (S41)) × Bool) := (slices_Clone.f l1).bind fun t101 => (branch_town_cheapest.l0 k a2 t101 0 ([] : List (S41)) a0_0 l0_1)
theorem branch_town_cheapest.mono_l : ∀ k, (∀ y0 y1 y2 y3 y4 y5, LeO (branch_town_cheapest.l0 k y0 y1 y2 y3 y4 y5) (branch_town_cheapest.l0 (k + 1) y0 y1 y2 y3 y4 y5)) ∧ (∀ y0 y1 y2 y3 y4 y5 y6 y7 y8 y9 y10, LeO (branch_town_cheapest.l1 k y0 y1 y2 y3 y4 y5 y6 y7 y8 y9 y10) (branch_town_cheapest.l1 (k + 1) y0 y1 y2 y3 y4 y5 y6 y7 y8 y9 y10)) ∧ (∀ y0 y1 y2 y3 y4 y5 y6 y7 y8 y9 y10, LeO (branch_town_cheapest.l2 k y0 y1 y2 y3 y4 y5 y6 y7 y8 y9 y10) (branch_town_cheapest.l2 (k + 1) y0 y1 y2 y3 y4 y5 y6 y7 y8 y9 y10))
  | 0 => ⟨fun _ _ _ _ _ _ r h => by simp [branch_town_cheapest.l0] at h, fun _ _ _ _ _ _ _ _ _ _ _ r h => by simp [branch_town_cheapest.l1] at h, fun _ _ _ _ _ _ _ _ _ _ _ r h => by simp [branch_town_cheapest.l2] at h⟩
  | k + 1 => by
    obtain ⟨ih0, ih1, ih2⟩ := branch_town_cheapest.mono_l k
    refine ⟨?_, ?_, ?_⟩
    · intro y0 y1 y2 y3 y4 y5
      unfold branch_town_cheapest.l0
      repeat' first
      | (with_reducible exact ih0 _ _ _ _ _ _)
      | (with_reducible exact ih1 _ _ _ _ _ _ _ _ _ _ _)
      | (with_reducible exact ih2 _ _ _ _ _ _ _ _ _ _ _)
      | (with_reducible exact branch_town_alone.mono _ _ _ _ _)
      | (with_reducible exact branch_town_entering.mono _ _ _ _)
      | (with_reducible exact LeO.refl _)
      | (with_reducible exact LeO.none _)
      | (with_reducible refine LeO.ite ?_ ?_)
      | (with_reducible refine LeO.bind ?_ (fun _ => ?_))
      | exact ih0 _ _ _ _ _ _
      | exact ih1 _ _ _ _ _ _ _ _ _ _ _
      | exact ih2 _ _ _ _ _ _ _ _ _ _ _
      | exact branch_town_alone.mono _ _ _ _ _
      | exact branch_town_entering.mono _ _ _ _
      | exact LeO.none _
      | refine LeO.ite ?_ ?_
      | refine LeO.bind ?_ (fun _ => ?_)
    · intro y0 y1 y2 y3 y4 y5 y6 y7 y8 y9 y10
      unfold branch_town_cheapest.l1
      repeat' first
      | (with_reducible exact ih0 _ _ _ _ _ _)
      | (with_reducible exact ih1 _ _ _ _ _ _ _ _ _ _ _)
      | (with_reducible exact ih2 _ _ _ _ _ _ _ _ _ _ _)
      | (with_reducible exact branch_town_alone.mono _ _ _ _ _)
      | (with_reducible exact branch_town_entering.mono _ _ _ _)
      | (with_reducible exact LeO.refl _)
      | (with_reducible exact LeO.none _)
      | (with_reducible refine LeO.ite ?_ ?_)
      | (with_reducible refine LeO.bind ?_ (fun _ => ?_))
      | exact ih0 _ _ _ _ _ _
      | exact ih1 _ _ _ _ _ _ _ _ _ _ _
      | exact ih2 _ _ _ _ _ _ _ _ _ _ _
      | exact branch_town_alone.mono _ _ _ _ _
      | exact branch_town_entering.mono _ _ _ _
      | exact LeO.none _
      | refine LeO.ite ?_ ?_
      | refine LeO.bind ?_ (fun _ => ?_)
    · intro y0 y1 y2 y3 y4 y5 y6 y7 y8 y9 y10
      unfold branch_town_cheapest.l2
      repeat' first
      | (with_reducible exact ih0 _ _ _ _ _ _)
      | (with_reducible exact ih1 _ _ _ _ _ _ _ _ _ _ _)
      | (with_reducible exact ih2 _ _ _ _ _ _ _ _ _ _ _)
      | (with_reducible exact branch_town_alone.mono _ _ _ _ _)
      | (with_reducible exact branch_town_entering.mono _ _ _ _)
      | (with_reducible exact LeO.refl _)
      | (with_reducible exact LeO.none _)
      | (with_reducible refine LeO.ite ?_ ?_)
      | (with_reducible refine LeO.bind ?_ (fun _ => ?_))
      | exact ih0 _ _ _ _ _ _
      | exact ih1 _ _ _ _ _ _ _ _ _ _ _
      | exact ih2 _ _ _ _ _ _ _ _ _ _ _
      | exact branch_town_alone.mono _ _ _ _ _
      | exact branch_town_entering.mono _ _ _ _
      | exact LeO.none _
      | refine LeO.ite ?_ ?_
      | refine LeO.bind ?_ (fun _ => ?_)
theorem branch_town_cheapest.mono : ∀ a0 a1 a2 a3 k, LeO (branch_town_cheapest.f k a0 a1 a2 a3) (branch_town_cheapest.f (k + 1) a0 a1 a2 a3) := by
  intro a0 a1 a2 a3 k
  obtain ⟨ih0, ih1, ih2⟩ := branch_town_cheapest.mono_l k
  unfold branch_town_cheapest.f
  repeat' first
      | (with_reducible exact ih0 _ _ _ _ _ _)
      | (with_reducible exact ih1 _ _ _ _ _ _ _ _ _ _ _)
      | (with_reducible exact ih2 _ _ _ _ _ _ _ _ _ _ _)
      | (with_reducible exact branch_town_alone.mono _ _ _ _ _)
      | (with_reducible exact branch_town_entering.mono _ _ _ _)
      | (with_reducible exact LeO.refl _)
      | (with_reducible exact LeO.none _)
      | (with_reducible refine LeO.ite ?_ ?_)
      | (with_reducible refine LeO.bind ?_ (fun _ => ?_))
      | exact ih0 _ _ _ _ _ _
      | exact ih1 _ _ _ _ _ _ _ _ _ _ _
      | exact ih2 _ _ _ _ _ _ _ _ _ _ _
      | exact branch_town_alone.mono _ _ _ _ _
      | exact branch_town_entering.mono _ _ _ _
      | exact LeO.none _
      | refine LeO.ite ?_ ?_
      | refine LeO.bind ?_ (fun _ => ?_)
set_option maxHeartbeats 8000000 in
set_option maxRecDepth 100000 in
theorem branch_town_cheapest.calls (k : Nat) (g0 : Nat) (a0_0 : Int) (A0_1 : Option Addr) (c0_1 : Nat) (l0_1 : List (S30)) (a0_2 : Option Nat) (A1 : Option Addr) (c1 : Nat) (l1 : List Int) (vf2 : Value) (a2 : (Int → Option Bool)) (r1 : Int) (r2 : List (S41)) (r3 : Bool) (w : World) (hP0 : w.heap[g0]? = some (.cells #[.int .i64 a0_0, .slice A0_1 l0_1.length c0_1, .map a0_2] 70 (0, 0))) (hr0_1 : Kd.C k30 w A0_1 l0_1.length l0_1) (hc0_1 : l0_1.length ≤ c0_1) (hr1 : Kd.C (Kd.int .i64) w A1 l1.length l1) (hc1 : l1.length ≤ c1) (hF2 : IsFn Try.prog w vf2 a2) (h : branch_town_cheapest.f k a0_0 l0_1 l1 a2 = some (r1, r2, r3)) :
    Calls Try.prog 46 #[.pointer (some ⟨g0, 0, none⟩), .slice A1 l1.length c1, vf2] w fun e w' => ∃ v1_ : Value, e = .returned (.tuple #[.int .i64 r1, v1_, .bool r3]) ∧ Kd.R k41 41 w' w.heap.size (fun _ => True) v1_ r2 ∧ Below w.heap.size w w' := by
  have hu41 := Try.underlying41
  have HP0 := Aside0.mk hP0
  clear hP0
  have HR0_1 := Aside0.mk hr0_1
  have HC0_1 := Aside0.mk hc0_1
  clear hr0_1 hc0_1
  have HR1 := Aside0.mk hr1
  have HC1 := Aside0.mk hc1
  clear hr1 hc1
  have HF2 := Aside0.mk hF2
  clear hF2
  have HB := Aside0.mk (Below.refl w.heap.size w)
  have H : ((slices_Clone.f l1).bind fun t101 => (branch_town_cheapest.l0 k a2 t101 0 ([] : List (S41)) a0_0 l0_1)) = some (r1, r2, r3) := h
  clear h
  replace H := Option.bind_eq_some_iff.mp H
  obtain ⟨t101, A40, H⟩ := H
  replace H : (branch_town_cheapest.l0 k a2 t101 0 ([] : List (S41)) a0_0 l0_1) = some (r1, r2, r3) := H
  have A4 := Aside0.mk A40
  clear A40
  have H' := Aside0.mk H
  clear H
  go_enter Try.func46, Try.ntmps46
  go_wp2_with (first | ((with_reducible refine gate_callee (f := 67) rfl ?_); refine goesL_ (some 19) rfl rfl Try.func67 (by kernel_rfl) rfl #[.slice A1 l1.length c1] rfl (by (try simp only [List.map_toArray, List.map_cons, List.map_nil]); first | done | rfl | (simp only [List.length_drop, List.length_take]; rfl)) ?_; (with_reducible refine (slices_Clone.calls _ _ l1 t101 _ ?side1 ?side2 A4.out).mono ?_); (case side1 => repeat (first | exact HR1.out | (with_reducible refine Kd.C_alloc ?_ _) | (with_reducible refine Kd.C_drewN ?_ _) | (with_reducible refine Kd.C_drew ?_))); (case side2 => exact HC1.out); rintro e w5 ⟨v102, rfl, ho0, hb⟩; refine ⟨_, rfl, ?_⟩; have n0_ := Aside0.mk (Kd.R_lower ho0 (below_size (by repeat (first | (with_reducible first | exact HB.out | apply below_alloc | apply pw_below_drewN | apply below_drew1) | exact HB.out)))); have n1_ := Aside0.mk (below_step (by repeat (first | (with_reducible first | exact HB.out | apply below_alloc | apply pw_below_drewN | apply below_drew1) | exact HB.out)) hb); clear HB; have HO103 := n0_; have HB := n1_; clear n0_ n1_; (try clear hb); (try clear hb2); (try clear hk); (try clear hi); (try clear ho0)))
  go_loopg [10, 11] k (fun kq v10 v11 w' => ∃ (x9_1 : List Int) (x10_1 : Int) (x11_1 : List (S41)), v10 = .int .i64 x10_1 ∧ Aside0 (branch_town_cheapest.l0 kq a2 x9_1 x10_1 x11_1 a0_0 l0_1 = some (r1, r2, r3)) ∧ Aside0 (kq ≤ k) ∧ Aside0 (Kd.R (Kd.int .i64) 3 w' w.heap.size (fun _ => True) v102 x9_1) ∧ Aside0 (Kd.R k41 41 w' w.heap.size (fun _ => True) v11 x11_1) ∧ Aside0 (Below w.heap.size w w'))
  case atStart => exact ⟨(t101), (0), (([] : List (S41))), (by first | rfl | (simp; done) | (simp [*]; done)), H', ⟨Nat.le_refl _⟩, ⟨by (with_reducible repeat (first | apply Kd.R_alloc | apply Kd.R_drewN | apply Kd.R_drew)); exact HO103.out⟩, ⟨by first | exact Kd.R_nil _ _ _ _ _ | exact Kd.N_nil _ _ _ _ _ | exact Kd.V_nil _ _ _ _ _ | exact Kd.Q_nil _ _ _ _ _ | exact Kd.S_nil _ _ _ _ _⟩, ⟨by repeat (first | (with_reducible first | exact HB.out | apply below_alloc | apply pw_below_drewN | apply below_drew1) | exact HB.out)⟩⟩
  case round =>
    clear H'
    try clear c1
    try clear p2
    try clear c4
    obtain ⟨x9_1, x10_1, x11_1, rfl, HA, HK1, HO_9, HO_11, HB⟩ := hrel
    cases gk with
    | zero => exact absurd HA.out (by simp [branch_town_cheapest.l0])
    | succ k1 =>
      have H := HA.out
      clear HA
      simp only [branch_town_cheapest.l0] at H
      replace H := Option.bind_eq_some_iff.mp H
      obtain ⟨t104, A60, H⟩ := H
      replace H : (if t104 = 0 then (some (x10_1, x11_1, true)) else ((branch_town_entering.f k1 a0_0 l0_1 t104).bind fun t105 => (branch_town_cheapest.l1 k1 a2 x9_1 x10_1 x11_1 t104 (-1) t105 (t105.length : Int) 0 a0_0 l0_1))) = some (r1, r2, r3) := H
      have A6 := Aside0.mk A60
      clear A60
      by_cases c7 : t104 = 0
      · rw [if_pos c7] at H
        have c7b0 : (t104 == 0) = true := beq_iff_eq.mpr c7
        have c7b1 : (t104 != 0) = false := bne_eq_false_iff_eq.mpr c7
        clear c7
        simp only [Option.some.injEq, Prod.mk.injEq] at H
        obtain ⟨rfl, rfl, rfl⟩ := H
        obtain ⟨Ao8, co8, eo8⟩ := Kd.R_slice HO_9.out
        subst eo8
        go_wp2_with (first | ((with_reducible refine gate_callee (f := 68) rfl ?_); refine goesL_ (some 23) rfl rfl Try.func68 (by kernel_rfl) rfl #[.pointer (some ⟨g0, 0, none⟩), .slice Ao8 x9_1.length co8, vf2] rfl (by (try simp only [List.map_toArray, List.map_cons, List.map_nil]); first | done | rfl | (simp only [List.length_drop, List.length_take]; rfl)) ?_; (with_reducible refine (branch_town_alone.calls k1 g0 a0_0 A0_1 c0_1 l0_1 a0_2 _ _ x9_1 vf2 a2 t104 _ ?side1 ?side2 ?side3 ?side4 ?side5 ?side6 A6.out).mono ?_); (case side1 => exact ((show Below _ _ _ from by repeat (first | (with_reducible first | exact HB.out | apply below_alloc | apply pw_below_drewN | apply below_drew1) | exact HB.out)).block _ (blk_lt HP0.out)).trans HP0.out); (case side2 => repeat (first | exact (Kd.C_below HR0_1.out HB.out) | (with_reducible refine Kd.C_alloc ?_ _) | (with_reducible refine Kd.C_drewN ?_ _) | (with_reducible refine Kd.C_drew ?_))); (case side3 => exact HC0_1.out); (case side4 => repeat (first | exact (Kd.R_reads' HO_9.out).2.2 | (with_reducible refine Kd.C_alloc ?_ _) | (with_reducible refine Kd.C_drewN ?_ _) | (with_reducible refine Kd.C_drew ?_))); (case side5 => exact (Kd.R_reads' HO_9.out).2.1); (case side6 => exact IsFn.below HF2.out (by repeat (first | (with_reducible first | exact HB.out | apply below_alloc | apply pw_below_drewN | apply below_drew1) | exact HB.out))); rintro e w9 ⟨rfl, hb⟩; refine ⟨_, rfl, ?_⟩; have n0_ := Aside0.mk (Kd.R_below (by (with_reducible repeat (first | apply Kd.R_alloc | apply Kd.R_drewN | apply Kd.R_drew)); exact HO_9.out) hb); have n1_ := Aside0.mk (Kd.R_below (by (with_reducible repeat (first | apply Kd.R_alloc | apply Kd.R_drewN | apply Kd.R_drew)); exact HO_11.out) hb); have n2_ := Aside0.mk (below_step (by repeat (first | (with_reducible first | exact HB.out | apply below_alloc | apply pw_below_drewN | apply below_drew1) | exact HB.out)) hb); clear HO_9; clear HO_11; clear HB; have HO_9 := n0_; have HO_11 := n1_; have HB := n2_; clear n0_ n1_ n2_; (try clear hb); (try clear hb2); (try clear hk); (try clear hi)))
        go_ret3
        exact ⟨_, by first | rfl | (simp [errW_none, errW_some] <;> rfl) | (simp [*, errW_none, errW_some] <;> rfl), by (with_reducible repeat (first | apply Kd.R_alloc | apply Kd.R_drewN | apply Kd.R_drew)); exact HO_11.out, by repeat (first | (with_reducible first | exact HB.out | apply below_alloc | apply pw_below_drewN | apply below_drew1) | exact HB.out)⟩
      · rw [if_neg c7] at H
        have c7b0 : (t104 == 0) = false := beq_eq_false_iff_ne.mpr c7
        have c7b1 : (t104 != 0) = true := bne_iff_ne.mpr c7
        replace H := Option.bind_eq_some_iff.mp H
        obtain ⟨t105, A100, H⟩ := H
        replace H : (branch_town_cheapest.l1 k1 a2 x9_1 x10_1 x11_1 t104 (-1) t105 (t105.length : Int) 0 a0_0 l0_1) = some (r1, r2, r3) := H
        have A10 := Aside0.mk A100
        clear A100
        have H' := Aside0.mk H
        clear H
        obtain ⟨Ao11, co11, eo11⟩ := Kd.R_slice HO_9.out
        subst eo11
        go_wp2_with (first | ((with_reducible refine gate_callee (f := 68) rfl ?_); refine goesL_ (some 23) rfl rfl Try.func68 (by kernel_rfl) rfl #[.pointer (some ⟨g0, 0, none⟩), .slice Ao11 x9_1.length co11, vf2] rfl (by (try simp only [List.map_toArray, List.map_cons, List.map_nil]); first | done | rfl | (simp only [List.length_drop, List.length_take]; rfl)) ?_; (with_reducible refine (branch_town_alone.calls k1 g0 a0_0 A0_1 c0_1 l0_1 a0_2 _ _ x9_1 vf2 a2 t104 _ ?side1 ?side2 ?side3 ?side4 ?side5 ?side6 A6.out).mono ?_); (case side1 => exact ((show Below _ _ _ from by repeat (first | (with_reducible first | exact HB.out | apply below_alloc | apply pw_below_drewN | apply below_drew1) | exact HB.out)).block _ (blk_lt HP0.out)).trans HP0.out); (case side2 => repeat (first | exact (Kd.C_below HR0_1.out HB.out) | (with_reducible refine Kd.C_alloc ?_ _) | (with_reducible refine Kd.C_drewN ?_ _) | (with_reducible refine Kd.C_drew ?_))); (case side3 => exact HC0_1.out); (case side4 => repeat (first | exact (Kd.R_reads' HO_9.out).2.2 | (with_reducible refine Kd.C_alloc ?_ _) | (with_reducible refine Kd.C_drewN ?_ _) | (with_reducible refine Kd.C_drew ?_))); (case side5 => exact (Kd.R_reads' HO_9.out).2.1); (case side6 => exact IsFn.below HF2.out (by repeat (first | (with_reducible first | exact HB.out | apply below_alloc | apply pw_below_drewN | apply below_drew1) | exact HB.out))); rintro e w12 ⟨rfl, hb⟩; refine ⟨_, rfl, ?_⟩; have n0_ := Aside0.mk (Kd.R_below (by (with_reducible repeat (first | apply Kd.R_alloc | apply Kd.R_drewN | apply Kd.R_drew)); exact HO_9.out) hb); have n1_ := Aside0.mk (Kd.R_below (by (with_reducible repeat (first | apply Kd.R_alloc | apply Kd.R_drewN | apply Kd.R_drew)); exact HO_11.out) hb); have n2_ := Aside0.mk (below_step (by repeat (first | (with_reducible first | exact HB.out | apply below_alloc | apply pw_below_drewN | apply below_drew1) | exact HB.out)) hb); clear HO_9; clear HO_11; clear HB; have HO_9 := n0_; have HO_11 := n1_; have HB := n2_; clear n0_ n1_ n2_; (try clear hb); (try clear hb2); (try clear hk); (try clear hi)) | ((with_reducible refine gate_callee (f := 59) rfl ?_); refine goesL_ (some 30) rfl rfl Try.func59 (by kernel_rfl) rfl #[.pointer (some ⟨g0, 0, none⟩), .int .i64 t104] rfl (by (try simp only [List.map_toArray, List.map_cons, List.map_nil]); first | done | rfl | (simp only [List.length_drop, List.length_take]; rfl)) ?_; (with_reducible refine (branch_town_entering.calls k1 g0 a0_0 A0_1 c0_1 l0_1 a0_2 t104 t105 _ ?side1 ?side2 ?side3 A10.out).mono ?_); (case side1 => exact ((show Below _ _ _ from by repeat (first | (with_reducible first | exact HB.out | apply below_alloc | apply pw_below_drewN | apply below_drew1) | exact HB.out)).block _ (blk_lt HP0.out)).trans HP0.out); (case side2 => repeat (first | exact (Kd.C_below HR0_1.out HB.out) | (with_reducible refine Kd.C_alloc ?_ _) | (with_reducible refine Kd.C_drewN ?_ _) | (with_reducible refine Kd.C_drew ?_))); (case side3 => exact HC0_1.out); rintro e w13 ⟨v106, rfl, ho0, hb⟩; refine ⟨_, rfl, ?_⟩; have n0_ := Aside0.mk (Kd.R_elder' (by (with_reducible repeat (first | apply Kd.R_alloc | apply Kd.R_drewN | apply Kd.R_drew)); exact HO_9.out) (Kd.R_base ho0) hb); have n1_ := Aside0.mk (Kd.R_below (by (with_reducible repeat (first | apply Kd.R_alloc | apply Kd.R_drewN | apply Kd.R_drew)); exact HO_11.out) hb); have n2_ := Aside0.mk (Kd.R_lower (Kd.R_new' ho0 (Kd.R_lt (by (with_reducible repeat (first | apply Kd.R_alloc | apply Kd.R_drewN | apply Kd.R_drew)); exact HO_9.out))) (below_size (by repeat (first | (with_reducible first | exact HB.out | apply below_alloc | apply pw_below_drewN | apply below_drew1) | exact HB.out)))); have n3_ := Aside0.mk (below_step (by repeat (first | (with_reducible first | exact HB.out | apply below_alloc | apply pw_below_drewN | apply below_drew1) | exact HB.out)) hb); clear HO_9; clear HO_11; clear HB; have HO_9 := n0_; have HO_11 := n1_; have HO107 := n2_; have HB := n3_; clear n0_ n1_ n2_ n3_; (try clear hb); (try clear hb2); (try clear hk); (try clear hi); (try clear ho0); obtain ⟨Ao14, co14, eo14⟩ := Kd.R_slice HO107.out; subst eo14))
        go_loopg [13, 32] k1 (fun kq v13 v32 w' => ∃ (x13_2 : Int) (x32_2 : Int), v13 = .int .i64 x13_2 ∧ v32 = .int .i64 x32_2 ∧ Aside0 (branch_town_cheapest.l1 kq a2 x9_1 x10_1 x11_1 t104 x13_2 t105 (t105.length : Int) x32_2 a0_0 l0_1 = some (r1, r2, r3)) ∧ Aside0 (kq ≤ k1) ∧ Aside0 (Kd.R (Kd.int .i64) 3 w' w.heap.size (fun k_ => some k_ ≠ ((.slice Ao14 t105.length co14) : Value).ownBlock) (.slice Ao11 x9_1.length co11) x9_1) ∧ Aside0 (Kd.R k41 41 w' w.heap.size (fun _ => True) u11 x11_1) ∧ Aside0 (Kd.R (Kd.int .i64) 3 w' w.heap.size (fun k_ => some k_ ≠ ((.slice Ao11 x9_1.length co11) : Value).ownBlock) (.slice Ao14 t105.length co14) t105) ∧ Aside0 (Below w.heap.size w w'))
        case atStart => exact ⟨((-1)), (0), (by first | rfl | (simp; done) | (simp [*]; done)), (by first | rfl | (simp; done) | (simp [*]; done)), H', ⟨Nat.le_refl _⟩, ⟨by (with_reducible repeat (first | apply Kd.R_alloc | apply Kd.R_drewN | apply Kd.R_drew)); exact Kd.R_mono HO_9.out (fun _ hk => hk.2)⟩, ⟨by (with_reducible repeat (first | apply Kd.R_alloc | apply Kd.R_drewN | apply Kd.R_drew)); exact HO_11.out⟩, ⟨by (with_reducible repeat (first | apply Kd.R_alloc | apply Kd.R_drewN | apply Kd.R_drew)); exact Kd.R_mono HO107.out (fun _ hk => hk.2)⟩, ⟨by repeat (first | (with_reducible first | exact HB.out | apply below_alloc | apply pw_below_drewN | apply below_drew1) | exact HB.out)⟩⟩
        case round =>
          clear H'
          try clear c1
          try clear p2
          try clear c4
          try clear c5
          try clear c6
          try clear c7
          try clear c7b0
          try clear c7b1
          try clear p2
          obtain ⟨x13_2, x32_2, rfl, rfl, HA, HK2, HO_9, HO_11, HO_30, HB⟩ := hrel
          cases gk with
          | zero => exact absurd HA.out (by simp [branch_town_cheapest.l1])
          | succ k2 =>
            have H := HA.out
            clear HA
            simp only [branch_town_cheapest.l1] at H
            by_cases c15 : x32_2 < (t105.length : Int)
            · rw [if_pos c15] at H
              have c15b0 : decide (x32_2 < (t105.length : Int)) = true := decide_eq_true c15
              clear c15
              by_cases c16 : 0 ≤ x32_2
              · rw [if_pos c16] at H
                have c16b0 : decide (0 ≤ x32_2) = true := decide_eq_true c16
                clear c16
                by_cases c17 : x32_2 < (t105.length : Int)
                · rw [if_pos c17] at H
                  have c17b0 : decide (x32_2 < (t105.length : Int)) = true := decide_eq_true c17
                  clear c17
                  replace H := Option.bind_eq_some_iff.mp H
                  obtain ⟨t109, A180, H⟩ := H
                  replace H : (if t109 = true then (branch_town_cheapest.l1 k2 a2 x9_1 x10_1 x11_1 t104 x13_2 t105 (t105.length : Int) (wrap64 (x32_2 + 1)) a0_0 l0_1) else (if x13_2 < 0 then (if 0 ≤ (rd t105 x32_2) then (if (rd t105 x32_2) < (x9_1.length : Int) then (branch_town_cheapest.l1 k2 a2 x9_1 x10_1 x11_1 t104 (rd x9_1 (rd t105 x32_2)) t105 (t105.length : Int) (wrap64 (x32_2 + 1)) a0_0 l0_1) else (none)) else (none)) else (if 0 ≤ (rd t105 x32_2) then (if (rd t105 x32_2) < (x9_1.length : Int) then (if (rd x9_1 (rd t105 x32_2)) < x13_2 then (branch_town_cheapest.l1 k2 a2 x9_1 x10_1 x11_1 t104 (rd x9_1 (rd t105 x32_2)) t105 (t105.length : Int) (wrap64 (x32_2 + 1)) a0_0 l0_1) else (branch_town_cheapest.l1 k2 a2 x9_1 x10_1 x11_1 t104 x13_2 t105 (t105.length : Int) (wrap64 (x32_2 + 1)) a0_0 l0_1)) else (none)) else (none)))) = some (r1, r2, r3) := H
                  have A18 := Aside0.mk A180
                  clear A180
                  by_cases c19 : t109 = true
                  · subst c19
                    have H1 : (branch_town_cheapest.l1 k2 a2 x9_1 x10_1 x11_1 t104 x13_2 t105 (t105.length : Int) (wrap64 (x32_2 + 1)) a0_0 l0_1) = some (r1, r2, r3) := by rw [if_pos rfl] at H; exact H
                    clear H
                    have H := H1
                    clear H1
                    have H' := Aside0.mk H
                    clear H
                    have p108 : 0 ≤ (x32_2 : Int) := of_decide_eq_true (by first | (with_reducible assumption) | assumption)
                    have q108 : x32_2 < (t105.length : Int) := of_decide_eq_true (by first | (with_reducible assumption) | assumption)
                    obtain ⟨ad108, e108, hx108_0⟩ := Kd.at_int (Kd.R_reads' HO_30.out).2.2 x32_2 p108 q108
                    cases e108
                    replace p108 := eq_true p108
                    replace q108 := eq_true q108
                    go_wp2_with (first | ((with_reducible refine gate_dst (N := 38) rfl ?_); refine goesF_ (some 38) rfl rfl HF2.out rfl rfl (i := (rd t105 x32_2)) rfl ?sideB A18.out ?_; (case sideB => exact by repeat (first | (with_reducible first | exact HB.out | apply below_alloc | apply pw_below_drewN | apply below_drew1) | exact HB.out)); intro w20 hb; have n0_ := Aside0.mk (Kd.R_below (by (with_reducible repeat (first | apply Kd.R_alloc | apply Kd.R_drewN | apply Kd.R_drew)); exact HO_9.out) hb); have n1_ := Aside0.mk (Kd.R_below (by (with_reducible repeat (first | apply Kd.R_alloc | apply Kd.R_drewN | apply Kd.R_drew)); exact HO_11.out) hb); have n2_ := Aside0.mk (Kd.R_below (by (with_reducible repeat (first | apply Kd.R_alloc | apply Kd.R_drewN | apply Kd.R_drew)); exact HO_30.out) hb); have n3_ := Aside0.mk (below_step (by repeat (first | (with_reducible first | exact HB.out | apply below_alloc | apply pw_below_drewN | apply below_drew1) | exact HB.out)) hb); clear HO_9; clear HO_11; clear HO_30; clear HB; have HO_9 := n0_; have HO_11 := n1_; have HO_30 := n2_; have HB := n3_; clear n0_ n1_ n2_ n3_; (try clear hb); (try clear hb2); (try clear hk); (try clear hi)))
                    go_roundg k2
                    case measure => have := HK1.out; have := HK2.out; omega
                    case rel => exact ⟨(x13_2), (wrap64 (x32_2 + 1)), (by first | rfl | (simp; done) | (simp [*]; done)), (by first | rfl | (simp; done) | (simp [*]; done)), H', ⟨by have := HK1.out; have := HK2.out; omega⟩, ⟨by (with_reducible repeat (first | apply Kd.R_alloc | apply Kd.R_drewN | apply Kd.R_drew)); exact HO_9.out⟩, ⟨by (with_reducible repeat (first | apply Kd.R_alloc | apply Kd.R_drewN | apply Kd.R_drew)); exact HO_11.out⟩, ⟨by (with_reducible repeat (first | apply Kd.R_alloc | apply Kd.R_drewN | apply Kd.R_drew)); exact HO_30.out⟩, ⟨by repeat (first | (with_reducible first | exact HB.out | apply below_alloc | apply pw_below_drewN | apply below_drew1) | exact HB.out)⟩⟩
                  · replace c19 := Bool.eq_false_iff.mpr c19
                    subst c19
                    have H1 : (if x13_2 < 0 then (if 0 ≤ (rd t105 x32_2) then (if (rd t105 x32_2) < (x9_1.length : Int) then (branch_town_cheapest.l1 k2 a2 x9_1 x10_1 x11_1 t104 (rd x9_1 (rd t105 x32_2)) t105 (t105.length : Int) (wrap64 (x32_2 + 1)) a0_0 l0_1) else (none)) else (none)) else (if 0 ≤ (rd t105 x32_2) then (if (rd t105 x32_2) < (x9_1.length : Int) then (if (rd x9_1 (rd t105 x32_2)) < x13_2 then (branch_town_cheapest.l1 k2 a2 x9_1 x10_1 x11_1 t104 (rd x9_1 (rd t105 x32_2)) t105 (t105.length : Int) (wrap64 (x32_2 + 1)) a0_0 l0_1) else (branch_town_cheapest.l1 k2 a2 x9_1 x10_1 x11_1 t104 x13_2 t105 (t105.length : Int) (wrap64 (x32_2 + 1)) a0_0 l0_1)) else (none)) else (none))) = some (r1, r2, r3) := by rw [if_neg (show ¬ (false = true) by decide)] at H; exact H
                    clear H
                    have H := H1
                    clear H1
                    by_cases c21 : x13_2 < 0
                    · rw [if_pos c21] at H
                      have c21b0 : decide (x13_2 < 0) = true := decide_eq_true c21
                      clear c21
                      by_cases c22 : 0 ≤ (rd t105 x32_2)
                      · rw [if_pos c22] at H
                        have c22b0 : decide (0 ≤ (rd t105 x32_2)) = true := decide_eq_true c22
                        clear c22
                        by_cases c23 : (rd t105 x32_2) < (x9_1.length : Int)
                        · rw [if_pos c23] at H
                          have c23b0 : decide ((rd t105 x32_2) < (x9_1.length : Int)) = true := decide_eq_true c23
                          clear c23
                          have H' := Aside0.mk H
                          clear H
                          have p108 : 0 ≤ (x32_2 : Int) := of_decide_eq_true (by first | (with_reducible assumption) | assumption)
                          have q108 : x32_2 < (t105.length : Int) := of_decide_eq_true (by first | (with_reducible assumption) | assumption)
                          obtain ⟨ad108, e108, hx108_0⟩ := Kd.at_int (Kd.R_reads' HO_30.out).2.2 x32_2 p108 q108
                          cases e108
                          replace p108 := eq_true p108
                          replace q108 := eq_true q108
                          go_wp2_with (first | ((with_reducible refine gate_dst (N := 38) rfl ?_); refine goesF_ (some 38) rfl rfl HF2.out rfl rfl (i := (rd t105 x32_2)) rfl ?sideB A18.out ?_; (case sideB => exact by repeat (first | (with_reducible first | exact HB.out | apply below_alloc | apply pw_below_drewN | apply below_drew1) | exact HB.out)); intro w24 hb; have n0_ := Aside0.mk (Kd.R_below (by (with_reducible repeat (first | apply Kd.R_alloc | apply Kd.R_drewN | apply Kd.R_drew)); exact HO_9.out) hb); have n1_ := Aside0.mk (Kd.R_below (by (with_reducible repeat (first | apply Kd.R_alloc | apply Kd.R_drewN | apply Kd.R_drew)); exact HO_11.out) hb); have n2_ := Aside0.mk (Kd.R_below (by (with_reducible repeat (first | apply Kd.R_alloc | apply Kd.R_drewN | apply Kd.R_drew)); exact HO_30.out) hb); have n3_ := Aside0.mk (below_step (by repeat (first | (with_reducible first | exact HB.out | apply below_alloc | apply pw_below_drewN | apply below_drew1) | exact HB.out)) hb); clear HO_9; clear HO_11; clear HO_30; clear HB; have HO_9 := n0_; have HO_11 := n1_; have HO_30 := n2_; have HB := n3_; clear n0_ n1_ n2_ n3_; (try clear hb); (try clear hb2); (try clear hk); (try clear hi); have p110 : 0 ≤ ((rd t105 x32_2) : Int) := of_decide_eq_true (by first | (with_reducible assumption) | assumption); have q110 : (rd t105 x32_2) < (x9_1.length : Int) := of_decide_eq_true (by first | (with_reducible assumption) | assumption); obtain ⟨ad110, e110, hx110_0⟩ := Kd.at_int (Kd.R_reads' HO_9.out).2.2 (rd t105 x32_2) p110 q110; cases e110; replace p110 := eq_true p110; replace q110 := eq_true q110))
                          go_roundg k2
                          case measure => have := HK1.out; have := HK2.out; omega
                          case rel => exact ⟨(rd x9_1 (rd t105 x32_2)), (wrap64 (x32_2 + 1)), (by first | rfl | (simp; done) | (simp [*]; done)), (by first | rfl | (simp; done) | (simp [*]; done)), H', ⟨by have := HK1.out; have := HK2.out; omega⟩, ⟨by (with_reducible repeat (first | apply Kd.R_alloc | apply Kd.R_drewN | apply Kd.R_drew)); exact HO_9.out⟩, ⟨by (with_reducible repeat (first | apply Kd.R_alloc | apply Kd.R_drewN | apply Kd.R_drew)); exact HO_11.out⟩, ⟨by (with_reducible repeat (first | apply Kd.R_alloc | apply Kd.R_drewN | apply Kd.R_drew)); exact HO_30.out⟩, ⟨by repeat (first | (with_reducible first | exact HB.out | apply below_alloc | apply pw_below_drewN | apply below_drew1) | exact HB.out)⟩⟩
                        · rw [if_neg c23] at H
                          exact absurd H (by simp)
                      · rw [if_neg c22] at H
                        exact absurd H (by simp)
                    · rw [if_neg c21] at H
                      have c21b0 : decide (x13_2 < 0) = false := decide_eq_false c21
                      clear c21
                      by_cases c25 : 0 ≤ (rd t105 x32_2)
                      · rw [if_pos c25] at H
                        have c25b0 : decide (0 ≤ (rd t105 x32_2)) = true := decide_eq_true c25
                        clear c25
                        by_cases c26 : (rd t105 x32_2) < (x9_1.length : Int)
                        · rw [if_pos c26] at H
                          have c26b0 : decide ((rd t105 x32_2) < (x9_1.length : Int)) = true := decide_eq_true c26
                          clear c26
                          by_cases c27 : (rd x9_1 (rd t105 x32_2)) < x13_2
                          · rw [if_pos c27] at H
                            have c27b0 : decide ((rd x9_1 (rd t105 x32_2)) < x13_2) = true := decide_eq_true c27
                            clear c27
                            have H' := Aside0.mk H
                            clear H
                            have p108 : 0 ≤ (x32_2 : Int) := of_decide_eq_true (by first | (with_reducible assumption) | assumption)
                            have q108 : x32_2 < (t105.length : Int) := of_decide_eq_true (by first | (with_reducible assumption) | assumption)
                            obtain ⟨ad108, e108, hx108_0⟩ := Kd.at_int (Kd.R_reads' HO_30.out).2.2 x32_2 p108 q108
                            cases e108
                            replace p108 := eq_true p108
                            replace q108 := eq_true q108
                            go_wp2_with (first | ((with_reducible refine gate_dst (N := 38) rfl ?_); refine goesF_ (some 38) rfl rfl HF2.out rfl rfl (i := (rd t105 x32_2)) rfl ?sideB A18.out ?_; (case sideB => exact by repeat (first | (with_reducible first | exact HB.out | apply below_alloc | apply pw_below_drewN | apply below_drew1) | exact HB.out)); intro w28 hb; have n0_ := Aside0.mk (Kd.R_below (by (with_reducible repeat (first | apply Kd.R_alloc | apply Kd.R_drewN | apply Kd.R_drew)); exact HO_9.out) hb); have n1_ := Aside0.mk (Kd.R_below (by (with_reducible repeat (first | apply Kd.R_alloc | apply Kd.R_drewN | apply Kd.R_drew)); exact HO_11.out) hb); have n2_ := Aside0.mk (Kd.R_below (by (with_reducible repeat (first | apply Kd.R_alloc | apply Kd.R_drewN | apply Kd.R_drew)); exact HO_30.out) hb); have n3_ := Aside0.mk (below_step (by repeat (first | (with_reducible first | exact HB.out | apply below_alloc | apply pw_below_drewN | apply below_drew1) | exact HB.out)) hb); clear HO_9; clear HO_11; clear HO_30; clear HB; have HO_9 := n0_; have HO_11 := n1_; have HO_30 := n2_; have HB := n3_; clear n0_ n1_ n2_ n3_; (try clear hb); (try clear hb2); (try clear hk); (try clear hi); have p111 : 0 ≤ ((rd t105 x32_2) : Int) := of_decide_eq_true (by first | (with_reducible assumption) | assumption); have q111 : (rd t105 x32_2) < (x9_1.length : Int) := of_decide_eq_true (by first | (with_reducible assumption) | assumption); obtain ⟨ad111, e111, hx111_0⟩ := Kd.at_int (Kd.R_reads' HO_9.out).2.2 (rd t105 x32_2) p111 q111; cases e111; replace p111 := eq_true p111; replace q111 := eq_true q111; have p112 : 0 ≤ ((rd t105 x32_2) : Int) := of_decide_eq_true (by first | (with_reducible assumption) | assumption); have q112 : (rd t105 x32_2) < (x9_1.length : Int) := of_decide_eq_true (by first | (with_reducible assumption) | assumption); obtain ⟨ad112, e112, hx112_0⟩ := Kd.at_int (Kd.R_reads' HO_9.out).2.2 (rd t105 x32_2) p112 q112; obtain rfl : ad111 = ad112 := (by injection e112); replace p112 := eq_true p112; replace q112 := eq_true q112))
                            go_roundg k2
                            case measure => have := HK1.out; have := HK2.out; omega
                            case rel => exact ⟨(rd x9_1 (rd t105 x32_2)), (wrap64 (x32_2 + 1)), (by first | rfl | (simp; done) | (simp [*]; done)), (by first | rfl | (simp; done) | (simp [*]; done)), H', ⟨by have := HK1.out; have := HK2.out; omega⟩, ⟨by (with_reducible repeat (first | apply Kd.R_alloc | apply Kd.R_drewN | apply Kd.R_drew)); exact HO_9.out⟩, ⟨by (with_reducible repeat (first | apply Kd.R_alloc | apply Kd.R_drewN | apply Kd.R_drew)); exact HO_11.out⟩, ⟨by (with_reducible repeat (first | apply Kd.R_alloc | apply Kd.R_drewN | apply Kd.R_drew)); exact HO_30.out⟩, ⟨by repeat (first | (with_reducible first | exact HB.out | apply below_alloc | apply pw_below_drewN | apply below_drew1) | exact HB.out)⟩⟩
                          · rw [if_neg c27] at H
                            have c27b0 : decide ((rd x9_1 (rd t105 x32_2)) < x13_2) = false := decide_eq_false c27
                            clear c27
                            have H' := Aside0.mk H
                            clear H
                            have p108 : 0 ≤ (x32_2 : Int) := of_decide_eq_true (by first | (with_reducible assumption) | assumption)
                            have q108 : x32_2 < (t105.length : Int) := of_decide_eq_true (by first | (with_reducible assumption) | assumption)
                            obtain ⟨ad108, e108, hx108_0⟩ := Kd.at_int (Kd.R_reads' HO_30.out).2.2 x32_2 p108 q108
                            cases e108
                            replace p108 := eq_true p108
                            replace q108 := eq_true q108
                            go_wp2_with (first | ((with_reducible refine gate_dst (N := 38) rfl ?_); refine goesF_ (some 38) rfl rfl HF2.out rfl rfl (i := (rd t105 x32_2)) rfl ?sideB A18.out ?_; (case sideB => exact by repeat (first | (with_reducible first | exact HB.out | apply below_alloc | apply pw_below_drewN | apply below_drew1) | exact HB.out)); intro w29 hb; have n0_ := Aside0.mk (Kd.R_below (by (with_reducible repeat (first | apply Kd.R_alloc | apply Kd.R_drewN | apply Kd.R_drew)); exact HO_9.out) hb); have n1_ := Aside0.mk (Kd.R_below (by (with_reducible repeat (first | apply Kd.R_alloc | apply Kd.R_drewN | apply Kd.R_drew)); exact HO_11.out) hb); have n2_ := Aside0.mk (Kd.R_below (by (with_reducible repeat (first | apply Kd.R_alloc | apply Kd.R_drewN | apply Kd.R_drew)); exact HO_30.out) hb); have n3_ := Aside0.mk (below_step (by repeat (first | (with_reducible first | exact HB.out | apply below_alloc | apply pw_below_drewN | apply below_drew1) | exact HB.out)) hb); clear HO_9; clear HO_11; clear HO_30; clear HB; have HO_9 := n0_; have HO_11 := n1_; have HO_30 := n2_; have HB := n3_; clear n0_ n1_ n2_ n3_; (try clear hb); (try clear hb2); (try clear hk); (try clear hi); have p111 : 0 ≤ ((rd t105 x32_2) : Int) := of_decide_eq_true (by first | (with_reducible assumption) | assumption); have q111 : (rd t105 x32_2) < (x9_1.length : Int) := of_decide_eq_true (by first | (with_reducible assumption) | assumption); obtain ⟨ad111, e111, hx111_0⟩ := Kd.at_int (Kd.R_reads' HO_9.out).2.2 (rd t105 x32_2) p111 q111; cases e111; replace p111 := eq_true p111; replace q111 := eq_true q111))
                            go_roundg k2
                            case measure => have := HK1.out; have := HK2.out; omega
                            case rel => exact ⟨(x13_2), (wrap64 (x32_2 + 1)), (by first | rfl | (simp; done) | (simp [*]; done)), (by first | rfl | (simp; done) | (simp [*]; done)), H', ⟨by have := HK1.out; have := HK2.out; omega⟩, ⟨by (with_reducible repeat (first | apply Kd.R_alloc | apply Kd.R_drewN | apply Kd.R_drew)); exact HO_9.out⟩, ⟨by (with_reducible repeat (first | apply Kd.R_alloc | apply Kd.R_drewN | apply Kd.R_drew)); exact HO_11.out⟩, ⟨by (with_reducible repeat (first | apply Kd.R_alloc | apply Kd.R_drewN | apply Kd.R_drew)); exact HO_30.out⟩, ⟨by repeat (first | (with_reducible first | exact HB.out | apply below_alloc | apply pw_below_drewN | apply below_drew1) | exact HB.out)⟩⟩
                        · rw [if_neg c26] at H
                          exact absurd H (by simp)
                      · rw [if_neg c25] at H
                        exact absurd H (by simp)
                · rw [if_neg c17] at H
                  exact absurd H (by simp)
              · rw [if_neg c16] at H
                exact absurd H (by simp)
            · rw [if_neg c15] at H
              have c15b0 : decide (x32_2 < (t105.length : Int)) = false := decide_eq_false c15
              clear c15
              by_cases c30 : x13_2 < 0
              · rw [if_pos c30] at H
                have c30b0 : decide (x13_2 < 0) = true := decide_eq_true c30
                clear c30
                simp only [Option.some.injEq, Prod.mk.injEq] at H
                obtain ⟨rfl, rfl, rfl⟩ := H
                go_wp2
                go_ret3
                exact ⟨_, by first | rfl | (simp [errW_none, errW_some] <;> rfl) | (simp [*, errW_none, errW_some] <;> rfl), by first | exact Kd.R_nil _ _ _ _ _ | exact Kd.N_nil _ _ _ _ _ | exact Kd.V_nil _ _ _ _ _ | exact Kd.Q_nil _ _ _ _ _ | exact Kd.S_nil _ _ _ _ _, by repeat (first | (with_reducible first | exact HB.out | apply below_alloc | apply pw_below_drewN | apply below_drew1) | exact HB.out)⟩
              · rw [if_neg c30] at H
                have c30b0 : decide (x13_2 < 0) = false := decide_eq_false c30
                clear c30
                replace H := Option.bind_eq_some_iff.mp H
                obtain ⟨t113, A310, H⟩ := H
                replace H : (branch_town_cheapest.l2 k2 a2 x9_1 x10_1 x11_1 t104 x13_2 t113 (t113.length : Int) 0 a0_0 l0_1) = some (r1, r2, r3) := H
                have A31 := Aside0.mk A310
                clear A310
                have H' := Aside0.mk H
                clear H
                go_wp2_with (first | ((with_reducible refine gate_callee (f := 59) rfl ?_); refine goesL_ (some 61) rfl rfl Try.func59 (by kernel_rfl) rfl #[.pointer (some ⟨g0, 0, none⟩), .int .i64 t104] rfl (by (try simp only [List.map_toArray, List.map_cons, List.map_nil]); first | done | rfl | (simp only [List.length_drop, List.length_take]; rfl)) ?_; (with_reducible refine (branch_town_entering.calls k2 g0 a0_0 A0_1 c0_1 l0_1 a0_2 t104 t113 _ ?side1 ?side2 ?side3 A31.out).mono ?_); (case side1 => exact ((show Below _ _ _ from by repeat (first | (with_reducible first | exact HB.out | apply below_alloc | apply pw_below_drewN | apply below_drew1) | exact HB.out)).block _ (blk_lt HP0.out)).trans HP0.out); (case side2 => repeat (first | exact (Kd.C_below HR0_1.out HB.out) | (with_reducible refine Kd.C_alloc ?_ _) | (with_reducible refine Kd.C_drewN ?_ _) | (with_reducible refine Kd.C_drew ?_))); (case side3 => exact HC0_1.out); rintro e w32 ⟨v114, rfl, ho0, hb⟩; refine ⟨_, rfl, ?_⟩; have n0_ := Aside0.mk (Kd.R_elder' (by (with_reducible repeat (first | apply Kd.R_alloc | apply Kd.R_drewN | apply Kd.R_drew)); exact HO_9.out) (Kd.R_base ho0) hb); have n1_ := Aside0.mk (Kd.R_below (by (with_reducible repeat (first | apply Kd.R_alloc | apply Kd.R_drewN | apply Kd.R_drew)); exact HO_11.out) hb); have n2_ := Aside0.mk (Kd.R_elder' (by (with_reducible repeat (first | apply Kd.R_alloc | apply Kd.R_drewN | apply Kd.R_drew)); exact HO_30.out) (Kd.R_base ho0) hb); have n3_ := Aside0.mk (Kd.R_lower (Kd.R_new' (Kd.R_new' ho0 (Kd.R_lt (by (with_reducible repeat (first | apply Kd.R_alloc | apply Kd.R_drewN | apply Kd.R_drew)); exact HO_9.out))) (Kd.R_lt (by (with_reducible repeat (first | apply Kd.R_alloc | apply Kd.R_drewN | apply Kd.R_drew)); exact HO_30.out))) (below_size (by repeat (first | (with_reducible first | exact HB.out | apply below_alloc | apply pw_below_drewN | apply below_drew1) | exact HB.out)))); have n4_ := Aside0.mk (below_step (by repeat (first | (with_reducible first | exact HB.out | apply below_alloc | apply pw_below_drewN | apply below_drew1) | exact HB.out)) hb); clear HO_9; clear HO_11; clear HO_30; clear HB; have HO_9 := n0_; have HO_11 := n1_; have HO_30 := n2_; have HO115 := n3_; have HB := n4_; clear n0_ n1_ n2_ n3_ n4_; (try clear hb); (try clear hb2); (try clear hk); (try clear hi); (try clear ho0); obtain ⟨Ao33, co33, eo33⟩ := Kd.R_slice HO115.out; subst eo33))
                go_loopg [63] k2 (fun kq v63 w' => ∃ (x9_3 : List Int) (x63_3 : Int), v63 = .int .i64 x63_3 ∧ Aside0 (branch_town_cheapest.l2 kq a2 x9_3 x10_1 x11_1 t104 x13_2 t113 (t113.length : Int) x63_3 a0_0 l0_1 = some (r1, r2, r3)) ∧ Aside0 (kq ≤ k2) ∧ Aside0 (Kd.R (Kd.int .i64) 3 w' w.heap.size (fun k_ => some k_ ≠ ((.slice Ao33 t113.length co33) : Value).ownBlock) (.slice Ao11 x9_1.length co11) x9_3) ∧ Aside0 (Kd.R k41 41 w' w.heap.size (fun _ => True) u11 x11_1) ∧ Aside0 (Kd.R (Kd.int .i64) 3 w' w.heap.size (fun k_ => some k_ ≠ ((.slice Ao11 x9_1.length co11) : Value).ownBlock) (.slice Ao33 t113.length co33) t113) ∧ Aside0 (Below w.heap.size w w'))
                case atStart => exact ⟨(x9_1), (0), (by first | rfl | (simp; done) | (simp [*]; done)), H', ⟨Nat.le_refl _⟩, ⟨by (with_reducible repeat (first | apply Kd.R_alloc | apply Kd.R_drewN | apply Kd.R_drew)); exact Kd.R_mono HO_9.out (fun _ hk => hk.2)⟩, ⟨by (with_reducible repeat (first | apply Kd.R_alloc | apply Kd.R_drewN | apply Kd.R_drew)); exact HO_11.out⟩, ⟨by (with_reducible repeat (first | apply Kd.R_alloc | apply Kd.R_drewN | apply Kd.R_drew)); exact Kd.R_mono HO115.out (fun _ hk => hk.1.2)⟩, ⟨by repeat (first | (with_reducible first | exact HB.out | apply below_alloc | apply pw_below_drewN | apply below_drew1) | exact HB.out)⟩⟩
                case round =>
                  clear H'
                  try clear c1
                  try clear p1
                  try clear q1
                  try clear hx1
                  try clear c2
                  try clear p2
                  try clear c3
                  try clear c4
                  try clear c5
                  try clear c6
                  try clear p6
                  try clear c7
                  try clear c7b0
                  try clear c7b1
                  try clear p10
                  try clear q10
                  try clear hx10
                  try clear p11
                  try clear q11
                  try clear hx11
                  try clear c15
                  try clear c15b0
                  try clear c16
                  try clear c16b0
                  try clear c17
                  try clear c17b0
                  try clear c19
                  try clear c21
                  try clear c21b0
                  try clear c22
                  try clear c22b0
                  try clear c23
                  try clear c23b0
                  try clear c25
                  try clear c25b0
                  try clear c26
                  try clear c26b0
                  try clear c27
                  try clear c27b0
                  try clear c30
                  try clear c30b0
                  try clear hx108_0
                  try clear hx110_0
                  try clear hx111_0
                  try clear hx112_0
                  try clear p108
                  try clear p110
                  try clear p111
                  try clear p112
                  try clear p2
                  try clear q108
                  try clear q110
                  try clear q111
                  try clear q112
                  obtain ⟨x9_3, x63_3, rfl, HA, HK3, HO_9, HO_11, HO_61, HB⟩ := hrel
                  have hl9_3 := (Kd.R_reads' HO_9.out).1
                  rw [hl9_3] at HO_9
                  (try simp only [hl9_3])
                  (try simp only [hl9_3] at HO_11)
                  (try simp only [hl9_3] at HO_61)
                  cases gk with
                  | zero => exact absurd HA.out (by simp [branch_town_cheapest.l2])
                  | succ k3 =>
                    have H := HA.out
                    clear HA
                    simp only [branch_town_cheapest.l2] at H
                    by_cases c34 : x63_3 < (t113.length : Int)
                    · rw [if_pos c34] at H
                      have c34b0 : decide (x63_3 < (t113.length : Int)) = true := decide_eq_true c34
                      (try (have c34b0l := c34b0; simp only [hl9_3] at c34b0l))
                      clear c34
                      by_cases c35 : 0 ≤ x63_3
                      · rw [if_pos c35] at H
                        have c35b0 : decide (0 ≤ x63_3) = true := decide_eq_true c35
                        clear c35
                        by_cases c36 : x63_3 < (t113.length : Int)
                        · rw [if_pos c36] at H
                          have c36b0 : decide (x63_3 < (t113.length : Int)) = true := decide_eq_true c36
                          (try (have c36b0l := c36b0; simp only [hl9_3] at c36b0l))
                          clear c36
                          by_cases c37 : 0 ≤ (rd t113 x63_3)
                          · rw [if_pos c37] at H
                            have c37b0 : decide (0 ≤ (rd t113 x63_3)) = true := decide_eq_true c37
                            clear c37
                            by_cases c38 : (rd t113 x63_3) < (x9_3.length : Int)
                            · rw [if_pos c38] at H
                              have c38b0 : decide ((rd t113 x63_3) < (x9_3.length : Int)) = true := decide_eq_true c38
                              (try (have c38b0l := c38b0; simp only [hl9_3] at c38b0l))
                              clear c38
                              obtain ⟨y118, hy118⟩ : ∃ y_ : List Int, y_ = (x9_3.set ((rd t113 x63_3) : Int).toNat (wrap64 ((rd x9_3 (rd t113 x63_3)) - x13_2))) := ⟨_, rfl⟩
                              replace H : (branch_town_cheapest.l2 k3 a2 y118 x10_1 x11_1 t104 x13_2 t113 (t113.length : Int) (wrap64 (x63_3 + 1)) a0_0 l0_1) = some (r1, r2, r3) := by first | (rw [hy118]; with_reducible exact H) | (have H2_ := (Option.bind_some _ _).symm.trans H; rw [hy118]; with_reducible exact H2_) | (have H2_ := (Option.bind_some _ _).symm.trans H; with_reducible exact H2_) | with_reducible exact H | (rw [hy118]; exact H) | exact H
                              have Ny118 := Aside0.mk hy118
                              clear hy118
                              have H' := Aside0.mk H
                              clear H
                              have p116 : 0 ≤ (x63_3 : Int) := of_decide_eq_true (by first | (with_reducible assumption) | assumption)
                              have q116 : x63_3 < (t113.length : Int) := of_decide_eq_true (by first | (with_reducible assumption) | assumption)
                              obtain ⟨ad116, e116, hx116_0⟩ := Kd.at_int (Kd.R_reads' HO_61.out).2.2 x63_3 p116 q116
                              cases e116
                              replace p116 := eq_true p116
                              replace q116 := eq_true q116
                              have p117 : 0 ≤ ((rd t113 x63_3) : Int) := of_decide_eq_true (by first | (with_reducible assumption) | assumption)
                              have q117 : (rd t113 x63_3) < (x9_3.length : Int) := of_decide_eq_true (by first | (with_reducible assumption) | assumption)
                              obtain ⟨ad117, e117, hx117_0⟩ := Kd.at_int (Kd.R_reads' HO_9.out).2.2 (rd t113 x63_3) p117 q117
                              cases e117
                              replace p117 := eq_true p117
                              replace q117 := eq_true q117
                              have p39 : 0 ≤ ((rd t113 x63_3) : Int) := of_decide_eq_true (by first | (with_reducible assumption) | assumption)
                              have q39 : ((rd t113 x63_3) : Int) < ((x9_3.length : Int) : Int) := of_decide_eq_true (by first | (with_reducible assumption) | assumption)
                              obtain ⟨go39, co39, eo39, gb39, gl39, cl39, HG39⟩ := Kd.R_form HO_9.out (by omega)
                              (first | cases eo39 | (injection eo39 with ea_ en_ ec_; (first | subst ea_ | (injection ea_ with ea_; subst ea_)); subst ec_; clear en_))
                              have GB39 := Aside0.mk gb39
                              have GG39 := Aside0.mk HG39
                              clear gb39 gl39 HG39
                              (first | simp only [add_plain] at hx117_0 | skip)
                              obtain ⟨hx39_0, hf39_0⟩ := Kd.R_celln 0 HO_9.out ((rd t113 x63_3) : Int) p39 q39
                              replace p39 := eq_true p39
                              replace q39 := eq_true q39
                              have HP40 := Kd.R_putg HO_9.out ((rd t113 x63_3) : Int) (wrap64 ((rd x9_3 (rd t113 x63_3)) - x13_2))
                              go_wp2_with (first | ((with_reducible refine gate_store (t := 3) (p := 73) rfl ?_); refine store_event (t := 3) (p := 73) (v := ?vo_w41) (w1 := (wr.setCell ⟨go39, ((rd t113 x63_3) : Int).toNat, none⟩ (.int .i64 (wrap64 ((rd x9_3 (rd t113 x63_3)) - x13_2))))) ?hg ?ho ?hn ?hr ?_; (case ho => rfl); (case hg => rfl); (case hn => rfl); (case hr => first | (go_simp; done) | (go_simp; rfl)); intro w41 hw; have hg : wr.grownBy w41 (some go39) := (by rw [hw]; exact HP40.2); have hp_ : Kd.R (Kd.int .i64) 3 w41 w.heap.size (fun k_ => some k_ ≠ (.slice (some ad116) t113.length co33 : Value).ownBlock) (.slice (some ⟨go39, 0, none⟩) x9_3.length co11) y118 := (by rw [hw, Ny118.out]; exact HP40.1); clear HP40; have n0_ := Aside0.mk (hp_); have n1_ := Aside0.mk (Kd.R_over' (v := (.slice (some ⟨go39, 0, none⟩) x9_3.length co11)) (by (with_reducible repeat (first | apply Kd.R_alloc | apply Kd.R_drewN | apply Kd.R_drew)); exact HO_11.out) (Kd.R_typed HO_9.out) (by decide) hg); have n2_ := Aside0.mk (Kd.R_after (v := (.slice (some ⟨go39, 0, none⟩) x9_3.length co11)) (v1 := (.slice (some ⟨go39, 0, none⟩) x9_3.length co11)) (ok := (fun _ => True)) (by (with_reducible repeat (first | apply Kd.R_alloc | apply Kd.R_drewN | apply Kd.R_drew)); exact Kd.R_mono HO_61.out (fun _ hk => ⟨trivial, hk⟩)) hg (.inl rfl)); have n3_ := Aside0.mk ((by rw [hw]; exact below_set (HB.out) GB39.out : Below w.heap.size w w41)); clear HO_9; clear HO_11; clear HO_61; clear HB; have HO_9 := n0_; have HO_11 := n1_; have HO_61 := n2_; have HB := n3_; clear n0_ n1_ n2_ n3_; clear hg hw hp_))
                              (try simp only [← hl9_3])
                              go_roundg k3
                              case measure => have := HK1.out; have := HK2.out; have := HK3.out; omega
                              case rel => exact ⟨(y118), (wrap64 (x63_3 + 1)), (by first | rfl | (simp; done) | (simp [*]; done)), H', ⟨by have := HK1.out; have := HK2.out; have := HK3.out; omega⟩, ⟨by (try simp only [hl9_3]); (with_reducible repeat (first | apply Kd.R_alloc | apply Kd.R_drewN | apply Kd.R_drew)); exact HO_9.out⟩, ⟨by (try simp only [hl9_3]); (with_reducible repeat (first | apply Kd.R_alloc | apply Kd.R_drewN | apply Kd.R_drew)); exact HO_11.out⟩, ⟨by (try simp only [hl9_3]); (with_reducible repeat (first | apply Kd.R_alloc | apply Kd.R_drewN | apply Kd.R_drew)); exact Kd.R_mono HO_61.out (fun _ hk => hk.2)⟩, ⟨by repeat (first | (with_reducible first | exact HB.out | apply below_alloc | apply pw_below_drewN | apply below_drew1) | exact HB.out)⟩⟩
                            · rw [if_neg c38] at H
                              exact absurd H (by simp)
                          · rw [if_neg c37] at H
                            exact absurd H (by simp)
                        · rw [if_neg c36] at H
                          exact absurd H (by simp)
                      · rw [if_neg c35] at H
                        exact absurd H (by simp)
                    · rw [if_neg c34] at H
                      have c34b0 : decide (x63_3 < (t113.length : Int)) = false := decide_eq_false c34
                      (try (have c34b0l := c34b0; simp only [hl9_3] at c34b0l))
                      clear c34
                      by_cases c42 : x13_2 > 0
                      · rw [if_pos c42] at H
                        have c42b0 : decide (0 < x13_2) = true := decide_eq_true c42
                        clear c42
                        by_cases c43 : x11_1.length < 8796093022208
                        · rw [if_pos c43] at H
                          have LMc43 := Aside0.mk c43
                          clear c43
                          obtain ⟨y119, hy119⟩ : ∃ y_ : List (S41), y_ = (x11_1 ++ [(⟨t104, x13_2⟩ : S41)]) := ⟨_, rfl⟩
                          replace H : (branch_town_cheapest.l0 k3 a2 x9_3 (wrap64 (x10_1 + x13_2)) y119 a0_0 l0_1) = some (r1, r2, r3) := by first | (rw [hy119]; with_reducible exact H) | (have H2_ := (Option.bind_some _ _).symm.trans H; rw [hy119]; with_reducible exact H2_) | (have H2_ := (Option.bind_some _ _).symm.trans H; with_reducible exact H2_) | with_reducible exact H | (rw [hy119]; exact H) | exact H
                          have Ny119 := Aside0.mk hy119
                          clear hy119
                          have H' := Aside0.mk H
                          clear H
                          go_wp2_with (first | ((with_reducible refine gate_builtin (b := .append) (xs := #[.tmp 80, .tmp 84]) rfl ?_); at_builtin; refine Kd.R_append k41 (w0 := w) w.heap.size rfl (.tmp 80) (.tmp 84) 35 41 (.agg #[(.int .i64 0), (.int .i64 0)]) 16 rfl Try.underlying35 info41 rfl (by decide) (by omega) u11 x11_1 (⟨t104, x13_2⟩ : S41) [.int .i64 t104, .int .i64 x13_2] (fun _ => True) (fun _ => False) rfl rfl ?aP (fun _ hk => hk.elim) ?aF ?aO ?aB ?aS ?aL ?_; (case aP => exact k41_mkM _ _ _ (⟨t104, x13_2⟩ : S41)); (case aB => exact (by repeat (first | (with_reducible first | exact HB.out | apply below_alloc | apply pw_below_drewN | apply below_drew1) | exact HB.out))); (case aF => exact (fun _ _ => trivial)); (case aO => exact (by (with_reducible repeat (first | apply Kd.R_alloc | apply Kd.R_drewN | apply Kd.R_drew)); exact HO_11.out)); (case aS => exact (below_size (by repeat (first | (with_reducible first | exact HB.out | apply below_alloc | apply pw_below_drewN | apply below_drew1) | exact HB.out)))); (case aL => have := LMc43.out; omega); intro v120 w44 ho hb hg hat; rw [← Ny119.out] at ho; have n0_ := Aside0.mk (Kd.R_over' (by (with_reducible repeat (first | apply Kd.R_alloc | apply Kd.R_drewN | apply Kd.R_drew)); exact HO_9.out) (Kd.R_typed (by (with_reducible repeat (first | apply Kd.R_alloc | apply Kd.R_drewN | apply Kd.R_drew)); exact HO_11.out)) (by decide) hg); have n1_ := Aside0.mk (Kd.R_over' (by (with_reducible repeat (first | apply Kd.R_alloc | apply Kd.R_drewN | apply Kd.R_drew)); exact HO_61.out) (Kd.R_typed (by (with_reducible repeat (first | apply Kd.R_alloc | apply Kd.R_drewN | apply Kd.R_drew)); exact HO_11.out)) (by decide) hg); have n2_ := Aside0.mk (hb); have n3_ := Aside0.mk (ho); clear HO_9; clear HO_61; clear HB; clear HO_11; have HO_9 := n0_; have HO_61 := n1_; have HB := n2_; have HO121 := n3_; clear n0_ n1_ n2_ n3_; clear ho hb hg hat))
                          (try simp only [← hl9_3])
                          go_roundg k3
                          case measure => have := HK1.out; have := HK2.out; have := HK3.out; omega
                          case rel => exact ⟨(x9_3), (wrap64 (x10_1 + x13_2)), (y119), (by first | rfl | (simp; done) | (simp [*]; done)), H', ⟨by have := HK1.out; have := HK2.out; have := HK3.out; omega⟩, ⟨by (try simp only [hl9_3]); (with_reducible repeat (first | apply Kd.R_alloc | apply Kd.R_drewN | apply Kd.R_drew)); exact Kd.R_mono HO_9.out (fun _ hk => trivial)⟩, ⟨by (try simp only [hl9_3]); (with_reducible repeat (first | apply Kd.R_alloc | apply Kd.R_drewN | apply Kd.R_drew)); exact HO121.out⟩, ⟨by repeat (first | (with_reducible first | exact HB.out | apply below_alloc | apply pw_below_drewN | apply below_drew1) | exact HB.out)⟩⟩
                        · rw [if_neg c43] at H
                          exact absurd H (by simp)
                      · rw [if_neg c42] at H
                        have c42b0 : decide (0 < x13_2) = false := decide_eq_false c42
                        clear c42
                        have H' := Aside0.mk H
                        clear H
                        go_wp2
                        (try simp only [← hl9_3])
                        go_roundg k3
                        case measure => have := HK1.out; have := HK2.out; have := HK3.out; omega
                        case rel => exact ⟨(x9_3), (x10_1), (x11_1), (by first | rfl | (simp; done) | (simp [*]; done)), H', ⟨by have := HK1.out; have := HK2.out; have := HK3.out; omega⟩, ⟨by (try simp only [hl9_3]); (with_reducible repeat (first | apply Kd.R_alloc | apply Kd.R_drewN | apply Kd.R_drew)); exact Kd.R_mono HO_9.out (fun _ hk => trivial)⟩, ⟨by (try simp only [hl9_3]); (with_reducible repeat (first | apply Kd.R_alloc | apply Kd.R_drewN | apply Kd.R_drew)); exact HO_11.out⟩, ⟨by repeat (first | (with_reducible first | exact HB.out | apply below_alloc | apply pw_below_drewN | apply below_drew1) | exact HB.out)⟩⟩
end Go.Proofs.Ytpmadffgdfholaa.B
namespace Go.Proofs.Ytpmadffgdfholaa.B
open Go.RowKit Go.MapKept Go.Proofs.YtpmadffgdfholaaW.PrintWords Go.Proofs.YtpmadffgdfholaaW.PrintLast Go.Proofs.YtpmadffgdfholaaW.PrintMore
set_option linter.unusedVariables false
set_option linter.unusedSimpArgs false
attribute [local go_sem ↓] Go.wp_at_zero Go.wp_at_succ
set_option maxHeartbeats 800000 in
set_option maxRecDepth 100000 in
theorem first3_calls (i : Int) (ga gb m1 m2 : Nat) (g1 g2 : Int → Bool) (w : World) (hA : w.heap[ga]? = some (.cells #[.map (some m1)] 92 (0, 0))) (hB : w.heap[gb]? = some (.cells #[.map (some m2)] 92 (0, 0))) (h1 : SetM w m1 g1) (h2 : SetM w m2 g2) :
    Calls Try.prog 72 #[.int .i64 i, .pointer (some ⟨ga, 0, none⟩), .pointer (some ⟨gb, 0, none⟩)] w fun e w' => e = .returned (.bool (g1 i || g2 i)) ∧ Below w.heap.size w w' := by
  have hl1 := h1.lookup Try.underlying92 Try.underlying3 i (by first | rfl | (go_simp; done))
  have hl2 := h2.lookup Try.underlying92 Try.underlying3 i (by first | rfl | (go_simp; done))
  have ha := (blk_cell hA 0).trans rfl
  have hb := (blk_cell hB 0).trans rfl
  have HB := Aside0.mk (Below.refl w.heap.size w)
  obtain ⟨b1, hb1⟩ : ∃ b, g1 i = b := ⟨_, rfl⟩
  obtain ⟨b2, hb2⟩ : ∃ b, g2 i = b := ⟨_, rfl⟩
  rw [hb1] at hl1 ⊢
  rw [hb2] at hl2 ⊢
  clear hb1 hb2 h1 h2 hA hB
  go_enter Try.func72, Try.ntmps72
  cases b1 with
  | true =>
    go_wp2
    go_ret
    exact ⟨by first | rfl | (simp; done), HB.out⟩
  | false =>
    go_wp2
    go_ret
    exact ⟨by first | rfl | (simp; done), HB.out⟩
theorem first3_fn {w : World} {ga gb m1 m2 : Nat} {g1 g2 : Int → Bool} (hA : w.heap[ga]? = some (.cells #[.map (some m1)] 92 (0, 0))) (hB : w.heap[gb]? = some (.cells #[.map (some m2)] 92 (0, 0))) (h1 : SetM w m1 g1) (h2 : SetM w m2 g2) :
    IsFn Try.prog w (.func (.func 72) #[] #[.pointer (some ⟨ga, 0, none⟩), .pointer (some ⟨gb, 0, none⟩)]) (fun i => some (g1 i || g2 i)) := by
  refine ⟨72, _, Try.f72, rfl, Try.func72, by kernel_rfl, rfl, fun W hW i r hf => ?_⟩
  obtain rfl := Option.some.inj hf
  exact first3_calls i ga gb m1 m2 g1 g2 W (blk_below hA hW) (blk_below hB hW) (h1.below hW) (h2.below hW)
theorem first2_fn {w : World} {g1 gg1 g2 : Nat} {n : Int} {A : Option Addr} {c : Nat} {l : List S30} {m : Option Nat} {tk : Int} (hP1 : w.heap[g1]? = some (.cells #[.pointer (some ⟨gg1, 0, none⟩)] 65 (0, 0))) (hQ1 : w.heap[gg1]? = some (.cells #[.int .i64 n, .slice A l.length c, .map m] 70 (0, 0)))
    (hr : Kd.C k30 w A l.length l) (hc : l.length ≤ c) (hP2 : w.heap[g2]? = some (.cells #[.int .i64 tk] 3 (0, 0))) :
    IsFn Try.prog w (.func (.func 71) #[] #[.pointer (some ⟨g1, 0, none⟩), .pointer (some ⟨g2, 0, none⟩)]) (fun i => branch_town_first_2.f i n l tk) := by
  refine ⟨71, _, Try.f71, rfl, Try.func71, by kernel_rfl, rfl, fun W hW i r hf => ?_⟩
  refine (branch_town_first_2.calls i g1 gg1 n A c l m g2 tk r W (blk_below hP1 hW) (blk_below hQ1 hW) (Kd.C_below hr hW) hc (blk_below hP2 hW) hf).mono (fun e_ w_ x_ => ⟨x_.1, by obtain ⟨_, n_, rfl⟩ := x_; exact pw_below_drewN (Below.refl _ _) n_⟩)
theorem first1_fn (w : World) : IsFn Try.prog w (.func (.func 69) #[] #[]) (fun i => branch_town_first_1.f i) :=
  ⟨69, #[], Try.f69, rfl, Try.func69, by kernel_rfl, rfl, fun W_ _ i_ r_ h_ => (branch_town_first_1.calls i_ r_ W_ h_).mono (fun e_ w_ x_ => ⟨x_.1, by obtain ⟨_, n_, rfl⟩ := x_; exact pw_below_drewN (Below.refl _ _) n_⟩)⟩
/-- The streets of a list but one. -/
def moreL (i : Int) (T : List Int) : Int → Bool := fun j => decide (j ∈ T) && decide (j ≠ i)
theorem moreL_nil (i : Int) : moreL i [] = fun _ => false := by funext j; simp [moreL]
theorem moreL_snoc_ne (i x : Int) (T : List Int) (h : x ≠ i) : moreL i (T ++ [x]) = fun j => decide (j = x) || moreL i T j := by
  funext j
  simp only [moreL, List.mem_append, List.mem_singleton]
  by_cases h1 : j = x
  · subst h1; simp [h]
  · simp [h1]
theorem moreL_snoc_eq (i : Int) (T : List Int) : moreL i (T ++ [i]) = moreL i T := by
  funext j
  simp only [moreL, List.mem_append, List.mem_singleton]
  by_cases h1 : j = i
  · subst h1; simp
  · simp [h1]
def firstL (k : Nat) (n : Int) (l : List S30) (price : List Int) (cost : Int) : Nat → Nat → List Int → (Int → Bool) → Option (List Int × Int × Int)
  | 0, _, list, _ => some (list, cost, 0)
  | c + 1, i, list, gone =>
    (if (rd_T30 l (i : Int)).f1 = 0 then some true else slices_ContainsFunc_int_int.f k list (fun j => branch_town_first_2.f j n l (rd_T30 l (i : Int)).f1)).bind fun sk =>
      if sk = true then firstL k n l price cost c (i + 1) list (fun j => decide (j = (i : Int)) || gone j) else
        (branch_town_cheapest.f k n l price (fun j => some (gone j || moreL (i : Int) (toB l l.length (rd_T30 l (i : Int)).f1) j))).bind fun bt =>
          if (bt.2.2 && (bt.1 == cost)) = true then (if list.length < 1000000 then firstL k n l price cost c (i + 1) (list ++ [(i : Int)]) (fun j => gone j || moreL (i : Int) (toB l l.length (rd_T30 l (i : Int)).f1) j) else none)
          else firstL k n l price cost c (i + 1) list (fun j => decide (j = (i : Int)) || gone j)
def branch_town_first.f (k : Nat) (a0_0 : Int) (l0_1 : List S30) (l1 : List Int) : Option (List Int × Int × Int) :=
  if l0_1.length < 1000000 then (branch_town_cheapest.f k a0_0 l0_1 l1 (fun i => branch_town_first_1.f i)).bind fun bt => if bt.2.2 = true then firstL k a0_0 l0_1 l1 bt.1 l0_1.length 0 [] (fun _ => false) else some ([], 0, 10) else none
theorem firstL_mono (k : Nat) (n : Int) (l : List S30) (price : List Int) (cost : Int) : ∀ c i list gone, LeO (firstL k n l price cost c i list gone) (firstL (k + 1) n l price cost c i list gone)
  | 0, _, _, _ => LeO.refl _
  | c + 1, i, list, gone => by
    unfold firstL
    refine LeO.bind (LeO.ite (LeO.refl _) (slices_ContainsFunc_int_int.mono _ _ k)) fun sk => ?_
    refine LeO.ite (firstL_mono k n l price cost c _ _ _) ?_
    refine LeO.bind (branch_town_cheapest.mono _ _ _ _ k) fun bt => ?_
    exact LeO.ite (LeO.ite (firstL_mono k n l price cost c _ _ _) (LeO.refl _)) (firstL_mono k n l price cost c _ _ _)
theorem branch_town_first.mono : ∀ a0 a1 a2 k, LeO (branch_town_first.f k a0 a1 a2) (branch_town_first.f (k + 1) a0 a1 a2) := by
  intro a0 a1 a2 k
  unfold branch_town_first.f
  refine LeO.ite ?_ (LeO.refl _)
  refine LeO.bind (branch_town_cheapest.mono _ _ _ _ k) fun bt => ?_
  exact LeO.ite (firstL_mono k a0 a1 a2 _ _ _ _ _) (LeO.refl _)
/-- What a walk of first knows of its world: the variables' blocks, the list, what is gone. -/
structure FEnv (w W : World) (tb g0 gq m : Nat) (vl : Value) (list : List Int) (gone : Int → Bool) : Prop where
  hB : Below w.heap.size w W
  tB : W.heap[tb]? = some (.cells #[.pointer (some ⟨g0, 0, none⟩)] 65 (0, 0))
  qB : W.heap[gq]? = some (.cells #[.map (some m)] 92 (0, 0))
  hM : SetM W m gone
  hL : Kd.R (Kd.int .i64) 3 W w.heap.size (fun _ => True) vl list
  gm : w.heap.size ≤ m
theorem FEnv.below {w W W2 : World} {tb g0 gq m : Nat} {vl : Value} {list : List Int} {gone : Int → Bool} (h : FEnv w W tb g0 gq m vl list gone) (hb : Below W.heap.size W W2) : FEnv w W2 tb g0 gq m vl list gone :=
  ⟨below_step h.hB hb, blk_below h.tB hb, blk_below h.qB hb, h.hM.below hb, Kd.R_below h.hL hb, h.gm⟩
theorem FEnv.upd {w W W2 : World} {tb g0 gq m : Nat} {vl : Value} {list : List Int} {gone gone2 : Int → Bool} (h : FEnv w W tb g0 gq m vl list gone) (hM2 : SetM W2 m gone2) (hg : W.grownBy W2 (some m)) : FEnv w W2 tb g0 gq m vl list gone2 :=
  ⟨h.hB.grown hg h.hB.size (fun j hj => by cases hj; exact h.gm), blk_grown h.tB hg (by have := h.hM.ne_cells h.tB; intro e; injection e with e; exact this e.symm), blk_grown h.qB hg (by have := h.hM.ne_cells h.qB; intro e; injection e with e; exact this e.symm), hM2, Kd.R_map h.hL h.hM hg, h.gm⟩
theorem FEnv.other {w W W2 : World} {tb g0 gq m m2 : Nat} {vl : Value} {list : List Int} {gone g2 : Int → Bool} (h : FEnv w W tb g0 gq m vl list gone) (hM2 : SetM W m2 g2) (hne : m ≠ m2) (hlo : w.heap.size ≤ m2) (hg : W.grownBy W2 (some m2)) : FEnv w W2 tb g0 gq m vl list gone :=
  ⟨h.hB.grown hg h.hB.size (fun j hj => by cases hj; exact hlo), blk_grown h.tB hg (by have := hM2.ne_cells h.tB; intro e; injection e with e; exact this e.symm), blk_grown h.qB hg (by have := hM2.ne_cells h.qB; intro e; injection e with e; exact this e.symm), h.hM.of_block (hg.block m h.hM.lt (fun e => hne (by injection e))), Kd.R_map h.hL hM2 hg, h.gm⟩
theorem FEnv.iter {w W W2 : World} {tb g0 gq m m2 r cnt : Nat} {vl : Value} {list : List Int} {gone g2 d2 : Int → Bool} (h : FEnv w W tb g0 gq m vl list gone) (hI : IterM W m2 r g2 d2 cnt) (hlo : w.heap.size ≤ r) (hg : W.grownBy W2 (some r)) : FEnv w W2 tb g0 gq m vl list gone := by
  refine ⟨h.hB.grown hg h.hB.size (fun j hj => by cases hj; exact hlo), blk_grown h.tB hg (by have := hI.ne_cells h.tB; intro e; injection e with e; exact this e.symm), blk_grown h.qB hg (by have := hI.ne_cells h.qB; intro e; injection e with e; exact this e.symm), h.hM.of_block (hg.block m h.hM.lt (fun e => hI.ne_map h.hM (by injection e with e; exact e.symm))), ?_, h.gm⟩
  refine Kd.R_mono (Kd.R_grown (Kd.R_bound h.hL) hg (fun k hk he => ?_)) (fun _ hk => hk.1)
  obtain ⟨_, _, _, q, _, cells, hc⟩ := hk
  injection he with he
  subst he
  exact hI.ne_cells hc rfl
theorem IterM.turn {w w2 : World} {m r k : Nat} {g done : Int → Bool} {cnt : Nat} (h : IterM w m r g done cnt) (hg : w.grownBy w2 (some k)) (h1 : m ≠ k) (h2 : r ≠ k) : IterM w2 m r g done cnt :=
  h.of_blocks (hg.block m h.set.lt (fun e => h1 (by injection e))) (hg.block r h.lt (fun e => h2 (by injection e)))
theorem SetM.row {w w2 : World} {m base : Nat} {g : Int → Bool} {ok : Nat → Prop} {v : Value} {xs : List Int} (h : SetM w m g) (hR : Kd.R (Kd.int .i64) 3 w base ok v xs) (hg : w.grownBy w2 v.ownBlock) : SetM w2 m g :=
  h.of_block (hg.block m h.lt (fun e => by
    obtain ⟨cells, hc⟩ := own_typed (Kd.own_of_R hR) m e.symm
    exact h.ne_cells hc rfl))
theorem FEnv.app {w W W2 : World} {tb g0 gq m : Nat} {vl v2 : Value} {list list2 : List Int} {gone : Int → Bool} (h : FEnv w W tb g0 gq m vl list gone) (hb : Below w.heap.size w W2) (hg : W.grownBy W2 vl.ownBlock) (hL : Kd.R (Kd.int .i64) 3 W2 w.heap.size (fun _ => True) v2 list2) : FEnv w W2 tb g0 gq m v2 list2 gone :=
  ⟨hb, blk_grown h.tB hg (Kd.R_ne h.hL h.tB (by decide)), blk_grown h.qB hg (Kd.R_ne h.hL h.qB (by decide)), h.hM.row h.hL hg, hL, h.gm⟩
theorem take_rdI (T : List Int) (q : Nat) (h : q < T.length) : T.take (q + 1) = T.take q ++ [rd T (q : Int)] := by
  rw [List.take_add_one, List.getElem?_eq_getElem h]
  simp [rd, List.getD, List.getElem?_eq_getElem h]
theorem drop_cell {w W : World} {a : Addr} {v : Value} (h : w.cell? a = some v) (hB : Below w.heap.size w W) : W.cell? a = some v := (hB.cell (World.block_lt_of_cell? w _ h)).trans h
set_option maxHeartbeats 8000000 in
set_option maxRecDepth 100000 in
theorem branch_town_first.calls (k : Nat) (g0 : Nat) (a0_0 : Int) (A0_1 : Option Addr) (c0_1 : Nat) (l0_1 : List S30) (mm base0 : Nat) (A1 : Option Addr) (c1 : Nat) (l1 : List Int) (r1 : List Int) (r2 r3 : Int) (w : World) (hP0 : w.heap[g0]? = some (.cells #[.int .i64 a0_0, .slice A0_1 l0_1.length c0_1, .map (some mm)] 70 (0, 0))) (hr0_1 : Kd.C k30 w A0_1 l0_1.length l0_1) (hc0_1 : l0_1.length ≤ c0_1) (hr1 : Kd.C (Kd.int .i64) w A1 l1.length l1) (hc1 : l1.length ≤ c1) (hG : GrpM w base0 mm (toB l0_1 l0_1.length)) (h : branch_town_first.f k a0_0 l0_1 l1 = some (r1, r2, r3)) :
    Calls Try.prog 51 #[.pointer (some ⟨g0, 0, none⟩), .slice A1 l1.length c1] w fun e w' => ∃ v0_ : Value, e = .returned (.tuple #[v0_, .int .i64 r2, .int .i64 r3]) ∧ Kd.R (Kd.int .i64) 3 w' w.heap.size (fun _ => True) v0_ r1 ∧ Below w.heap.size w w' := by
  have hu30 := Try.underlying30
  have hu65 := Try.underlying65
  have HP0 := Aside0.mk hP0
  have HR0 := Aside0.mk hr0_1
  have HC0 := Aside0.mk hc0_1
  have HR1 := Aside0.mk hr1
  have HC1 := Aside0.mk hc1
  have HG := Aside0.mk hG
  have HX1 := Aside0.mk (show w.cell? ⟨g0, 1, none⟩ = some (.slice A0_1 l0_1.length c0_1) from (blk_cell hP0 1).trans rfl)
  have HX2 := Aside0.mk (show w.cell? ⟨g0, 2, none⟩ = some (.map (some mm)) from (blk_cell hP0 2).trans rfl)
  clear hP0 hr0_1 hc0_1 hr1 hc1 hG
  have HB := Aside0.mk (Below.refl w.heap.size w)
  have hmf : ∀ (fn : Fn) (first cap : Array Value) (w : World), (Instr.makeFunc fn first cap).run Try.prog w = .ok (.func fn first cap) w := fun _ _ _ _ => rfl
  unfold branch_town_first.f at h
  split at h
  case isFalse => exact absurd h (by simp)
  rename_i hlen
  have HLEN := Aside0.mk hlen
  clear hlen
  obtain ⟨⟨b1, b2, b3⟩, hbt, h⟩ := Option.bind_eq_some_iff.1 h
  have HBT := Aside0.mk hbt
  have H0 := Aside0.mk h
  clear hbt h
  cases b3 with
  | false =>
    have h := H0.out
    simp only [Bool.false_eq_true, if_false, Option.some.injEq, Prod.mk.injEq] at h
    obtain ⟨rfl, rfl, rfl⟩ := h
    go_enter Try.func51, Try.ntmps51
    go_wp2_with (first | ((with_reducible refine gate_dst (N := 2) rfl ?_); refine box_event ?hg (N := 2) ?hd (cs := #[.pointer (some ⟨g0, 0, none⟩)]) (t := 65) ?hr ?_; (case hd => rfl); (case hg => rfl); (case hr => first | (go_simp; done) | (go_simp; rfl)); intro tb hg w1 hbox hb; have TB := Aside0.mk hbox; have GT := Aside0.mk (show w.heap.size ≤ tb by rw [hg]; exact Nat.le_refl _); clear HB; have HB := Aside0.mk hb; clear hg hbox hb; have ht_0 : w1.cell? ⟨tb, 0, none⟩ = some (.pointer (some ⟨g0, 0, none⟩)) := (blk_cell TB.out 0).trans rfl) | (go_at_call 46; (refine (branch_town_cheapest.calls k g0 a0_0 A0_1 c0_1 l0_1 (some mm) A1 c1 l1 _ (fun i => branch_town_first_1.f i) b1 b2 _ _ (blk_below HP0.out HB.out) (Kd.C_below HR0.out HB.out) HC0.out (Kd.C_below HR1.out HB.out) HC1.out (first1_fn _) HBT.out).mono ?_); rintro e w2 ⟨vb, rfl, ho, hb⟩; have n0_ := Aside0.mk (below_step HB.out hb); have n1_ := Aside0.mk (blk_below TB.out hb); clear HB TB; have HB := n0_; have TB := n1_; clear n0_ n1_ ho hb ht_0; have ht_0 : w2.cell? ⟨tb, 0, none⟩ = some (.pointer (some ⟨g0, 0, none⟩)) := (blk_cell TB.out 0).trans rfl; have hp_1 := drop_cell HX1.out HB.out; have hp_2 := drop_cell HX2.out HB.out))
    go_ret3
    exact ⟨_, by first | rfl | (simp; done), Kd.R_nil _ _ _ _ _, by repeat (first | (with_reducible first | exact HB.out | apply below_alloc | apply pw_below_drewN | apply below_drew1) | exact HB.out)⟩
  | true =>
    have h := H0.out
    simp only [if_true] at h
    clear H0
    have H0 := Aside0.mk h
    clear h
    go_enter Try.func51, Try.ntmps51
    go_upto_region 7 with (first | ((with_reducible refine gate_dst (N := 2) rfl ?_); refine box_event ?hg (N := 2) ?hd (cs := #[.pointer (some ⟨g0, 0, none⟩)]) (t := 65) ?hr ?_; (case hd => rfl); (case hg => rfl); (case hr => first | (go_simp; done) | (go_simp; rfl)); intro tb hg w1 hbox hb; have TB := Aside0.mk hbox; have GT := Aside0.mk (show w.heap.size ≤ tb by rw [hg]; exact Nat.le_refl _); clear HB; have HB := Aside0.mk hb; clear hg hbox hb; have ht_0 : w1.cell? ⟨tb, 0, none⟩ = some (.pointer (some ⟨g0, 0, none⟩)) := (blk_cell TB.out 0).trans rfl) | (go_at_call 46; (refine (branch_town_cheapest.calls k g0 a0_0 A0_1 c0_1 l0_1 (some mm) A1 c1 l1 _ (fun i => branch_town_first_1.f i) b1 b2 _ _ (blk_below HP0.out HB.out) (Kd.C_below HR0.out HB.out) HC0.out (Kd.C_below HR1.out HB.out) HC1.out (first1_fn _) HBT.out).mono ?_); rintro e w2 ⟨vb, rfl, ho, hb⟩; have n0_ := Aside0.mk (below_step HB.out hb); have n1_ := Aside0.mk (blk_below TB.out hb); clear HB TB; have HB := n0_; have TB := n1_; clear n0_ n1_ ho hb ht_0; have ht_0 : w2.cell? ⟨tb, 0, none⟩ = some (.pointer (some ⟨g0, 0, none⟩)) := (blk_cell TB.out 0).trans rfl; have hp_1 := drop_cell HX1.out HB.out; have hp_2 := drop_cell HX2.out HB.out) | ((with_reducible refine gate_dst (N := 32) rfl ?_); refine map_event ?hg (N := 32) ?hd ?hr ?_; (case hd => rfl); (case hg => rfl); (case hr => rfl); intro m hm w3 hmap hb; have HM := Aside0.mk (SetM.new hmap); have n0_ := Aside0.mk (blk_below (by (with_reducible repeat (first | refine blk_drewN ?_ _ | refine blk_drew ?_ | refine blk_alloc ?_ _)); exact TB.out) hb); have n1_ := Aside0.mk (below_step (by repeat (first | (with_reducible first | exact HB.out | apply below_alloc | apply pw_below_drewN | apply below_drew1) | exact HB.out)) hb); have GM := Aside0.mk ((by rw [hm]; exact (below_size (by repeat (first | (with_reducible first | exact HB.out | apply below_alloc | apply pw_below_drewN | apply below_drew1) | exact HB.out)))) : w.heap.size ≤ m); clear TB HB; have TB := n0_; have HB := n1_; clear n0_ n1_ hm hmap hb))
    obtain ⟨gq, hgq⟩ : ∃ gq, w3.heap.size = gq := ⟨_, rfl⟩
    rw [hgq]
    obtain ⟨wq, hwq⟩ : ∃ wq, w3.alloc (.cells #[.map (some m)] 92) = wq := ⟨_, rfl⟩
    rw [hwq]
    have n0_ : Below w3.heap.size w3 wq := hwq ▸ below_alloc (Below.refl _ _) _
    have FE := Aside0.mk (show FEnv w wq tb g0 gq m (.slice none 0 0) [] (fun _ => false) from ⟨below_step HB.out n0_, blk_below TB.out n0_, hgq ▸ hwq ▸ heap_alloc_new w3 _, HM.out.below n0_, Kd.R_nil _ _ _ _ _, GM.out⟩)
    clear n0_ hgq hwq HB TB HM ht_0 hp_1 hp_2
    have ht_0 : wq.cell? ⟨tb, 0, none⟩ = some (.pointer (some ⟨g0, 0, none⟩)) := (blk_cell FE.out.tB 0).trans rfl
    have hp_1 := drop_cell HX1.out FE.out.hB
    have hp_2 := drop_cell HX2.out FE.out.hB
    have hq_0 : wq.cell? ⟨gq, 0, none⟩ = some (.map (some m)) := (blk_cell FE.out.qB 0).trans rfl
    go_wp2
    go_loopg [11, 38] l0_1.length (fun kq v11 v38 w' => ∃ (i : Nat) (list : List Int) (gone : Int → Bool), v38 = .int .i64 (i : Int) ∧ Aside0 (i + kq = l0_1.length) ∧ Aside0 (firstL k a0_0 l0_1 l1 b1 kq i list gone = some (r1, r2, r3)) ∧ Aside0 (FEnv w w' tb g0 gq m v11 list gone))
    case atStart => exact ⟨0, [], _, rfl, ⟨by simp⟩, ⟨H0.out⟩, FE⟩
    case round =>
      clear H0 FE ht_0 hp_1 hp_2 hq_0
      obtain ⟨i, list, gone, rfl, HI, HH, FE⟩ := hrel
      have ht_0 : wr.cell? ⟨tb, 0, none⟩ = some (.pointer (some ⟨g0, 0, none⟩)) := (blk_cell FE.out.tB 0).trans rfl
      have hp_1 := drop_cell HX1.out FE.out.hB
      have hp_2 := drop_cell HX2.out FE.out.hB
      have hq_0 : wr.cell? ⟨gq, 0, none⟩ = some (.map (some m)) := (blk_cell FE.out.qB 0).trans rfl
      cases gk with
      | zero =>
        have hi := HI.out
        have c4b : decide ((i : Int) < (l0_1.length : Int)) = false := decide_eq_false (by omega)
        have c4b2 : decide (i < l0_1.length) = false := decide_eq_false (by omega)
        have hh := HH.out
        simp only [firstL, Option.some.injEq, Prod.mk.injEq] at hh
        obtain ⟨rfl, rfl, rfl⟩ := hh
        clear hi
        go_wp2
        go_ret3
        exact ⟨_, by first | rfl | (simp; done), FE.out.hL, FE.out.hB⟩
      | succ k1 =>
        have hi0 : (0 : Int) ≤ (i : Int) := Int.natCast_nonneg _
        have hi1 : (i : Int) < (l0_1.length : Int) := by have := HI.out; omega
        have c4b : decide ((i : Int) < (l0_1.length : Int)) = true := decide_eq_true hi1
        have c4b2 : decide (i < l0_1.length) = true := decide_eq_true (by omega)
        have hi2 : i < l0_1.length := by omega
        have hh := HH.out
        unfold firstL at hh
        obtain ⟨ad, e, hx_0, hx_1, hx_2⟩ := at_T30 HR0.out (i : Int) hi0 hi1
        cases e
        obtain ⟨tk, htk⟩ : ∃ tk, (rd_T30 l0_1 (i : Int)).f1 = tk := ⟨_, rfl⟩
        rw [htk] at hx_1 hh
        simp only [Int.toNat_natCast] at hx_1
        clear htk hx_0 hx_2 HH
        replace hx_1 := drop_cell hx_1 FE.out.hB
        replace hi0 := eq_true hi0
        replace hi1 := eq_true hi1
        replace hi2 := eq_true hi2
        obtain ⟨sk, hsk, hh⟩ := Option.bind_eq_some_iff.1 hh
        have HSK := Aside0.mk hsk
        have HH := Aside0.mk hh
        clear hsk hh
        go_upto_region 11 with (fail)
        (try simp only [Act.put, List.setIfInBounds_toArray, List.set_cons_zero, List.set_cons_succ])
        obtain ⟨gt, hgt⟩ : ∃ gt, wr.heap.size = gt := ⟨_, rfl⟩
        rw [hgt]
        obtain ⟨wq1, hwq⟩ : ∃ wq, wr.alloc (.cells #[.int .i64 tk] 3) = wq := ⟨_, rfl⟩
        rw [hwq]
        have n0_ : Below wr.heap.size wr wq1 := hwq ▸ below_alloc (Below.refl _ _) _
        have TK := Aside0.mk (hgt ▸ hwq ▸ heap_alloc_new wr _ : wq1.heap[gt]? = some (.cells #[.int .i64 tk] 3 (0, 0)))
        have GTK := Aside0.mk (hgt ▸ FE.out.hB.size : w.heap.size ≤ gt)
        have n1_ := Aside0.mk (FE.out.below n0_)
        clear FE ht_0 hp_1 hp_2 hq_0 hx_1 n0_ hgt hwq
        have FE := n1_
        clear n1_
        have ht_0 : wq1.cell? ⟨tb, 0, none⟩ = some (.pointer (some ⟨g0, 0, none⟩)) := (blk_cell FE.out.tB 0).trans rfl
        have hp_1 := drop_cell HX1.out FE.out.hB
        have hp_2 := drop_cell HX2.out FE.out.hB
        have hq_0 : wq1.cell? ⟨gq, 0, none⟩ = some (.map (some m)) := (blk_cell FE.out.qB 0).trans rfl
        have hk_0 : wq1.cell? ⟨gt, 0, none⟩ = some (.int .i64 tk) := (blk_cell TK.out 0).trans rfl
        obtain ⟨Al, cl, hvl⟩ := Kd.R_slice FE.out.hL
        subst hvl
        by_cases t0 : tk = 0
        · have hsk := HSK.out
          rw [if_pos t0] at hsk
          obtain rfl := Option.some.inj hsk
          have hh := HH.out
          simp only [if_true] at hh
          clear HH hsk
          have HH := Aside0.mk hh
          clear hh
          have s0 : (tk == 0) = true := beq_iff_eq.mpr t0
          have s0b : decide (tk = 0) = true := decide_eq_true t0
          clear t0
          go_wp2_with (first | (at_mapUpdate; refine update_event FE.out.hM Try.underlying92 Try.underlying3 rfl _ _ _ rfl (i := (i : Int)) rfl rfl rfl ?_; intro w6 hm6 hg6; have n0_ := Aside0.mk (FE.out.upd hm6 hg6); clear FE ht_0 hp_1 hp_2 hq_0 hk_0 hm6 hg6; have FE := n0_; clear n0_))
          go_roundg k1
          case measure => omega
          case rel => exact ⟨i + 1, list, _, val_succ2 i (by have := HI.out; have := HLEN.out; omega), ⟨by have := HI.out; omega⟩, ⟨HH.out⟩, FE⟩
        have hsk := HSK.out
        rw [if_neg t0] at hsk
        have HSK2 := Aside0.mk hsk
        have s0 : (tk == 0) = false := beq_eq_false_iff_ne.mpr t0
        have s0b : decide (tk = 0) = false := decide_eq_false t0
        clear t0 hsk HSK
        cases sk with
        | true =>
          have hh := HH.out
          simp only [if_true] at hh
          clear HH
          have HH := Aside0.mk hh
          clear hh
          go_wp2_with (first | (go_at_call 70; (refine (slices_ContainsFunc_int_int.calls k Al cl list _ (fun j => branch_town_first_2.f j a0_0 l0_1 tk) _ _ (Kd.R_reads' FE.out.hL).2.2 (Kd.R_reads' FE.out.hL).2.1 (first2_fn FE.out.tB (blk_below HP0.out FE.out.hB) (Kd.C_below HR0.out FE.out.hB) HC0.out TK.out) HSK2.out).mono ?_); rintro e w5 ⟨rfl, hb⟩; have n0_ := Aside0.mk (FE.out.below hb); have n1_ := Aside0.mk (blk_below TK.out hb); clear FE TK hb; have FE := n0_; have TK := n1_; clear n0_ n1_; clear ht_0 hp_1 hp_2 hq_0 hk_0; have ht_0 : w5.cell? ⟨tb, 0, none⟩ = some (.pointer (some ⟨g0, 0, none⟩)) := (blk_cell FE.out.tB 0).trans rfl; have hp_1 := drop_cell HX1.out FE.out.hB; have hp_2 := drop_cell HX2.out FE.out.hB; have hq_0 : w5.cell? ⟨gq, 0, none⟩ = some (.map (some m)) := (blk_cell FE.out.qB 0).trans rfl; have hk_0 : w5.cell? ⟨gt, 0, none⟩ = some (.int .i64 tk) := (blk_cell TK.out 0).trans rfl) | (at_mapUpdate; refine update_event FE.out.hM Try.underlying92 Try.underlying3 rfl _ _ _ rfl (i := (i : Int)) rfl rfl rfl ?_; intro w6 hm6 hg6; have n0_ := Aside0.mk (FE.out.upd hm6 hg6); clear FE ht_0 hp_1 hp_2 hq_0 hk_0 hm6 hg6; have FE := n0_; clear n0_))
          go_roundg k1
          case measure => omega
          case rel => exact ⟨i + 1, list, _, val_succ2 i (by have := HI.out; have := HLEN.out; omega), ⟨by have := HI.out; omega⟩, ⟨HH.out⟩, FE⟩
        | false =>
          have hh := HH.out
          simp only [Bool.false_eq_true, if_false] at hh
          obtain ⟨⟨d1, d2, d3⟩, hdt, hh⟩ := Option.bind_eq_some_iff.1 hh
          have HDT := Aside0.mk hdt
          have HH2 := Aside0.mk hh
          clear HH hdt hh
          go_upto_region 14 with (first | (go_at_call 70; (refine (slices_ContainsFunc_int_int.calls k Al cl list _ (fun j => branch_town_first_2.f j a0_0 l0_1 tk) _ _ (Kd.R_reads' FE.out.hL).2.2 (Kd.R_reads' FE.out.hL).2.1 (first2_fn FE.out.tB (blk_below HP0.out FE.out.hB) (Kd.C_below HR0.out FE.out.hB) HC0.out TK.out) HSK2.out).mono ?_); rintro e w5 ⟨rfl, hb⟩; have n0_ := Aside0.mk (FE.out.below hb); have n1_ := Aside0.mk (blk_below TK.out hb); clear FE TK hb; have FE := n0_; have TK := n1_; clear n0_ n1_; clear ht_0 hp_1 hp_2 hq_0 hk_0; have ht_0 : w5.cell? ⟨tb, 0, none⟩ = some (.pointer (some ⟨g0, 0, none⟩)) := (blk_cell FE.out.tB 0).trans rfl; have hp_1 := drop_cell HX1.out FE.out.hB; have hp_2 := drop_cell HX2.out FE.out.hB; have hq_0 : w5.cell? ⟨gq, 0, none⟩ = some (.map (some m)) := (blk_cell FE.out.qB 0).trans rfl; have hk_0 : w5.cell? ⟨gt, 0, none⟩ = some (.int .i64 tk) := (blk_cell TK.out 0).trans rfl) | ((with_reducible refine gate_dst (N := 58) rfl ?_); refine map_event ?hg (N := 58) ?hd ?hr ?_; (case hd => rfl); (case hg => rfl); (case hr => rfl); intro m2 hm w7 hmap hb; have HM2 := Aside0.mk (SetM.new hmap); have n0_ := Aside0.mk (FE.out.below hb); have n1_ := Aside0.mk (blk_below TK.out hb); have GM2 := Aside0.mk ((by rw [hm]; exact FE.out.hB.size) : w.heap.size ≤ m2); have NM := Aside0.mk ((by have := FE.out.hM.lt; rw [hm]; omega) : m ≠ m2); clear FE TK; have FE := n0_; have TK := n1_; clear n0_ n1_ hm hmap hb; clear ht_0 hp_1 hp_2 hq_0 hk_0; have ht_0 : w7.cell? ⟨tb, 0, none⟩ = some (.pointer (some ⟨g0, 0, none⟩)) := (blk_cell FE.out.tB 0).trans rfl; have hp_1 := drop_cell HX1.out FE.out.hB; have hp_2 := drop_cell HX2.out FE.out.hB; have hq_0 : w7.cell? ⟨gq, 0, none⟩ = some (.map (some m)) := (blk_cell FE.out.qB 0).trans rfl; have hk_0 : w7.cell? ⟨gt, 0, none⟩ = some (.int .i64 tk) := (blk_cell TK.out 0).trans rfl))
          obtain ⟨g2, hg2⟩ : ∃ g2, w7.heap.size = g2 := ⟨_, rfl⟩
          rw [hg2]
          obtain ⟨wq2, hwq⟩ : ∃ wq, w7.alloc (.cells #[.map (some m2)] 92) = wq := ⟨_, rfl⟩
          rw [hwq]
          have n0_ : Below w7.heap.size w7 wq2 := hwq ▸ below_alloc (Below.refl _ _) _
          have MB := Aside0.mk (hg2 ▸ hwq ▸ heap_alloc_new w7 _ : wq2.heap[g2]? = some (.cells #[.map (some m2)] 92 (0, 0)))
          have n1_ := Aside0.mk (FE.out.below n0_)
          have n2_ := Aside0.mk (blk_below TK.out n0_)
          have n3_ := Aside0.mk (HM2.out.below n0_)
          clear FE TK HM2 ht_0 hp_1 hp_2 hq_0 hk_0 n0_ hg2 hwq
          have FE := n1_; have TK := n2_; have HM2 := n3_
          clear n1_ n2_ n3_
          have ht_0 : wq2.cell? ⟨tb, 0, none⟩ = some (.pointer (some ⟨g0, 0, none⟩)) := (blk_cell FE.out.tB 0).trans rfl
          have hp_1 := drop_cell HX1.out FE.out.hB
          have hp_2 := drop_cell HX2.out FE.out.hB
          have hq_0 : wq2.cell? ⟨gq, 0, none⟩ = some (.map (some m)) := (blk_cell FE.out.qB 0).trans rfl
          have hk_0 : wq2.cell? ⟨gt, 0, none⟩ = some (.int .i64 tk) := (blk_cell TK.out 0).trans rfl
          have hm3 : ∀ w, (zeroValue 28).run Try.prog w = .ok (.slice none 0 0) w := fun w => by first | rfl | (go_simp; done)
          obtain ⟨vt, hlook, hRt, _, _⟩ := GrpM.lookup HG.out Try.underlying68 Try.underlying3 tk hm3
          obtain ⟨At, ct, hvt⟩ := Kd.R_slice hRt
          subst hvt
          have HRT := Aside0.mk (Kd.R_reads' hRt).2.2
          have hlk : (Instr.lookup 68 (.map (some mm)) (.int .i64 tk) false).run Try.prog wq2.drew = .ok (.slice At (toB l0_1 l0_1.length tk).length ct) wq2.drew := hlook _ (FE.out.hB.block mm HG.out.lt)
          obtain ⟨T, hT⟩ : ∃ T, toB l0_1 l0_1.length tk = T := ⟨_, rfl⟩
          have HTL := Aside0.mk (show T.length ≤ l0_1.length by rw [← hT]; exact toB_len _ _ _)
          rw [hT] at HRT hlk HH2 HDT
          clear hT hRt hlook hm3
          go_wp2_with fail
          go_region_held3 (fun w' => w'.cell? ⟨tb, 0, none⟩ = some (.pointer (some ⟨g0, 0, none⟩)) ∧ w'.cell? ⟨g0, 2, none⟩ = some (.map (some mm)) ∧ w'.cell? ⟨gt, 0, none⟩ = some (.int .i64 tk)) (go_keep) (fail)
          obtain ⟨wq3, hwq⟩ : ∃ wq, wq2.drew = wq := ⟨_, rfl⟩
          rw [hwq]
          have n0_ : Below wq2.heap.size wq2 wq3 := hwq ▸ below_drew1 (Below.refl _ _)
          have n1_ := Aside0.mk (FE.out.below n0_)
          have n2_ := Aside0.mk (blk_below TK.out n0_)
          have n3_ := Aside0.mk (HM2.out.below n0_)
          have n4_ := Aside0.mk (blk_below MB.out n0_)
          clear FE TK HM2 MB ht_0 hp_1 hp_2 hq_0 hk_0 n0_ hwq hlk
          have FE := n1_; have TK := n2_; have HM2 := n3_; have MB := n4_
          clear n1_ n2_ n3_ n4_
          go_wp2
          go_loopg [66] T.length (fun kq v66 w' => ∃ q : Nat, v66 = .int .i64 (q : Int) ∧ Aside0 (q + kq = T.length) ∧ Aside0 (FEnv w w' tb g0 gq m (.slice Al list.length cl) list gone) ∧ Aside0 (w'.heap[gt]? = some (.cells #[.int .i64 tk] 3 (0, 0))) ∧ Aside0 (w'.heap[g2]? = some (.cells #[.map (some m2)] 92 (0, 0))) ∧ Aside0 (SetM w' m2 (moreL (i : Int) (T.take q))))
          case atStart => exact ⟨0, rfl, ⟨by simp⟩, FE, TK, MB, ⟨by rw [List.take_zero, moreL_nil]; exact HM2.out⟩⟩
          case round =>
            clear FE TK MB HM2
            obtain ⟨q, rfl, HQ, FE, TK, MB, HM2⟩ := hrel
            have ht_0 : wr.cell? ⟨tb, 0, none⟩ = some (.pointer (some ⟨g0, 0, none⟩)) := (blk_cell FE.out.tB 0).trans rfl
            have hp_1 := drop_cell HX1.out FE.out.hB
            have hp_2 := drop_cell HX2.out FE.out.hB
            have hq_0 : wr.cell? ⟨gq, 0, none⟩ = some (.map (some m)) := (blk_cell FE.out.qB 0).trans rfl
            have hm_0 : wr.cell? ⟨g2, 0, none⟩ = some (.map (some m2)) := (blk_cell MB.out 0).trans rfl
            cases gk with
            | zero =>
              have hq := HQ.out
              have d4b : decide ((q : Int) < (T.length : Int)) = false := decide_eq_false (by omega)
              have d4b2 : decide (q < T.length) = false := decide_eq_false (by omega)
              have hM2 := HM2.out
              rw [List.take_of_length_le (by omega)] at hM2
              clear HM2 hq
              have HM2 := Aside0.mk hM2
              clear hM2
              cases d3 with
              | false =>
                have hh := HH2.out
                simp only [Bool.false_and, Bool.false_eq_true, if_false] at hh
                clear HH2
                have HH := Aside0.mk hh
                clear hh
                go_wp2_with (first | (go_at_call 46; (refine (branch_town_cheapest.calls k g0 a0_0 _ c0_1 l0_1 (some mm) A1 c1 l1 _ (fun j => some (gone j || moreL (i : Int) T j)) d1 d2 _ _ (blk_below HP0.out FE.out.hB) (Kd.C_below HR0.out FE.out.hB) HC0.out (Kd.C_below HR1.out FE.out.hB) HC1.out (first3_fn FE.out.qB MB.out FE.out.hM HM2.out) HDT.out).mono ?_); rintro e w9 ⟨ve, rfl, ho, hb⟩; have n0_ := Aside0.mk (FE.out.below hb); have n1_ := Aside0.mk (blk_below MB.out hb); have n2_ := Aside0.mk (HM2.out.below hb); clear FE MB HM2 ho hb ht_0 hp_1 hp_2 hq_0 hm_0; have FE := n0_; have MB := n1_; have HM2 := n2_; clear n0_ n1_ n2_; have hq_0 : w9.cell? ⟨gq, 0, none⟩ = some (.map (some m)) := (blk_cell FE.out.qB 0).trans rfl; have hm_0 : w9.cell? ⟨g2, 0, none⟩ = some (.map (some m2)) := (blk_cell MB.out 0).trans rfl) | (at_mapUpdate; refine update_event FE.out.hM Try.underlying92 Try.underlying3 rfl _ _ _ rfl (i := (i : Int)) rfl rfl rfl ?_; intro w6 hm6 hg6; have n0_ := Aside0.mk (FE.out.upd hm6 hg6); clear FE hq_0 hm_0 hm6 hg6; have FE := n0_; clear n0_))
                go_roundg k1
                case measure => omega
                case rel => exact ⟨i + 1, list, _, val_succ2 i (by have := HI.out; have := HLEN.out; omega), ⟨by have := HI.out; omega⟩, ⟨HH.out⟩, FE⟩
              | true =>
                by_cases t5 : d1 = b1
                case neg =>
                  have s5 : (d1 == b1) = false := beq_eq_false_iff_ne.mpr t5
                  have s5b : decide (d1 = b1) = false := decide_eq_false t5
                  clear t5
                  have hh := HH2.out
                  simp only [s5, Bool.and_false, Bool.false_eq_true, if_false] at hh
                  clear HH2
                  have HH := Aside0.mk hh
                  clear hh
                  go_wp2_with (first | (go_at_call 46; (refine (branch_town_cheapest.calls k g0 a0_0 _ c0_1 l0_1 (some mm) A1 c1 l1 _ (fun j => some (gone j || moreL (i : Int) T j)) d1 d2 _ _ (blk_below HP0.out FE.out.hB) (Kd.C_below HR0.out FE.out.hB) HC0.out (Kd.C_below HR1.out FE.out.hB) HC1.out (first3_fn FE.out.qB MB.out FE.out.hM HM2.out) HDT.out).mono ?_); rintro e w9 ⟨ve, rfl, ho, hb⟩; have n0_ := Aside0.mk (FE.out.below hb); have n1_ := Aside0.mk (blk_below MB.out hb); have n2_ := Aside0.mk (HM2.out.below hb); clear FE MB HM2 ho hb ht_0 hp_1 hp_2 hq_0 hm_0; have FE := n0_; have MB := n1_; have HM2 := n2_; clear n0_ n1_ n2_; have hq_0 : w9.cell? ⟨gq, 0, none⟩ = some (.map (some m)) := (blk_cell FE.out.qB 0).trans rfl; have hm_0 : w9.cell? ⟨g2, 0, none⟩ = some (.map (some m2)) := (blk_cell MB.out 0).trans rfl) | (at_mapUpdate; refine update_event FE.out.hM Try.underlying92 Try.underlying3 rfl _ _ _ rfl (i := (i : Int)) rfl rfl rfl ?_; intro w6 hm6 hg6; have n0_ := Aside0.mk (FE.out.upd hm6 hg6); clear FE hq_0 hm_0 hm6 hg6; have FE := n0_; clear n0_))
                  go_roundg k1
                  case measure => omega
                  case rel => exact ⟨i + 1, list, _, val_succ2 i (by have := HI.out; have := HLEN.out; omega), ⟨by have := HI.out; omega⟩, ⟨HH.out⟩, FE⟩
                have s5 : (d1 == b1) = true := beq_iff_eq.mpr t5
                have s5b : decide (d1 = b1) = true := decide_eq_true t5
                clear t5
                have hh := HH2.out
                simp only [s5, Bool.and_true, if_true] at hh
                by_cases hll : list.length < 1000000
                case neg => rw [if_neg hll] at hh; exact absurd hh (by simp)
                rw [if_pos hll] at hh
                have HLL := Aside0.mk hll
                clear HH2 hll
                have HH := Aside0.mk hh
                clear hh
                go_wp2_with (first | (go_at_call 46; (refine (branch_town_cheapest.calls k g0 a0_0 _ c0_1 l0_1 (some mm) A1 c1 l1 _ (fun j => some (gone j || moreL (i : Int) T j)) d1 d2 _ _ (blk_below HP0.out FE.out.hB) (Kd.C_below HR0.out FE.out.hB) HC0.out (Kd.C_below HR1.out FE.out.hB) HC1.out (first3_fn FE.out.qB MB.out FE.out.hM HM2.out) HDT.out).mono ?_); rintro e w9 ⟨ve, rfl, ho, hb⟩; have n0_ := Aside0.mk (FE.out.below hb); have n1_ := Aside0.mk (blk_below MB.out hb); have n2_ := Aside0.mk (HM2.out.below hb); clear FE MB HM2 ho hb ht_0 hp_1 hp_2 hq_0 hm_0; have FE := n0_; have MB := n1_; have HM2 := n2_; clear n0_ n1_ n2_; have hq_0 : w9.cell? ⟨gq, 0, none⟩ = some (.map (some m)) := (blk_cell FE.out.qB 0).trans rfl; have hm_0 : w9.cell? ⟨g2, 0, none⟩ = some (.map (some m2)) := (blk_cell MB.out 0).trans rfl) | ((with_reducible refine gate_builtin (b := .append) (xs := #[.tmp 90, .tmp 92]) rfl ?_); at_builtin; refine Kd.R_append (Kd.int .i64) (w0 := w) w.heap.size rfl (.tmp 90) (.tmp 92) 28 3 (.int .i64 0) 8 rfl Try.underlying28 info3 rfl (by decide) (by omega) (.slice Al list.length cl) list (i : Int) [.int .i64 (i : Int)] (fun _ => True) (fun _ => False) rfl (by first | (go_simp; done) | (go_simp; rfl)) ?aP (fun _ hk => hk.elim) ?aF ?aO ?aB ?aS ?aL ?_; (case aP => exact rfl); (case aB => exact (by repeat (first | exact FE.out.hB | apply below_alloc | apply below_drew1))); (case aF => exact (fun _ _ => trivial)); (case aO => exact (by (with_reducible repeat (first | apply Kd.R_alloc | apply Kd.R_drewN | apply Kd.R_drew)); exact FE.out.hL)); (case aS => exact (below_size (by repeat (first | exact FE.out.hB | apply below_alloc | apply below_drew1)))); (case aL => have := HLL.out; omega); intro v2 w10 ho hb hg hat; have hg2 : w9.grownBy w10 (Value.slice Al list.length cl).ownBlock := (by first | exact hg | exact grown_then (below_alloc (Below.refl _ _) _) hg); have n1_ := Aside0.mk (blk_grown MB.out hg2 (Kd.R_ne FE.out.hL MB.out (by decide))); have n2_ := Aside0.mk (HM2.out.row FE.out.hL hg2); have n0_ := Aside0.mk (FE.out.app hb hg2 ho); clear FE MB HM2 ho hb hg hat hg2 hq_0 hm_0; have FE := n0_; have MB := n1_; have HM2 := n2_; clear n0_ n1_ n2_; have hq_0 : w10.cell? ⟨gq, 0, none⟩ = some (.map (some m)) := (blk_cell FE.out.qB 0).trans rfl; have hm_0 : w10.cell? ⟨g2, 0, none⟩ = some (.map (some m2)) := (blk_cell MB.out 0).trans rfl) | (at_range; refine range_event HM2.out Try.underlying92 rfl _ rfl rfl ?_; intro r w11 cnt hr hI hb; have n0_ := Aside0.mk (FE.out.below hb); have GR := Aside0.mk (Nat.le_trans FE.out.hB.size hr); have HI3 := Aside0.mk hI; clear FE MB HM2 hr hI hb hq_0 hm_0; have FE := n0_; clear n0_))
                obtain ⟨Tm, hTm⟩ : ∃ Tm, moreL (i : Int) T = Tm := ⟨_, rfl⟩
                rw [hTm] at HI3 HH
                clear hTm HDT
                go_frame
                go_loopg [21] cnt (fun kq v21 w' => ∃ dn gd : Int → Bool, Aside0 (∀ j, gd j = (gone j || dn j)) ∧ Aside0 (IterM w' m2 r Tm dn kq) ∧ Aside0 (FEnv w w' tb g0 gq m v2 (list ++ [(i : Int)]) gd))
                case atStart => exact ⟨fun _ => false, gone, ⟨fun j => by simp⟩, HI3, FE⟩
                case round =>
                  clear FE HI3
                  obtain ⟨dn, gd, HD, HI3, FE⟩ := hrel
                  go_wp2_with (first | (at_next; refine next_event HI3.out rfl _ rfl rfl ?_ ?_; rotate_left; (intro y w12 cnt1 hgx hdx hI2 hlt hg hen; have n0_ := Aside0.mk (FE.out.iter HI3.out GR.out hg); clear FE HI3; have FE := n0_; have HI3 := Aside0.mk hI2; have HLT := Aside0.mk hlt; clear n0_ hI2 hg hgx hdx hlt; have hq_0 : w12.cell? ⟨gq, 0, none⟩ = some (.map (some m)) := (blk_cell FE.out.qB 0).trans rfl); rotate_left; (intro h0 hd; have HDD := Aside0.mk hd; clear h0 hd)) | (at_mapUpdate; refine update_event FE.out.hM Try.underlying92 Try.underlying3 rfl _ _ _ rfl (i := y) rfl rfl rfl ?_; intro w13 hm13 hg13; have n0_ := Aside0.mk (FE.out.upd hm13 hg13); have n1_ := Aside0.mk (HI3.out.turn hg13 (fun h => NM.out h.symm) (HI3.out.ne_map FE.out.hM)); clear FE HI3 hq_0 hen hm13 hg13; have FE := n0_; have HI3 := n1_; clear n0_ n1_))
                  · go_roundg k1
                    case measure => omega
                    case rel => exact ⟨i + 1, list ++ [(i : Int)], gd, val_succ2 i (by have := HI.out; have := HLEN.out; omega), ⟨by have := HI.out; omega⟩, ⟨by have hh := HH.out; have e : (fun j => gone j || Tm j) = gd := funext (fun j => by rw [HD.out j, HDD.out j]); rw [← e]; exact hh⟩, FE⟩
                  · go_roundg cnt1
                    case measure => exact HLT.out
                    case rel => exact ⟨fun j => decide (j = y) || dn j, fun j => decide (j = y) || gd j, ⟨fun j => by simp only [HD.out j]; cases decide (j = y) <;> cases gone j <;> cases dn j <;> rfl⟩, HI3, FE⟩
            | succ k2 =>
              have hj0 : (0 : Int) ≤ (q : Int) := Int.natCast_nonneg _
              have hj1 : (q : Int) < (T.length : Int) := by have := HQ.out; omega
              have d4b : decide ((q : Int) < (T.length : Int)) = true := decide_eq_true hj1
              have hj2 : q < T.length := by omega
              have d4b2 : decide (q < T.length) = true := decide_eq_true hj2
              obtain ⟨ade, e, hy_0⟩ := Kd.at_int HRT.out (q : Int) hj0 hj1
              cases e
              have hts := take_rdI T q hj2
              obtain ⟨y, hy⟩ : ∃ y, rd T (q : Int) = y := ⟨_, rfl⟩
              rw [hy] at hy_0 hts
              simp only [Int.toNat_natCast] at hy_0
              replace hy_0 := drop_cell hy_0 FE.out.hB
              have HTS := Aside0.mk hts
              clear hy hts
              replace hj0 := eq_true hj0
              replace hj1 := eq_true hj1
              replace hj2 := eq_true hj2
              by_cases t6 : y = (i : Int)
              · have s6 : (y == (i : Int)) = true := beq_iff_eq.mpr t6
                have s6b : (y != (i : Int)) = false := bne_eq_false_iff_eq.mpr t6
                have s6c : decide (y = (i : Int)) = true := decide_eq_true t6
                have T6 := Aside0.mk t6
                clear t6
                go_wp2
                go_roundg k2
                case measure => omega
                case rel => exact ⟨q + 1, val_succ2 q (by have := HQ.out; have := HTL.out; have := HLEN.out; omega), ⟨by have := HQ.out; omega⟩, FE, TK, MB, ⟨by rw [HTS.out, T6.out, moreL_snoc_eq]; exact HM2.out⟩⟩
              · have s6 : (y == (i : Int)) = false := beq_eq_false_iff_ne.mpr t6
                have s6b : (y != (i : Int)) = true := bne_iff_ne.mpr t6
                have s6c : decide (y = (i : Int)) = false := decide_eq_false t6
                have T6 := Aside0.mk t6
                clear t6
                go_wp2_with (first | (at_mapUpdate; refine update_event HM2.out Try.underlying92 Try.underlying3 rfl _ _ _ rfl (i := y) rfl rfl rfl ?_; intro w6 hm6 hg6; have n0_ := Aside0.mk (FE.out.other HM2.out NM.out GM2.out hg6); have n1_ := Aside0.mk (blk_grown TK.out hg6 (by have := HM2.out.ne_cells TK.out; intro h; injection h with h; exact this h.symm)); have n2_ := Aside0.mk (blk_grown MB.out hg6 (by have := HM2.out.ne_cells MB.out; intro h; injection h with h; exact this h.symm)); clear FE TK MB HM2 ht_0 hp_1 hp_2 hq_0 hm_0 hy_0 hg6; have FE := n0_; have TK := n1_; have MB := n2_; have HM2 := Aside0.mk hm6; clear n0_ n1_ n2_ hm6))
                go_roundg k2
                case measure => omega
                case rel => exact ⟨q + 1, val_succ2 q (by have := HQ.out; have := HTL.out; have := HLEN.out; omega), ⟨by have := HQ.out; omega⟩, FE, TK, MB, ⟨by rw [HTS.out, moreL_snoc_ne _ _ _ T6.out]; exact HM2.out⟩⟩
end Go.Proofs.Ytpmadffgdfholaa.B
