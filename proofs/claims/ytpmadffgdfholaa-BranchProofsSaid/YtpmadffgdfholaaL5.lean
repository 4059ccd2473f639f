/- Texts behind the row of BranchProofs, part 5: contracts of the functions it reaches, words that their walks use, and lemmas in plain Lean. -/
import Derived.Below
import Derived.Deep.Draws
import Derived.Deep.AppendLies
import Derived.Maps.AppendAt
import Derived.OwnWalk
import Derived.Laws.BytesArg
import Derived.Laws.MakeOwn
import Derived.Laws.OwnMore
import Derived.Deep.OwnRows
import Derived.Tactics
import Derived.Lib.ConvBytes
import Derived.Laws.Slices
import Derived.WalkKit
import Derived.KernelRfl
import Derived.RowKit3
import Derived.Deep.LoopGhost
import Derived.Deep.QuietTactic
import Derived.BigQuiet
import Derived.WideLaws
import Derived.Deep.DeepCutAuto
import Derived.Deep.CutBlock
import Derived.Deep.RegionHeld3
import Derived.Laws.Rows
import Derived.Lib.AppendStr
import Derived.ArgAppend
import Derived.Laws.IdiomCopy
import Derived.RowKit
import Derived.OrdersHeld
import Derived.Laws.BitsLemmas
import Derived.Laws.StructEq
import Derived.Test.YtpmadffgdfholaaProg
import Derived.WalkSpells
import Derived.Laws.EntriesVeiled
import Derived.MapKept
import Derived.Deep.DrawnRows
import Derived.Maps.RangeWalk
import Derived.Deep.Slices
import Derived.Deep.Fields
import Derived.ChangeSame
import Derived.Test.YtpmadffgdfholaaL1
import Derived.Test.YtpmadffgdfholaaL2
import Derived.Test.YtpmadffgdfholaaL3
import Derived.Test.YtpmadffgdfholaaL4
namespace Go.Proofs.Ytpmadffgdfholaa.B
open Go.RowKit Go.Proofs.YtpmadffgdfholaaW.PrintWords Go.Proofs.YtpmadffgdfholaaW.PrintLast Go.Proofs.YtpmadffgdfholaaW.PrintMore
attribute [local go_sem] max2_int min2_int max_two min_two max_three min_three max_four min_four   -- for this text's walks alone
set_option linter.unusedVariables false
set_option linter.unusedSimpArgs false
attribute [local go_sem high] eqA41
mutual
def trishawlaw03_BranchProofs.j0 : Nat → Int → List (S30) → Bool → Option (Bool)
  | 0, _, _, _ => none
  | k + 1, x0, x1, x24 => if x24 = true then ((trishawlaw03_alive.f k).bind fun t103 => (some t103)) else ((branch_Proof.f k x0 x1).bind fun bt104 => ((branch_Proof.f k x0 x1).bind fun bt108 => ((trishawref03_Branching.f k x0 x1).bind fun bt112 => (if bt104.2 = bt108.2 then (if bt104.2 = bt112.2.2 then (trishawlaw03_BranchProofs.j1 k x0 x1 bt104.1 bt104.2 bt108.1 bt112.2.1 ((bt104.1.length : Int) != (bt108.1.length : Int))) else (trishawlaw03_BranchProofs.j1 k x0 x1 bt104.1 bt104.2 bt108.1 bt112.2.1 true)) else (trishawlaw03_BranchProofs.j1 k x0 x1 bt104.1 bt104.2 bt108.1 bt112.2.1 true)))))
def trishawlaw03_BranchProofs.j1 : Nat → Int → List (S30) → List (S41) → Int → List (S41) → Int → Bool → Option (Bool)
  | 0, _, _, _, _, _, _, _ => none
  | k + 1, x0, x1, x5, x6, x7, x10, x59 => if x59 = true then (some false) else (trishawlaw03_BranchProofs.l0 k x0 x1 x5 x6 x7 x10 0)
def trishawlaw03_BranchProofs.l0 : Nat → Int → List (S30) → List (S41) → Int → List (S41) → Int → Int → Option (Bool)
  | 0, _, _, _, _, _, _, _ => none
  | k + 1, x0, x1, x5, x6, x7, x10, x12 => if x12 < (x5.length : Int) then (if 0 ≤ x12 then (if x12 < (x7.length : Int) then (if (!(((rd_T41 x5 x12).f0) == ((rd_T41 x7 x12).f0)) || (!(((rd_T41 x5 x12).f1) == ((rd_T41 x7 x12).f1)))) = true then (some false) else (trishawlaw03_BranchProofs.l0 k x0 x1 x5 x6 x7 x10 (wrap64 (x12 + 1)))) else (none)) else (none)) else (if x6 = 0 then ((trishawref03_Proves.f k x0 x1 x5).bind fun bt119 => (if bt119.2.1 = true then (if bt119.1 = x10 then ((trishawlaw03_alive.f k).bind fun t122 => (some t122)) else (some false)) else (some false))) else (if (x5.length : Int) = 0 then ((trishawlaw03_alive.f k).bind fun t123 => (some t123)) else (some false)))
end
def trishawlaw03_BranchProofs.f (k : Nat) (a0 : Int) (l1 : List (S30)) : Option (Bool) := (trishawlaw03_few.f l1 ([] : List Int)).bind fun t101 => (if t101 = true then ((trishawlaw03_light.f k a0 l1).bind fun t102 => (trishawlaw03_BranchProofs.j0 k a0 l1 (!t102))) else (trishawlaw03_BranchProofs.j0 k a0 l1 true))
set_option maxHeartbeats 8000000 in
set_option maxRecDepth 100000 in
theorem trishawlaw03_BranchProofs.calls (k : Nat) (a0 : Int) (A1 : Option Addr) (c1 : Nat) (l1 : List (S30)) (r : Bool) (w : World) (hr1 : Kd.C k30 w A1 l1.length l1) (hc1 : l1.length ≤ c1) (h : trishawlaw03_BranchProofs.f k a0 l1 = some r) :
    Calls Try.prog 4 #[.int .i64 a0, .slice A1 l1.length c1] w fun e w' => e = .returned (.bool r) ∧ Below w.heap.size w w' := by
  have hu41 := Try.underlying41
  have HR1 := Aside0.mk hr1
  have HC1 := Aside0.mk hc1
  clear hr1 hc1
  have HB := Aside0.mk (Below.refl w.heap.size w)
  have H : ((trishawlaw03_few.f l1 ([] : List Int)).bind fun t101 => (if t101 = true then ((trishawlaw03_light.f k a0 l1).bind fun t102 => (trishawlaw03_BranchProofs.j0 k a0 l1 (!t102))) else (trishawlaw03_BranchProofs.j0 k a0 l1 true))) = some r := h
  clear h
  have HC3 := Aside0.mk H
  clear H
  go_enter Try.func4, Try.ntmps4
  go_upto_region 1 with (fail)
  repeat (go_quiet (fail); go_upto_region 1 with (fail))
  go_cut [24] (fun v24 wc => ∃ (kq : Nat) (x24_2 : Bool), v24 = .bool x24_2 ∧ Aside0 (trishawlaw03_BranchProofs.j0 kq a0 l1 x24_2 = some r) ∧ Aside0 (kq ≤ k) ∧ Aside0 (Below w.heap.size w wc))
  case first =>
    have H := HC3.out
    clear HC3
    replace H := Option.bind_eq_some_iff.mp H
    obtain ⟨t101, A40, H⟩ := H
    replace H : (if t101 = true then ((trishawlaw03_light.f k a0 l1).bind fun t102 => (trishawlaw03_BranchProofs.j0 k a0 l1 (!t102))) else (trishawlaw03_BranchProofs.j0 k a0 l1 true)) = some r := H
    have A4 := Aside0.mk A40
    clear A40
    by_cases c5 : t101 = true
    · subst c5
      have H1 : ((trishawlaw03_light.f k a0 l1).bind fun t102 => (trishawlaw03_BranchProofs.j0 k a0 l1 (!t102))) = some r := by rw [if_pos rfl] at H; exact H
      clear H
      have H := H1
      clear H1
      replace H := Option.bind_eq_some_iff.mp H
      obtain ⟨t102, A60, H⟩ := H
      replace H : (trishawlaw03_BranchProofs.j0 k a0 l1 (!t102)) = some r := H
      have A6 := Aside0.mk A60
      clear A60
      have H' := Aside0.mk H
      clear H
      go_wp2_with (first | (go_at_call 15; (refine (trishawlaw03_few.calls _ _ l1 _ _ ([] : List Int) true _ ?side1 ?side2 ?side3 ?side4 A4.out).mono ?_); (case side1 => repeat (first | exact (Kd.C_below HR1.out HB.out) | (with_reducible refine Kd.C_alloc ?_ _) | (with_reducible refine Kd.C_drewN ?_ _) | (with_reducible refine Kd.C_drew ?_))); (case side2 => exact HC1.out); (case side3 => exact Kd.C_nil _ _); (case side4 => exact Nat.le_refl _); rintro e w' ⟨rfl, ⟨nd, rfl⟩⟩; (try first | exact ⟨rfl, _, World.drewN_drewN _ _ _⟩ | exact ⟨rfl, _, Eq.trans (World.drewN_drewN _ _ _) (congrArg (World.drewN _) (Nat.add_assoc _ _ _))⟩)) | (go_at_call 20; (with_reducible refine (trishawlaw03_light.calls k a0 _ _ l1 t102 _ ?side1 ?side2 A6.out).mono ?_); (case side1 => repeat (first | exact (Kd.C_below HR1.out (by repeat (first | (with_reducible first | exact HB.out | apply below_alloc | apply pw_below_drewN | apply below_drew1) | exact HB.out))) | (with_reducible refine Kd.C_alloc ?_ _) | (with_reducible refine Kd.C_drewN ?_ _) | (with_reducible refine Kd.C_drew ?_))); (case side2 => exact HC1.out); rintro e w7 ⟨rfl, hb⟩; have n0_ := Aside0.mk (below_step (by repeat (first | (with_reducible first | exact HB.out | apply below_alloc | apply pw_below_drewN | apply below_drew1) | exact HB.out)) hb); clear HB; have HB := n0_; clear n0_; (try clear hb); (try clear hb2); (try clear hk); (try clear hi)))
      repeat (go_quiet (first | (go_at_call 15; (refine (trishawlaw03_few.calls _ _ l1 _ _ ([] : List Int) true _ ?side1 ?side2 ?side3 ?side4 A4.out).mono ?_); (case side1 => repeat (first | exact (Kd.C_below HR1.out HB.out) | (with_reducible refine Kd.C_alloc ?_ _) | (with_reducible refine Kd.C_drewN ?_ _) | (with_reducible refine Kd.C_drew ?_))); (case side2 => exact HC1.out); (case side3 => exact Kd.C_nil _ _); (case side4 => exact Nat.le_refl _); rintro e w' ⟨rfl, ⟨nd, rfl⟩⟩; (try first | exact ⟨rfl, _, World.drewN_drewN _ _ _⟩ | exact ⟨rfl, _, Eq.trans (World.drewN_drewN _ _ _) (congrArg (World.drewN _) (Nat.add_assoc _ _ _))⟩)) | (go_at_call 20; (with_reducible refine (trishawlaw03_light.calls k a0 _ _ l1 t102 _ ?side1 ?side2 A6.out).mono ?_); (case side1 => repeat (first | exact (Kd.C_below HR1.out (by repeat (first | (with_reducible first | exact HB.out | apply below_alloc | apply pw_below_drewN | apply below_drew1) | exact HB.out))) | (with_reducible refine Kd.C_alloc ?_ _) | (with_reducible refine Kd.C_drewN ?_ _) | (with_reducible refine Kd.C_drew ?_))); (case side2 => exact HC1.out); rintro e w7 ⟨rfl, hb⟩; have n0_ := Aside0.mk (below_step (by repeat (first | (with_reducible first | exact HB.out | apply below_alloc | apply pw_below_drewN | apply below_drew1) | exact HB.out)) hb); clear HB; have HB := n0_; clear n0_; (try clear hb); (try clear hb2); (try clear hk); (try clear hi))); try go_wp2_with (first | (go_at_call 15; (refine (trishawlaw03_few.calls _ _ l1 _ _ ([] : List Int) true _ ?side1 ?side2 ?side3 ?side4 A4.out).mono ?_); (case side1 => repeat (first | exact (Kd.C_below HR1.out HB.out) | (with_reducible refine Kd.C_alloc ?_ _) | (with_reducible refine Kd.C_drewN ?_ _) | (with_reducible refine Kd.C_drew ?_))); (case side2 => exact HC1.out); (case side3 => exact Kd.C_nil _ _); (case side4 => exact Nat.le_refl _); rintro e w' ⟨rfl, ⟨nd, rfl⟩⟩; (try first | exact ⟨rfl, _, World.drewN_drewN _ _ _⟩ | exact ⟨rfl, _, Eq.trans (World.drewN_drewN _ _ _) (congrArg (World.drewN _) (Nat.add_assoc _ _ _))⟩)) | (go_at_call 20; (with_reducible refine (trishawlaw03_light.calls k a0 _ _ l1 t102 _ ?side1 ?side2 A6.out).mono ?_); (case side1 => repeat (first | exact (Kd.C_below HR1.out (by repeat (first | (with_reducible first | exact HB.out | apply below_alloc | apply pw_below_drewN | apply below_drew1) | exact HB.out))) | (with_reducible refine Kd.C_alloc ?_ _) | (with_reducible refine Kd.C_drewN ?_ _) | (with_reducible refine Kd.C_drew ?_))); (case side2 => exact HC1.out); rintro e w7 ⟨rfl, hb⟩; have n0_ := Aside0.mk (below_step (by repeat (first | (with_reducible first | exact HB.out | apply below_alloc | apply pw_below_drewN | apply below_drew1) | exact HB.out)) hb); clear HB; have HB := n0_; clear n0_; (try clear hb); (try clear hb2); (try clear hk); (try clear hi))))
      go_meet
      case rel => exact ⟨_, (!t102), (by first | rfl | (simp; done) | (simp [*]; done)), H', ⟨by first | omega | exact Nat.le_refl _⟩, ⟨by repeat (first | (with_reducible first | exact HB.out | apply below_alloc | apply pw_below_drewN | apply below_drew1) | exact HB.out)⟩⟩
    · replace c5 := Bool.eq_false_iff.mpr c5
      subst c5
      have H1 : (trishawlaw03_BranchProofs.j0 k a0 l1 true) = some r := by rw [if_neg (show ¬ (false = true) by decide)] at H; exact H
      clear H
      have H := H1
      clear H1
      have H' := Aside0.mk H
      clear H
      go_wp2_with (first | (go_at_call 15; (refine (trishawlaw03_few.calls _ _ l1 _ _ ([] : List Int) false _ ?side1 ?side2 ?side3 ?side4 A4.out).mono ?_); (case side1 => repeat (first | exact (Kd.C_below HR1.out HB.out) | (with_reducible refine Kd.C_alloc ?_ _) | (with_reducible refine Kd.C_drewN ?_ _) | (with_reducible refine Kd.C_drew ?_))); (case side2 => exact HC1.out); (case side3 => exact Kd.C_nil _ _); (case side4 => exact Nat.le_refl _); rintro e w' ⟨rfl, ⟨nd, rfl⟩⟩; (try first | exact ⟨rfl, _, World.drewN_drewN _ _ _⟩ | exact ⟨rfl, _, Eq.trans (World.drewN_drewN _ _ _) (congrArg (World.drewN _) (Nat.add_assoc _ _ _))⟩)))
      repeat (go_quiet (first | (go_at_call 15; (refine (trishawlaw03_few.calls _ _ l1 _ _ ([] : List Int) false _ ?side1 ?side2 ?side3 ?side4 A4.out).mono ?_); (case side1 => repeat (first | exact (Kd.C_below HR1.out HB.out) | (with_reducible refine Kd.C_alloc ?_ _) | (with_reducible refine Kd.C_drewN ?_ _) | (with_reducible refine Kd.C_drew ?_))); (case side2 => exact HC1.out); (case side3 => exact Kd.C_nil _ _); (case side4 => exact Nat.le_refl _); rintro e w' ⟨rfl, ⟨nd, rfl⟩⟩; (try first | exact ⟨rfl, _, World.drewN_drewN _ _ _⟩ | exact ⟨rfl, _, Eq.trans (World.drewN_drewN _ _ _) (congrArg (World.drewN _) (Nat.add_assoc _ _ _))⟩))); try go_wp2_with (first | (go_at_call 15; (refine (trishawlaw03_few.calls _ _ l1 _ _ ([] : List Int) false _ ?side1 ?side2 ?side3 ?side4 A4.out).mono ?_); (case side1 => repeat (first | exact (Kd.C_below HR1.out HB.out) | (with_reducible refine Kd.C_alloc ?_ _) | (with_reducible refine Kd.C_drewN ?_ _) | (with_reducible refine Kd.C_drew ?_))); (case side2 => exact HC1.out); (case side3 => exact Kd.C_nil _ _); (case side4 => exact Nat.le_refl _); rintro e w' ⟨rfl, ⟨nd, rfl⟩⟩; (try first | exact ⟨rfl, _, World.drewN_drewN _ _ _⟩ | exact ⟨rfl, _, Eq.trans (World.drewN_drewN _ _ _) (congrArg (World.drewN _) (Nat.add_assoc _ _ _))⟩))))
      go_meet
      case rel => exact ⟨_, (true), (by first | rfl | (simp; done) | (simp [*]; done)), H', ⟨by first | omega | exact Nat.le_refl _⟩, ⟨by repeat (first | (with_reducible first | exact HB.out | apply below_alloc | apply pw_below_drewN | apply below_drew1) | exact HB.out)⟩⟩
  case rest =>
    clear HC3
    try clear c1
    try clear p2
    try clear c4
    try clear c5
    obtain ⟨kq, x24_2, rfl, HA, HJ2, HB⟩ := hcut
    cases kq with
    | zero => exact absurd HA.out (by simp [trishawlaw03_BranchProofs.j0])
    | succ kj2 =>
      have H := HA.out
      clear HA
      simp only [trishawlaw03_BranchProofs.j0] at H
      by_cases c8 : x24_2 = true
      · subst c8
        have H1 : ((trishawlaw03_alive.f kj2).bind fun t103 => (some t103)) = some r := by rw [if_pos rfl] at H; exact H
        clear H
        have H := H1
        clear H1
        replace H := Option.bind_eq_some_iff.mp H
        obtain ⟨t103, A90, H⟩ := H
        replace H : (some t103) = some r := H
        have A9 := Aside0.mk A90
        clear A90
        obtain rfl := Option.some.inj H
        go_wp2_with (first | (go_at_call 17; (with_reducible refine (trishawlaw03_alive.calls kj2  t103 _ A9.out).mono ?_); rintro e w10 ⟨rfl, hb⟩; have n0_ := Aside0.mk (below_step (by repeat (first | (with_reducible first | exact HB.out | apply below_alloc | apply pw_below_drewN | apply below_drew1) | exact HB.out)) hb); clear HB; have HB := n0_; clear n0_; (try clear hb); (try clear hb2); (try clear hk); (try clear hi)))
        repeat (go_quiet (first | (go_at_call 17; (with_reducible refine (trishawlaw03_alive.calls kj2  t103 _ A9.out).mono ?_); rintro e w10 ⟨rfl, hb⟩; have n0_ := Aside0.mk (below_step (by repeat (first | (with_reducible first | exact HB.out | apply below_alloc | apply pw_below_drewN | apply below_drew1) | exact HB.out)) hb); clear HB; have HB := n0_; clear n0_; (try clear hb); (try clear hb2); (try clear hk); (try clear hi))); try go_wp2_with (first | (go_at_call 17; (with_reducible refine (trishawlaw03_alive.calls kj2  t103 _ A9.out).mono ?_); rintro e w10 ⟨rfl, hb⟩; have n0_ := Aside0.mk (below_step (by repeat (first | (with_reducible first | exact HB.out | apply below_alloc | apply pw_below_drewN | apply below_drew1) | exact HB.out)) hb); clear HB; have HB := n0_; clear n0_; (try clear hb); (try clear hb2); (try clear hk); (try clear hi))))
        go_ret
        exact ⟨by first | rfl | (simp [errW_none, errW_some] <;> rfl) | (simp [*, errW_none, errW_some] <;> rfl), by repeat (first | (with_reducible first | exact HB.out | apply below_alloc | apply pw_below_drewN | apply below_drew1) | exact HB.out)⟩
      · replace c8 := Bool.eq_false_iff.mpr c8
        subst c8
        have H1 : ((branch_Proof.f kj2 a0 l1).bind fun bt104 => ((branch_Proof.f kj2 a0 l1).bind fun bt108 => ((trishawref03_Branching.f kj2 a0 l1).bind fun bt112 => (if bt104.2 = bt108.2 then (if bt104.2 = bt112.2.2 then (trishawlaw03_BranchProofs.j1 kj2 a0 l1 bt104.1 bt104.2 bt108.1 bt112.2.1 ((bt104.1.length : Int) != (bt108.1.length : Int))) else (trishawlaw03_BranchProofs.j1 kj2 a0 l1 bt104.1 bt104.2 bt108.1 bt112.2.1 true)) else (trishawlaw03_BranchProofs.j1 kj2 a0 l1 bt104.1 bt104.2 bt108.1 bt112.2.1 true))))) = some r := by rw [if_neg (show ¬ (false = true) by decide)] at H; exact H
        clear H
        have H := H1
        clear H1
        replace H := Option.bind_eq_some_iff.mp H
        obtain ⟨⟨t104, t105⟩, A110, H⟩ := H
        replace H : ((branch_Proof.f kj2 a0 l1).bind fun bt108 => ((trishawref03_Branching.f kj2 a0 l1).bind fun bt112 => (if t105 = bt108.2 then (if t105 = bt112.2.2 then (trishawlaw03_BranchProofs.j1 kj2 a0 l1 t104 t105 bt108.1 bt112.2.1 ((t104.length : Int) != (bt108.1.length : Int))) else (trishawlaw03_BranchProofs.j1 kj2 a0 l1 t104 t105 bt108.1 bt112.2.1 true)) else (trishawlaw03_BranchProofs.j1 kj2 a0 l1 t104 t105 bt108.1 bt112.2.1 true)))) = some r := H
        have A11 := Aside0.mk A110
        clear A110
        replace H := Option.bind_eq_some_iff.mp H
        obtain ⟨⟨t108, t109⟩, A120, H⟩ := H
        replace H : ((trishawref03_Branching.f kj2 a0 l1).bind fun bt112 => (if t105 = t109 then (if t105 = bt112.2.2 then (trishawlaw03_BranchProofs.j1 kj2 a0 l1 t104 t105 t108 bt112.2.1 ((t104.length : Int) != (t108.length : Int))) else (trishawlaw03_BranchProofs.j1 kj2 a0 l1 t104 t105 t108 bt112.2.1 true)) else (trishawlaw03_BranchProofs.j1 kj2 a0 l1 t104 t105 t108 bt112.2.1 true))) = some r := H
        have A12 := Aside0.mk A120
        clear A120
        replace H := Option.bind_eq_some_iff.mp H
        obtain ⟨⟨t112, t113, t114⟩, A130, H⟩ := H
        replace H : (if t105 = t109 then (if t105 = t114 then (trishawlaw03_BranchProofs.j1 kj2 a0 l1 t104 t105 t108 t113 ((t104.length : Int) != (t108.length : Int))) else (trishawlaw03_BranchProofs.j1 kj2 a0 l1 t104 t105 t108 t113 true)) else (trishawlaw03_BranchProofs.j1 kj2 a0 l1 t104 t105 t108 t113 true)) = some r := H
        have A13 := Aside0.mk A130
        clear A130
        have HC14 := Aside0.mk H
        clear H
        go_upto_region 6 with (first | (go_at_call 21; (with_reducible refine (branch_Proof.calls kj2 a0 _ _ l1 t104 t105 _ ?side1 ?side2 A11.out).mono ?_); (case side1 => repeat (first | exact (Kd.C_below HR1.out HB.out) | (with_reducible refine Kd.C_alloc ?_ _) | (with_reducible refine Kd.C_drewN ?_ _) | (with_reducible refine Kd.C_drew ?_))); (case side2 => exact HC1.out); rintro e w15 ⟨v106, rfl, ho0, hb⟩; have n0_ := Aside0.mk (Kd.R_lower ho0 (below_size (by repeat (first | (with_reducible first | exact HB.out | apply below_alloc | apply pw_below_drewN | apply below_drew1) | exact HB.out)))); have n1_ := Aside0.mk (below_step (by repeat (first | (with_reducible first | exact HB.out | apply below_alloc | apply pw_below_drewN | apply below_drew1) | exact HB.out)) hb); clear HB; have HO107 := n0_; have HB := n1_; clear n0_ n1_; (try clear hb); (try clear hb2); (try clear hk); (try clear hi); (try clear ho0); clear A11) | (go_at_call 21; (with_reducible refine (branch_Proof.calls kj2 a0 _ _ l1 t108 t109 _ ?side1 ?side2 A12.out).mono ?_); (case side1 => repeat (first | exact (Kd.C_below HR1.out HB.out) | (with_reducible refine Kd.C_alloc ?_ _) | (with_reducible refine Kd.C_drewN ?_ _) | (with_reducible refine Kd.C_drew ?_))); (case side2 => exact HC1.out); rintro e w16 ⟨v110, rfl, ho0, hb⟩; have n0_ := Aside0.mk (Kd.R_elder' (by (with_reducible repeat (first | apply Kd.R_alloc | apply Kd.R_drewN | apply Kd.R_drew)); exact HO107.out) (Kd.R_base ho0) hb); have n1_ := Aside0.mk (Kd.R_lower (Kd.R_new' ho0 (Kd.R_lt (by (with_reducible repeat (first | apply Kd.R_alloc | apply Kd.R_drewN | apply Kd.R_drew)); exact HO107.out))) (below_size (by repeat (first | (with_reducible first | exact HB.out | apply below_alloc | apply pw_below_drewN | apply below_drew1) | exact HB.out)))); have n2_ := Aside0.mk (below_step (by repeat (first | (with_reducible first | exact HB.out | apply below_alloc | apply pw_below_drewN | apply below_drew1) | exact HB.out)) hb); clear HO107; clear HB; have HO107 := n0_; have HO111 := n1_; have HB := n2_; clear n0_ n1_ n2_; (try clear hb); (try clear hb2); (try clear hk); (try clear hi); (try clear ho0)) | (go_at_call 22; (with_reducible refine (trishawref03_Branching.calls kj2 a0 _ _ l1 t112 t113 t114 _ ?side1 ?side2 A13.out).mono ?_); (case side1 => repeat (first | exact (Kd.C_below HR1.out HB.out) | (with_reducible refine Kd.C_alloc ?_ _) | (with_reducible refine Kd.C_drewN ?_ _) | (with_reducible refine Kd.C_drew ?_))); (case side2 => exact HC1.out); rintro e w17 ⟨v115, rfl, ho0, hb⟩; have n0_ := Aside0.mk (Kd.R_below (by (with_reducible repeat (first | apply Kd.R_alloc | apply Kd.R_drewN | apply Kd.R_drew)); exact HO107.out) hb); have n1_ := Aside0.mk (Kd.R_below (by (with_reducible repeat (first | apply Kd.R_alloc | apply Kd.R_drewN | apply Kd.R_drew)); exact HO111.out) hb); have n2_ := Aside0.mk (Kd.R_lower ho0 (below_size (by repeat (first | (with_reducible first | exact HB.out | apply below_alloc | apply pw_below_drewN | apply below_drew1) | exact HB.out)))); have n3_ := Aside0.mk (below_step (by repeat (first | (with_reducible first | exact HB.out | apply below_alloc | apply pw_below_drewN | apply below_drew1) | exact HB.out)) hb); clear HO107; clear HO111; clear HB; have HO107 := n0_; have HO111 := n1_; have HO116 := n2_; have HB := n3_; clear n0_ n1_ n2_ n3_; (try clear hb); (try clear hb2); (try clear hk); (try clear hi); (try clear ho0)))
        repeat (go_quiet (first | (go_at_call 21; (with_reducible refine (branch_Proof.calls kj2 a0 _ _ l1 t104 t105 _ ?side1 ?side2 A11.out).mono ?_); (case side1 => repeat (first | exact (Kd.C_below HR1.out HB.out) | (with_reducible refine Kd.C_alloc ?_ _) | (with_reducible refine Kd.C_drewN ?_ _) | (with_reducible refine Kd.C_drew ?_))); (case side2 => exact HC1.out); rintro e w15 ⟨v106, rfl, ho0, hb⟩; have n0_ := Aside0.mk (Kd.R_lower ho0 (below_size (by repeat (first | (with_reducible first | exact HB.out | apply below_alloc | apply pw_below_drewN | apply below_drew1) | exact HB.out)))); have n1_ := Aside0.mk (below_step (by repeat (first | (with_reducible first | exact HB.out | apply below_alloc | apply pw_below_drewN | apply below_drew1) | exact HB.out)) hb); clear HB; have HO107 := n0_; have HB := n1_; clear n0_ n1_; (try clear hb); (try clear hb2); (try clear hk); (try clear hi); (try clear ho0); clear A11) | (go_at_call 21; (with_reducible refine (branch_Proof.calls kj2 a0 _ _ l1 t108 t109 _ ?side1 ?side2 A12.out).mono ?_); (case side1 => repeat (first | exact (Kd.C_below HR1.out HB.out) | (with_reducible refine Kd.C_alloc ?_ _) | (with_reducible refine Kd.C_drewN ?_ _) | (with_reducible refine Kd.C_drew ?_))); (case side2 => exact HC1.out); rintro e w16 ⟨v110, rfl, ho0, hb⟩; have n0_ := Aside0.mk (Kd.R_elder' (by (with_reducible repeat (first | apply Kd.R_alloc | apply Kd.R_drewN | apply Kd.R_drew)); exact HO107.out) (Kd.R_base ho0) hb); have n1_ := Aside0.mk (Kd.R_lower (Kd.R_new' ho0 (Kd.R_lt (by (with_reducible repeat (first | apply Kd.R_alloc | apply Kd.R_drewN | apply Kd.R_drew)); exact HO107.out))) (below_size (by repeat (first | (with_reducible first | exact HB.out | apply below_alloc | apply pw_below_drewN | apply below_drew1) | exact HB.out)))); have n2_ := Aside0.mk (below_step (by repeat (first | (with_reducible first | exact HB.out | apply below_alloc | apply pw_below_drewN | apply below_drew1) | exact HB.out)) hb); clear HO107; clear HB; have HO107 := n0_; have HO111 := n1_; have HB := n2_; clear n0_ n1_ n2_; (try clear hb); (try clear hb2); (try clear hk); (try clear hi); (try clear ho0)) | (go_at_call 22; (with_reducible refine (trishawref03_Branching.calls kj2 a0 _ _ l1 t112 t113 t114 _ ?side1 ?side2 A13.out).mono ?_); (case side1 => repeat (first | exact (Kd.C_below HR1.out HB.out) | (with_reducible refine Kd.C_alloc ?_ _) | (with_reducible refine Kd.C_drewN ?_ _) | (with_reducible refine Kd.C_drew ?_))); (case side2 => exact HC1.out); rintro e w17 ⟨v115, rfl, ho0, hb⟩; have n0_ := Aside0.mk (Kd.R_below (by (with_reducible repeat (first | apply Kd.R_alloc | apply Kd.R_drewN | apply Kd.R_drew)); exact HO107.out) hb); have n1_ := Aside0.mk (Kd.R_below (by (with_reducible repeat (first | apply Kd.R_alloc | apply Kd.R_drewN | apply Kd.R_drew)); exact HO111.out) hb); have n2_ := Aside0.mk (Kd.R_lower ho0 (below_size (by repeat (first | (with_reducible first | exact HB.out | apply below_alloc | apply pw_below_drewN | apply below_drew1) | exact HB.out)))); have n3_ := Aside0.mk (below_step (by repeat (first | (with_reducible first | exact HB.out | apply below_alloc | apply pw_below_drewN | apply below_drew1) | exact HB.out)) hb); clear HO107; clear HO111; clear HB; have HO107 := n0_; have HO111 := n1_; have HO116 := n2_; have HB := n3_; clear n0_ n1_ n2_ n3_; (try clear hb); (try clear hb2); (try clear hk); (try clear hi); (try clear ho0))); go_upto_region 6 with (first | (go_at_call 21; (with_reducible refine (branch_Proof.calls kj2 a0 _ _ l1 t104 t105 _ ?side1 ?side2 A11.out).mono ?_); (case side1 => repeat (first | exact (Kd.C_below HR1.out HB.out) | (with_reducible refine Kd.C_alloc ?_ _) | (with_reducible refine Kd.C_drewN ?_ _) | (with_reducible refine Kd.C_drew ?_))); (case side2 => exact HC1.out); rintro e w15 ⟨v106, rfl, ho0, hb⟩; have n0_ := Aside0.mk (Kd.R_lower ho0 (below_size (by repeat (first | (with_reducible first | exact HB.out | apply below_alloc | apply pw_below_drewN | apply below_drew1) | exact HB.out)))); have n1_ := Aside0.mk (below_step (by repeat (first | (with_reducible first | exact HB.out | apply below_alloc | apply pw_below_drewN | apply below_drew1) | exact HB.out)) hb); clear HB; have HO107 := n0_; have HB := n1_; clear n0_ n1_; (try clear hb); (try clear hb2); (try clear hk); (try clear hi); (try clear ho0); clear A11) | (go_at_call 21; (with_reducible refine (branch_Proof.calls kj2 a0 _ _ l1 t108 t109 _ ?side1 ?side2 A12.out).mono ?_); (case side1 => repeat (first | exact (Kd.C_below HR1.out HB.out) | (with_reducible refine Kd.C_alloc ?_ _) | (with_reducible refine Kd.C_drewN ?_ _) | (with_reducible refine Kd.C_drew ?_))); (case side2 => exact HC1.out); rintro e w16 ⟨v110, rfl, ho0, hb⟩; have n0_ := Aside0.mk (Kd.R_elder' (by (with_reducible repeat (first | apply Kd.R_alloc | apply Kd.R_drewN | apply Kd.R_drew)); exact HO107.out) (Kd.R_base ho0) hb); have n1_ := Aside0.mk (Kd.R_lower (Kd.R_new' ho0 (Kd.R_lt (by (with_reducible repeat (first | apply Kd.R_alloc | apply Kd.R_drewN | apply Kd.R_drew)); exact HO107.out))) (below_size (by repeat (first | (with_reducible first | exact HB.out | apply below_alloc | apply pw_below_drewN | apply below_drew1) | exact HB.out)))); have n2_ := Aside0.mk (below_step (by repeat (first | (with_reducible first | exact HB.out | apply below_alloc | apply pw_below_drewN | apply below_drew1) | exact HB.out)) hb); clear HO107; clear HB; have HO107 := n0_; have HO111 := n1_; have HB := n2_; clear n0_ n1_ n2_; (try clear hb); (try clear hb2); (try clear hk); (try clear hi); (try clear ho0)) | (go_at_call 22; (with_reducible refine (trishawref03_Branching.calls kj2 a0 _ _ l1 t112 t113 t114 _ ?side1 ?side2 A13.out).mono ?_); (case side1 => repeat (first | exact (Kd.C_below HR1.out HB.out) | (with_reducible refine Kd.C_alloc ?_ _) | (with_reducible refine Kd.C_drewN ?_ _) | (with_reducible refine Kd.C_drew ?_))); (case side2 => exact HC1.out); rintro e w17 ⟨v115, rfl, ho0, hb⟩; have n0_ := Aside0.mk (Kd.R_below (by (with_reducible repeat (first | apply Kd.R_alloc | apply Kd.R_drewN | apply Kd.R_drew)); exact HO107.out) hb); have n1_ := Aside0.mk (Kd.R_below (by (with_reducible repeat (first | apply Kd.R_alloc | apply Kd.R_drewN | apply Kd.R_drew)); exact HO111.out) hb); have n2_ := Aside0.mk (Kd.R_lower ho0 (below_size (by repeat (first | (with_reducible first | exact HB.out | apply below_alloc | apply pw_below_drewN | apply below_drew1) | exact HB.out)))); have n3_ := Aside0.mk (below_step (by repeat (first | (with_reducible first | exact HB.out | apply below_alloc | apply pw_below_drewN | apply below_drew1) | exact HB.out)) hb); clear HO107; clear HO111; clear HB; have HO107 := n0_; have HO111 := n1_; have HO116 := n2_; have HB := n3_; clear n0_ n1_ n2_ n3_; (try clear hb); (try clear hb2); (try clear hk); (try clear hi); (try clear ho0))))
        (try simp only [Act.put, List.setIfInBounds_toArray, List.set_cons_zero, List.set_cons_succ])
        go_cut [59] (fun v59 wc => ∃ (kq : Nat) (x59_13 : Bool), v59 = .bool x59_13 ∧ Aside0 (trishawlaw03_BranchProofs.j1 kq a0 l1 t104 t105 t108 t113 x59_13 = some r) ∧ Aside0 (kq ≤ kj2) ∧ Aside0 (Kd.R k41 41 wc w.heap.size (fun k_ => some k_ ≠ (v110 : Value).ownBlock) v106 t104) ∧ Aside0 (Kd.R k41 41 wc w.heap.size (fun k_ => some k_ ≠ (v106 : Value).ownBlock) v110 t108) ∧ Aside0 (Below w.heap.size w wc))
        case first =>
          have H := HC14.out
          clear HC14
          by_cases c18 : t105 = t109
          · rw [if_pos c18] at H
            have c18b0 : (t105 == t109) = true := beq_iff_eq.mpr c18
            have c18b1 : (t105 != t109) = false := bne_eq_false_iff_eq.mpr c18
            clear c18
            (first | rw [c18b0] | (simp only [i64_w, i32_w]; rw [c18b0]) | skip)
            by_cases c19 : t105 = t114
            · rw [if_pos c19] at H
              have c19b0 : (t105 == t114) = true := beq_iff_eq.mpr c19
              have c19b1 : (t105 != t114) = false := bne_eq_false_iff_eq.mpr c19
              clear c19
              have H' := Aside0.mk H
              clear H
              obtain ⟨Ao20, co20, eo20⟩ := Kd.R_slice HO107.out
              subst eo20
              obtain ⟨Ao21, co21, eo21⟩ := Kd.R_slice HO111.out
              subst eo21
              go_wp2
              repeat (go_quiet (fail); try go_wp2)
              go_meet
              case rel => exact ⟨_, (((t104.length : Int) != (t108.length : Int))), (by first | rfl | (simp; done) | (simp [*]; done)), H', ⟨by have := HJ2.out; first | omega | exact Nat.le_refl _⟩, ⟨by (with_reducible repeat (first | apply Kd.R_alloc | apply Kd.R_drewN | apply Kd.R_drew)); exact Kd.R_mono HO107.out (fun _ hk => hk.2)⟩, ⟨by (with_reducible repeat (first | apply Kd.R_alloc | apply Kd.R_drewN | apply Kd.R_drew)); exact Kd.R_mono HO111.out (fun _ hk => hk.2)⟩, ⟨by repeat (first | (with_reducible first | exact HB.out | apply below_alloc | apply pw_below_drewN | apply below_drew1) | exact HB.out)⟩⟩
            · rw [if_neg c19] at H
              have c19b0 : (t105 == t114) = false := beq_eq_false_iff_ne.mpr c19
              have c19b1 : (t105 != t114) = true := bne_iff_ne.mpr c19
              have H' := Aside0.mk H
              clear H
              go_wp2
              repeat (go_quiet (fail); try go_wp2)
              go_meet
              case rel => exact ⟨_, (true), (by first | rfl | (simp; done) | (simp [*]; done)), H', ⟨by have := HJ2.out; first | omega | exact Nat.le_refl _⟩, ⟨by (with_reducible repeat (first | apply Kd.R_alloc | apply Kd.R_drewN | apply Kd.R_drew)); exact Kd.R_mono HO107.out (fun _ hk => hk.2)⟩, ⟨by (with_reducible repeat (first | apply Kd.R_alloc | apply Kd.R_drewN | apply Kd.R_drew)); exact Kd.R_mono HO111.out (fun _ hk => hk.2)⟩, ⟨by repeat (first | (with_reducible first | exact HB.out | apply below_alloc | apply pw_below_drewN | apply below_drew1) | exact HB.out)⟩⟩
          · rw [if_neg c18] at H
            have c18b0 : (t105 == t109) = false := beq_eq_false_iff_ne.mpr c18
            have c18b1 : (t105 != t109) = true := bne_iff_ne.mpr c18
            (first | rw [c18b0] | (simp only [i64_w, i32_w]; rw [c18b0]) | skip)
            have H' := Aside0.mk H
            clear H
            go_wp2
            repeat (go_quiet (fail); try go_wp2)
            go_meet
            case rel => exact ⟨_, (true), (by first | rfl | (simp; done) | (simp [*]; done)), H', ⟨by have := HJ2.out; first | omega | exact Nat.le_refl _⟩, ⟨by (with_reducible repeat (first | apply Kd.R_alloc | apply Kd.R_drewN | apply Kd.R_drew)); exact Kd.R_mono HO107.out (fun _ hk => hk.2)⟩, ⟨by (with_reducible repeat (first | apply Kd.R_alloc | apply Kd.R_drewN | apply Kd.R_drew)); exact Kd.R_mono HO111.out (fun _ hk => hk.2)⟩, ⟨by repeat (first | (with_reducible first | exact HB.out | apply below_alloc | apply pw_below_drewN | apply below_drew1) | exact HB.out)⟩⟩
        case rest =>
          clear HC14
          try clear c1
          try clear p2
          try clear c4
          try clear c5
          try clear c8
          try clear c18
          try clear c18b0
          try clear c18b1
          try clear c19
          try clear c19b0
          try clear c19b1
          try clear p2
          obtain ⟨kq, x59_13, rfl, HA, HJ13, HO_5, HO_7, HB⟩ := hcut
          cases kq with
          | zero => exact absurd HA.out (by simp [trishawlaw03_BranchProofs.j1])
          | succ kj13 =>
            have H := HA.out
            clear HA
            simp only [trishawlaw03_BranchProofs.j1] at H
            by_cases c22 : x59_13 = true
            · subst c22
              have H1 : (some false) = some r := by rw [if_pos rfl] at H; exact H
              clear H
              have H := H1
              clear H1
              obtain rfl := Option.some.inj H
              go_wp2
              repeat (go_quiet (fail); try go_wp2)
              go_ret
              exact ⟨by first | rfl | (simp [errW_none, errW_some] <;> rfl) | (simp [*, errW_none, errW_some] <;> rfl), by repeat (first | (with_reducible first | exact HB.out | apply below_alloc | apply pw_below_drewN | apply below_drew1) | exact HB.out)⟩
            · replace c22 := Bool.eq_false_iff.mpr c22
              subst c22
              have H1 : (trishawlaw03_BranchProofs.l0 kj13 a0 l1 t104 t105 t108 t113 0) = some r := by rw [if_neg (show ¬ (false = true) by decide)] at H; exact H
              clear H
              have H := H1
              clear H1
              have H' := Aside0.mk H
              clear H
              go_wp2
              repeat (go_quiet (fail); try go_wp2)
              go_loopg [12] kj13 (fun kq v12 w' => ∃ (x12_3 : Int), v12 = .int .i64 x12_3 ∧ Aside0 (trishawlaw03_BranchProofs.l0 kq a0 l1 t104 t105 t108 t113 x12_3 = some r) ∧ Aside0 (kq ≤ kj13) ∧ Aside0 (Kd.R k41 41 w' w.heap.size (fun k_ => some k_ ≠ (v110 : Value).ownBlock) v106 t104) ∧ Aside0 (Kd.R k41 41 w' w.heap.size (fun k_ => some k_ ≠ (v106 : Value).ownBlock) v110 t108) ∧ Aside0 (Below w.heap.size w w'))
              case atStart => exact ⟨(0), (by first | rfl | (simp; done) | (simp [*]; done)), H', ⟨Nat.le_refl _⟩, ⟨by (with_reducible repeat (first | apply Kd.R_alloc | apply Kd.R_drewN | apply Kd.R_drew)); exact HO_5.out⟩, ⟨by (with_reducible repeat (first | apply Kd.R_alloc | apply Kd.R_drewN | apply Kd.R_drew)); exact HO_7.out⟩, ⟨by repeat (first | (with_reducible first | exact HB.out | apply below_alloc | apply pw_below_drewN | apply below_drew1) | exact HB.out)⟩⟩
              case round =>
                clear H'
                try clear c1
                try clear c2
                try clear p2
                try clear c4
                try clear c5
                try clear c8
                try clear c18
                try clear c18b0
                try clear c18b1
                try clear c19
                try clear c19b0
                try clear c19b1
                try clear c22
                try clear p2
                obtain ⟨x12_3, rfl, HA, HK3, HO_5, HO_7, HB⟩ := hrel
                cases gk with
                | zero => exact absurd HA.out (by simp [trishawlaw03_BranchProofs.l0])
                | succ k3 =>
                  have H := HA.out
                  clear HA
                  simp only [trishawlaw03_BranchProofs.l0] at H
                  by_cases c23 : x12_3 < (t104.length : Int)
                  · rw [if_pos c23] at H
                    have c23b0 : decide (x12_3 < (t104.length : Int)) = true := decide_eq_true c23
                    clear c23
                    by_cases c24 : 0 ≤ x12_3
                    · rw [if_pos c24] at H
                      have c24b0 : decide (0 ≤ x12_3) = true := decide_eq_true c24
                      clear c24
                      by_cases c25 : x12_3 < (t108.length : Int)
                      · rw [if_pos c25] at H
                        have c25b0 : decide (x12_3 < (t108.length : Int)) = true := decide_eq_true c25
                        clear c25
                        by_cases c26 : (!(((rd_T41 t104 x12_3).f0) == ((rd_T41 t108 x12_3).f0)) || (!(((rd_T41 t104 x12_3).f1) == ((rd_T41 t108 x12_3).f1)))) = true
                        · rw [if_pos c26] at H
                          have c26b0 : (!(((rd_T41 t104 x12_3).f0) == ((rd_T41 t108 x12_3).f0)) || (!(((rd_T41 t104 x12_3).f1) == ((rd_T41 t108 x12_3).f1)))) = true := c26
                          clear c26
                          obtain rfl := Option.some.inj H
                          obtain ⟨Ao27, co27, eo27⟩ := Kd.R_slice HO_5.out
                          subst eo27
                          have p117 : 0 ≤ (x12_3 : Int) := of_decide_eq_true (by first | (with_reducible assumption) | assumption)
                          have q117 : x12_3 < (t104.length : Int) := of_decide_eq_true (by first | (with_reducible assumption) | assumption)
                          obtain ⟨ad117, e117, hx117_0, hx117_1⟩ := at_T41 (Kd.R_reads' HO_5.out).2.2 x12_3 p117 q117
                          cases e117
                          replace p117 := eq_true p117
                          replace q117 := eq_true q117
                          obtain ⟨Ao28, co28, eo28⟩ := Kd.R_slice HO_7.out
                          subst eo28
                          have p118 : 0 ≤ (x12_3 : Int) := of_decide_eq_true (by first | (with_reducible assumption) | assumption)
                          have q118 : x12_3 < (t108.length : Int) := of_decide_eq_true (by first | (with_reducible assumption) | assumption)
                          obtain ⟨ad118, e118, hx118_0, hx118_1⟩ := at_T41 (Kd.R_reads' HO_7.out).2.2 x12_3 p118 q118
                          cases e118
                          replace p118 := eq_true p118
                          replace q118 := eq_true q118
                          go_wp2
                          repeat (go_quiet (fail); try go_wp2)
                          go_ret
                          exact ⟨by first | rfl | (simp [errW_none, errW_some] <;> rfl) | (simp [*, errW_none, errW_some] <;> rfl), by repeat (first | (with_reducible first | exact HB.out | apply below_alloc | apply pw_below_drewN | apply below_drew1) | exact HB.out)⟩
                        · rw [if_neg c26] at H
                          have c26b0 : (!(((rd_T41 t104 x12_3).f0) == ((rd_T41 t108 x12_3).f0)) || (!(((rd_T41 t104 x12_3).f1) == ((rd_T41 t108 x12_3).f1)))) = false := by simpa using c26
                          clear c26
                          have H' := Aside0.mk H
                          clear H
                          obtain ⟨Ao29, co29, eo29⟩ := Kd.R_slice HO_5.out
                          subst eo29
                          have p117 : 0 ≤ (x12_3 : Int) := of_decide_eq_true (by first | (with_reducible assumption) | assumption)
                          have q117 : x12_3 < (t104.length : Int) := of_decide_eq_true (by first | (with_reducible assumption) | assumption)
                          obtain ⟨ad117, e117, hx117_0, hx117_1⟩ := at_T41 (Kd.R_reads' HO_5.out).2.2 x12_3 p117 q117
                          cases e117
                          replace p117 := eq_true p117
                          replace q117 := eq_true q117
                          obtain ⟨Ao30, co30, eo30⟩ := Kd.R_slice HO_7.out
                          subst eo30
                          have p118 : 0 ≤ (x12_3 : Int) := of_decide_eq_true (by first | (with_reducible assumption) | assumption)
                          have q118 : x12_3 < (t108.length : Int) := of_decide_eq_true (by first | (with_reducible assumption) | assumption)
                          obtain ⟨ad118, e118, hx118_0, hx118_1⟩ := at_T41 (Kd.R_reads' HO_7.out).2.2 x12_3 p118 q118
                          cases e118
                          replace p118 := eq_true p118
                          replace q118 := eq_true q118
                          go_wp2
                          repeat (go_quiet (fail); try go_wp2)
                          go_roundg k3
                          case measure => have := HJ2.out; have := HJ13.out; have := HK3.out; omega
                          case rel => exact ⟨(wrap64 (x12_3 + 1)), (by first | rfl | (simp; done) | (simp [*]; done)), H', ⟨by have := HJ2.out; have := HJ13.out; have := HK3.out; omega⟩, ⟨by (with_reducible repeat (first | apply Kd.R_alloc | apply Kd.R_drewN | apply Kd.R_drew)); exact HO_5.out⟩, ⟨by (with_reducible repeat (first | apply Kd.R_alloc | apply Kd.R_drewN | apply Kd.R_drew)); exact HO_7.out⟩, ⟨by repeat (first | (with_reducible first | exact HB.out | apply below_alloc | apply pw_below_drewN | apply below_drew1) | exact HB.out)⟩⟩
                      · rw [if_neg c25] at H
                        exact absurd H (by simp)
                    · rw [if_neg c24] at H
                      exact absurd H (by simp)
                  · rw [if_neg c23] at H
                    have c23b0 : decide (x12_3 < (t104.length : Int)) = false := decide_eq_false c23
                    clear c23
                    by_cases c31 : t105 = 0
                    · rw [if_pos c31] at H
                      have c31b0 : (t105 == 0) = true := beq_iff_eq.mpr c31
                      have c31b1 : (t105 != 0) = false := bne_eq_false_iff_eq.mpr c31
                      clear c31
                      replace H := Option.bind_eq_some_iff.mp H
                      obtain ⟨⟨t119, t120, t121⟩, A320, H⟩ := H
                      replace H : (if t120 = true then (if t119 = t113 then ((trishawlaw03_alive.f k3).bind fun t122 => (some t122)) else (some false)) else (some false)) = some r := H
                      have A32 := Aside0.mk A320
                      clear A320
                      by_cases c33 : t120 = true
                      · subst c33
                        have H1 : (if t119 = t113 then ((trishawlaw03_alive.f k3).bind fun t122 => (some t122)) else (some false)) = some r := by rw [if_pos rfl] at H; exact H
                        clear H
                        have H := H1
                        clear H1
                        by_cases c34 : t119 = t113
                        · rw [if_pos c34] at H
                          have c34b0 : (t119 == t113) = true := beq_iff_eq.mpr c34
                          have c34b1 : (t119 != t113) = false := bne_eq_false_iff_eq.mpr c34
                          clear c34
                          replace H := Option.bind_eq_some_iff.mp H
                          obtain ⟨t122, A350, H⟩ := H
                          replace H : (some t122) = some r := H
                          have A35 := Aside0.mk A350
                          clear A350
                          obtain rfl := Option.some.inj H
                          obtain ⟨Ao36, co36, eo36⟩ := Kd.R_slice HO_5.out
                          subst eo36
                          go_wp2_with (first | (go_at_call 23; (with_reducible refine (trishawref03_Proves.calls k3 a0 _ _ l1 _ _ t104 t119 true t121 _ ?side1 ?side2 ?side3 ?side4 A32.out).mono ?_); (case side1 => repeat (first | exact (Kd.C_below HR1.out HB.out) | (with_reducible refine Kd.C_alloc ?_ _) | (with_reducible refine Kd.C_drewN ?_ _) | (with_reducible refine Kd.C_drew ?_))); (case side2 => exact HC1.out); (case side3 => repeat (first | exact (Kd.R_reads' HO_5.out).2.2 | (with_reducible refine Kd.C_alloc ?_ _) | (with_reducible refine Kd.C_drewN ?_ _) | (with_reducible refine Kd.C_drew ?_))); (case side4 => exact (Kd.R_reads' HO_5.out).2.1); rintro e w37 ⟨rfl, hb⟩; have n0_ := Aside0.mk (Kd.R_below (by (with_reducible repeat (first | apply Kd.R_alloc | apply Kd.R_drewN | apply Kd.R_drew)); exact HO_5.out) hb); have n1_ := Aside0.mk (Kd.R_below (by (with_reducible repeat (first | apply Kd.R_alloc | apply Kd.R_drewN | apply Kd.R_drew)); exact HO_7.out) hb); have n2_ := Aside0.mk (below_step (by repeat (first | (with_reducible first | exact HB.out | apply below_alloc | apply pw_below_drewN | apply below_drew1) | exact HB.out)) hb); clear HO_5; clear HO_7; clear HB; have HO_5 := n0_; have HO_7 := n1_; have HB := n2_; clear n0_ n1_ n2_; (try clear hb); (try clear hb2); (try clear hk); (try clear hi)) | (go_at_call 17; (with_reducible refine (trishawlaw03_alive.calls k3  t122 _ A35.out).mono ?_); rintro e w38 ⟨rfl, hb⟩; have n0_ := Aside0.mk (Kd.R_below (by (with_reducible repeat (first | apply Kd.R_alloc | apply Kd.R_drewN | apply Kd.R_drew)); exact HO_5.out) hb); have n1_ := Aside0.mk (Kd.R_below (by (with_reducible repeat (first | apply Kd.R_alloc | apply Kd.R_drewN | apply Kd.R_drew)); exact HO_7.out) hb); have n2_ := Aside0.mk (below_step (by repeat (first | (with_reducible first | exact HB.out | apply below_alloc | apply pw_below_drewN | apply below_drew1) | exact HB.out)) hb); clear HO_5; clear HO_7; clear HB; have HO_5 := n0_; have HO_7 := n1_; have HB := n2_; clear n0_ n1_ n2_; (try clear hb); (try clear hb2); (try clear hk); (try clear hi)))
                          repeat (go_quiet (first | (go_at_call 23; (with_reducible refine (trishawref03_Proves.calls k3 a0 _ _ l1 _ _ t104 t119 true t121 _ ?side1 ?side2 ?side3 ?side4 A32.out).mono ?_); (case side1 => repeat (first | exact (Kd.C_below HR1.out HB.out) | (with_reducible refine Kd.C_alloc ?_ _) | (with_reducible refine Kd.C_drewN ?_ _) | (with_reducible refine Kd.C_drew ?_))); (case side2 => exact HC1.out); (case side3 => repeat (first | exact (Kd.R_reads' HO_5.out).2.2 | (with_reducible refine Kd.C_alloc ?_ _) | (with_reducible refine Kd.C_drewN ?_ _) | (with_reducible refine Kd.C_drew ?_))); (case side4 => exact (Kd.R_reads' HO_5.out).2.1); rintro e w37 ⟨rfl, hb⟩; have n0_ := Aside0.mk (Kd.R_below (by (with_reducible repeat (first | apply Kd.R_alloc | apply Kd.R_drewN | apply Kd.R_drew)); exact HO_5.out) hb); have n1_ := Aside0.mk (Kd.R_below (by (with_reducible repeat (first | apply Kd.R_alloc | apply Kd.R_drewN | apply Kd.R_drew)); exact HO_7.out) hb); have n2_ := Aside0.mk (below_step (by repeat (first | (with_reducible first | exact HB.out | apply below_alloc | apply pw_below_drewN | apply below_drew1) | exact HB.out)) hb); clear HO_5; clear HO_7; clear HB; have HO_5 := n0_; have HO_7 := n1_; have HB := n2_; clear n0_ n1_ n2_; (try clear hb); (try clear hb2); (try clear hk); (try clear hi)) | (go_at_call 17; (with_reducible refine (trishawlaw03_alive.calls k3  t122 _ A35.out).mono ?_); rintro e w38 ⟨rfl, hb⟩; have n0_ := Aside0.mk (Kd.R_below (by (with_reducible repeat (first | apply Kd.R_alloc | apply Kd.R_drewN | apply Kd.R_drew)); exact HO_5.out) hb); have n1_ := Aside0.mk (Kd.R_below (by (with_reducible repeat (first | apply Kd.R_alloc | apply Kd.R_drewN | apply Kd.R_drew)); exact HO_7.out) hb); have n2_ := Aside0.mk (below_step (by repeat (first | (with_reducible first | exact HB.out | apply below_alloc | apply pw_below_drewN | apply below_drew1) | exact HB.out)) hb); clear HO_5; clear HO_7; clear HB; have HO_5 := n0_; have HO_7 := n1_; have HB := n2_; clear n0_ n1_ n2_; (try clear hb); (try clear hb2); (try clear hk); (try clear hi))); try go_wp2_with (first | (go_at_call 23; (with_reducible refine (trishawref03_Proves.calls k3 a0 _ _ l1 _ _ t104 t119 true t121 _ ?side1 ?side2 ?side3 ?side4 A32.out).mono ?_); (case side1 => repeat (first | exact (Kd.C_below HR1.out HB.out) | (with_reducible refine Kd.C_alloc ?_ _) | (with_reducible refine Kd.C_drewN ?_ _) | (with_reducible refine Kd.C_drew ?_))); (case side2 => exact HC1.out); (case side3 => repeat (first | exact (Kd.R_reads' HO_5.out).2.2 | (with_reducible refine Kd.C_alloc ?_ _) | (with_reducible refine Kd.C_drewN ?_ _) | (with_reducible refine Kd.C_drew ?_))); (case side4 => exact (Kd.R_reads' HO_5.out).2.1); rintro e w37 ⟨rfl, hb⟩; have n0_ := Aside0.mk (Kd.R_below (by (with_reducible repeat (first | apply Kd.R_alloc | apply Kd.R_drewN | apply Kd.R_drew)); exact HO_5.out) hb); have n1_ := Aside0.mk (Kd.R_below (by (with_reducible repeat (first | apply Kd.R_alloc | apply Kd.R_drewN | apply Kd.R_drew)); exact HO_7.out) hb); have n2_ := Aside0.mk (below_step (by repeat (first | (with_reducible first | exact HB.out | apply below_alloc | apply pw_below_drewN | apply below_drew1) | exact HB.out)) hb); clear HO_5; clear HO_7; clear HB; have HO_5 := n0_; have HO_7 := n1_; have HB := n2_; clear n0_ n1_ n2_; (try clear hb); (try clear hb2); (try clear hk); (try clear hi)) | (go_at_call 17; (with_reducible refine (trishawlaw03_alive.calls k3  t122 _ A35.out).mono ?_); rintro e w38 ⟨rfl, hb⟩; have n0_ := Aside0.mk (Kd.R_below (by (with_reducible repeat (first | apply Kd.R_alloc | apply Kd.R_drewN | apply Kd.R_drew)); exact HO_5.out) hb); have n1_ := Aside0.mk (Kd.R_below (by (with_reducible repeat (first | apply Kd.R_alloc | apply Kd.R_drewN | apply Kd.R_drew)); exact HO_7.out) hb); have n2_ := Aside0.mk (below_step (by repeat (first | (with_reducible first | exact HB.out | apply below_alloc | apply pw_below_drewN | apply below_drew1) | exact HB.out)) hb); clear HO_5; clear HO_7; clear HB; have HO_5 := n0_; have HO_7 := n1_; have HB := n2_; clear n0_ n1_ n2_; (try clear hb); (try clear hb2); (try clear hk); (try clear hi))))
                          go_ret
                          exact ⟨by first | rfl | (simp [errW_none, errW_some] <;> rfl) | (simp [*, errW_none, errW_some] <;> rfl), by repeat (first | (with_reducible first | exact HB.out | apply below_alloc | apply pw_below_drewN | apply below_drew1) | exact HB.out)⟩
                        · rw [if_neg c34] at H
                          have c34b0 : (t119 == t113) = false := beq_eq_false_iff_ne.mpr c34
                          have c34b1 : (t119 != t113) = true := bne_iff_ne.mpr c34
                          obtain rfl := Option.some.inj H
                          obtain ⟨Ao39, co39, eo39⟩ := Kd.R_slice HO_5.out
                          subst eo39
                          go_wp2_with (first | (go_at_call 23; (with_reducible refine (trishawref03_Proves.calls k3 a0 _ _ l1 _ _ t104 t119 true t121 _ ?side1 ?side2 ?side3 ?side4 A32.out).mono ?_); (case side1 => repeat (first | exact (Kd.C_below HR1.out HB.out) | (with_reducible refine Kd.C_alloc ?_ _) | (with_reducible refine Kd.C_drewN ?_ _) | (with_reducible refine Kd.C_drew ?_))); (case side2 => exact HC1.out); (case side3 => repeat (first | exact (Kd.R_reads' HO_5.out).2.2 | (with_reducible refine Kd.C_alloc ?_ _) | (with_reducible refine Kd.C_drewN ?_ _) | (with_reducible refine Kd.C_drew ?_))); (case side4 => exact (Kd.R_reads' HO_5.out).2.1); rintro e w40 ⟨rfl, hb⟩; have n0_ := Aside0.mk (Kd.R_below (by (with_reducible repeat (first | apply Kd.R_alloc | apply Kd.R_drewN | apply Kd.R_drew)); exact HO_5.out) hb); have n1_ := Aside0.mk (Kd.R_below (by (with_reducible repeat (first | apply Kd.R_alloc | apply Kd.R_drewN | apply Kd.R_drew)); exact HO_7.out) hb); have n2_ := Aside0.mk (below_step (by repeat (first | (with_reducible first | exact HB.out | apply below_alloc | apply pw_below_drewN | apply below_drew1) | exact HB.out)) hb); clear HO_5; clear HO_7; clear HB; have HO_5 := n0_; have HO_7 := n1_; have HB := n2_; clear n0_ n1_ n2_; (try clear hb); (try clear hb2); (try clear hk); (try clear hi)))
                          repeat (go_quiet (first | (go_at_call 23; (with_reducible refine (trishawref03_Proves.calls k3 a0 _ _ l1 _ _ t104 t119 true t121 _ ?side1 ?side2 ?side3 ?side4 A32.out).mono ?_); (case side1 => repeat (first | exact (Kd.C_below HR1.out HB.out) | (with_reducible refine Kd.C_alloc ?_ _) | (with_reducible refine Kd.C_drewN ?_ _) | (with_reducible refine Kd.C_drew ?_))); (case side2 => exact HC1.out); (case side3 => repeat (first | exact (Kd.R_reads' HO_5.out).2.2 | (with_reducible refine Kd.C_alloc ?_ _) | (with_reducible refine Kd.C_drewN ?_ _) | (with_reducible refine Kd.C_drew ?_))); (case side4 => exact (Kd.R_reads' HO_5.out).2.1); rintro e w40 ⟨rfl, hb⟩; have n0_ := Aside0.mk (Kd.R_below (by (with_reducible repeat (first | apply Kd.R_alloc | apply Kd.R_drewN | apply Kd.R_drew)); exact HO_5.out) hb); have n1_ := Aside0.mk (Kd.R_below (by (with_reducible repeat (first | apply Kd.R_alloc | apply Kd.R_drewN | apply Kd.R_drew)); exact HO_7.out) hb); have n2_ := Aside0.mk (below_step (by repeat (first | (with_reducible first | exact HB.out | apply below_alloc | apply pw_below_drewN | apply below_drew1) | exact HB.out)) hb); clear HO_5; clear HO_7; clear HB; have HO_5 := n0_; have HO_7 := n1_; have HB := n2_; clear n0_ n1_ n2_; (try clear hb); (try clear hb2); (try clear hk); (try clear hi))); try go_wp2_with (first | (go_at_call 23; (with_reducible refine (trishawref03_Proves.calls k3 a0 _ _ l1 _ _ t104 t119 true t121 _ ?side1 ?side2 ?side3 ?side4 A32.out).mono ?_); (case side1 => repeat (first | exact (Kd.C_below HR1.out HB.out) | (with_reducible refine Kd.C_alloc ?_ _) | (with_reducible refine Kd.C_drewN ?_ _) | (with_reducible refine Kd.C_drew ?_))); (case side2 => exact HC1.out); (case side3 => repeat (first | exact (Kd.R_reads' HO_5.out).2.2 | (with_reducible refine Kd.C_alloc ?_ _) | (with_reducible refine Kd.C_drewN ?_ _) | (with_reducible refine Kd.C_drew ?_))); (case side4 => exact (Kd.R_reads' HO_5.out).2.1); rintro e w40 ⟨rfl, hb⟩; have n0_ := Aside0.mk (Kd.R_below (by (with_reducible repeat (first | apply Kd.R_alloc | apply Kd.R_drewN | apply Kd.R_drew)); exact HO_5.out) hb); have n1_ := Aside0.mk (Kd.R_below (by (with_reducible repeat (first | apply Kd.R_alloc | apply Kd.R_drewN | apply Kd.R_drew)); exact HO_7.out) hb); have n2_ := Aside0.mk (below_step (by repeat (first | (with_reducible first | exact HB.out | apply below_alloc | apply pw_below_drewN | apply below_drew1) | exact HB.out)) hb); clear HO_5; clear HO_7; clear HB; have HO_5 := n0_; have HO_7 := n1_; have HB := n2_; clear n0_ n1_ n2_; (try clear hb); (try clear hb2); (try clear hk); (try clear hi))))
                          go_ret
                          exact ⟨by first | rfl | (simp [errW_none, errW_some] <;> rfl) | (simp [*, errW_none, errW_some] <;> rfl), by repeat (first | (with_reducible first | exact HB.out | apply below_alloc | apply pw_below_drewN | apply below_drew1) | exact HB.out)⟩
                      · replace c33 := Bool.eq_false_iff.mpr c33
                        subst c33
                        have H1 : (some false) = some r := by rw [if_neg (show ¬ (false = true) by decide)] at H; exact H
                        clear H
                        have H := H1
                        clear H1
                        obtain rfl := Option.some.inj H
                        obtain ⟨Ao41, co41, eo41⟩ := Kd.R_slice HO_5.out
                        subst eo41
                        go_wp2_with (first | (go_at_call 23; (with_reducible refine (trishawref03_Proves.calls k3 a0 _ _ l1 _ _ t104 t119 false t121 _ ?side1 ?side2 ?side3 ?side4 A32.out).mono ?_); (case side1 => repeat (first | exact (Kd.C_below HR1.out HB.out) | (with_reducible refine Kd.C_alloc ?_ _) | (with_reducible refine Kd.C_drewN ?_ _) | (with_reducible refine Kd.C_drew ?_))); (case side2 => exact HC1.out); (case side3 => repeat (first | exact (Kd.R_reads' HO_5.out).2.2 | (with_reducible refine Kd.C_alloc ?_ _) | (with_reducible refine Kd.C_drewN ?_ _) | (with_reducible refine Kd.C_drew ?_))); (case side4 => exact (Kd.R_reads' HO_5.out).2.1); rintro e w42 ⟨rfl, hb⟩; have n0_ := Aside0.mk (Kd.R_below (by (with_reducible repeat (first | apply Kd.R_alloc | apply Kd.R_drewN | apply Kd.R_drew)); exact HO_5.out) hb); have n1_ := Aside0.mk (Kd.R_below (by (with_reducible repeat (first | apply Kd.R_alloc | apply Kd.R_drewN | apply Kd.R_drew)); exact HO_7.out) hb); have n2_ := Aside0.mk (below_step (by repeat (first | (with_reducible first | exact HB.out | apply below_alloc | apply pw_below_drewN | apply below_drew1) | exact HB.out)) hb); clear HO_5; clear HO_7; clear HB; have HO_5 := n0_; have HO_7 := n1_; have HB := n2_; clear n0_ n1_ n2_; (try clear hb); (try clear hb2); (try clear hk); (try clear hi)))
                        repeat (go_quiet (first | (go_at_call 23; (with_reducible refine (trishawref03_Proves.calls k3 a0 _ _ l1 _ _ t104 t119 false t121 _ ?side1 ?side2 ?side3 ?side4 A32.out).mono ?_); (case side1 => repeat (first | exact (Kd.C_below HR1.out HB.out) | (with_reducible refine Kd.C_alloc ?_ _) | (with_reducible refine Kd.C_drewN ?_ _) | (with_reducible refine Kd.C_drew ?_))); (case side2 => exact HC1.out); (case side3 => repeat (first | exact (Kd.R_reads' HO_5.out).2.2 | (with_reducible refine Kd.C_alloc ?_ _) | (with_reducible refine Kd.C_drewN ?_ _) | (with_reducible refine Kd.C_drew ?_))); (case side4 => exact (Kd.R_reads' HO_5.out).2.1); rintro e w42 ⟨rfl, hb⟩; have n0_ := Aside0.mk (Kd.R_below (by (with_reducible repeat (first | apply Kd.R_alloc | apply Kd.R_drewN | apply Kd.R_drew)); exact HO_5.out) hb); have n1_ := Aside0.mk (Kd.R_below (by (with_reducible repeat (first | apply Kd.R_alloc | apply Kd.R_drewN | apply Kd.R_drew)); exact HO_7.out) hb); have n2_ := Aside0.mk (below_step (by repeat (first | (with_reducible first | exact HB.out | apply below_alloc | apply pw_below_drewN | apply below_drew1) | exact HB.out)) hb); clear HO_5; clear HO_7; clear HB; have HO_5 := n0_; have HO_7 := n1_; have HB := n2_; clear n0_ n1_ n2_; (try clear hb); (try clear hb2); (try clear hk); (try clear hi))); try go_wp2_with (first | (go_at_call 23; (with_reducible refine (trishawref03_Proves.calls k3 a0 _ _ l1 _ _ t104 t119 false t121 _ ?side1 ?side2 ?side3 ?side4 A32.out).mono ?_); (case side1 => repeat (first | exact (Kd.C_below HR1.out HB.out) | (with_reducible refine Kd.C_alloc ?_ _) | (with_reducible refine Kd.C_drewN ?_ _) | (with_reducible refine Kd.C_drew ?_))); (case side2 => exact HC1.out); (case side3 => repeat (first | exact (Kd.R_reads' HO_5.out).2.2 | (with_reducible refine Kd.C_alloc ?_ _) | (with_reducible refine Kd.C_drewN ?_ _) | (with_reducible refine Kd.C_drew ?_))); (case side4 => exact (Kd.R_reads' HO_5.out).2.1); rintro e w42 ⟨rfl, hb⟩; have n0_ := Aside0.mk (Kd.R_below (by (with_reducible repeat (first | apply Kd.R_alloc | apply Kd.R_drewN | apply Kd.R_drew)); exact HO_5.out) hb); have n1_ := Aside0.mk (Kd.R_below (by (with_reducible repeat (first | apply Kd.R_alloc | apply Kd.R_drewN | apply Kd.R_drew)); exact HO_7.out) hb); have n2_ := Aside0.mk (below_step (by repeat (first | (with_reducible first | exact HB.out | apply below_alloc | apply pw_below_drewN | apply below_drew1) | exact HB.out)) hb); clear HO_5; clear HO_7; clear HB; have HO_5 := n0_; have HO_7 := n1_; have HB := n2_; clear n0_ n1_ n2_; (try clear hb); (try clear hb2); (try clear hk); (try clear hi))))
                        go_ret
                        exact ⟨by first | rfl | (simp [errW_none, errW_some] <;> rfl) | (simp [*, errW_none, errW_some] <;> rfl), by repeat (first | (with_reducible first | exact HB.out | apply below_alloc | apply pw_below_drewN | apply below_drew1) | exact HB.out)⟩
                    · rw [if_neg c31] at H
                      have c31b0 : (t105 == 0) = false := beq_eq_false_iff_ne.mpr c31
                      have c31b1 : (t105 != 0) = true := bne_iff_ne.mpr c31
                      by_cases c43 : (t104.length : Int) = 0
                      · rw [if_pos c43] at H
                        have c43b0 : ((t104.length : Int) == 0) = true := beq_iff_eq.mpr c43
                        have c43b1 : ((t104.length : Int) != 0) = false := bne_eq_false_iff_eq.mpr c43
                        clear c43
                        replace H := Option.bind_eq_some_iff.mp H
                        obtain ⟨t123, A440, H⟩ := H
                        replace H : (some t123) = some r := H
                        have A44 := Aside0.mk A440
                        clear A440
                        obtain rfl := Option.some.inj H
                        obtain ⟨Ao45, co45, eo45⟩ := Kd.R_slice HO_5.out
                        subst eo45
                        go_wp2_with (first | (go_at_call 17; (with_reducible refine (trishawlaw03_alive.calls k3  t123 _ A44.out).mono ?_); rintro e w46 ⟨rfl, hb⟩; have n0_ := Aside0.mk (Kd.R_below (by (with_reducible repeat (first | apply Kd.R_alloc | apply Kd.R_drewN | apply Kd.R_drew)); exact HO_5.out) hb); have n1_ := Aside0.mk (Kd.R_below (by (with_reducible repeat (first | apply Kd.R_alloc | apply Kd.R_drewN | apply Kd.R_drew)); exact HO_7.out) hb); have n2_ := Aside0.mk (below_step (by repeat (first | (with_reducible first | exact HB.out | apply below_alloc | apply pw_below_drewN | apply below_drew1) | exact HB.out)) hb); clear HO_5; clear HO_7; clear HB; have HO_5 := n0_; have HO_7 := n1_; have HB := n2_; clear n0_ n1_ n2_; (try clear hb); (try clear hb2); (try clear hk); (try clear hi)))
                        repeat (go_quiet (first | (go_at_call 17; (with_reducible refine (trishawlaw03_alive.calls k3  t123 _ A44.out).mono ?_); rintro e w46 ⟨rfl, hb⟩; have n0_ := Aside0.mk (Kd.R_below (by (with_reducible repeat (first | apply Kd.R_alloc | apply Kd.R_drewN | apply Kd.R_drew)); exact HO_5.out) hb); have n1_ := Aside0.mk (Kd.R_below (by (with_reducible repeat (first | apply Kd.R_alloc | apply Kd.R_drewN | apply Kd.R_drew)); exact HO_7.out) hb); have n2_ := Aside0.mk (below_step (by repeat (first | (with_reducible first | exact HB.out | apply below_alloc | apply pw_below_drewN | apply below_drew1) | exact HB.out)) hb); clear HO_5; clear HO_7; clear HB; have HO_5 := n0_; have HO_7 := n1_; have HB := n2_; clear n0_ n1_ n2_; (try clear hb); (try clear hb2); (try clear hk); (try clear hi))); try go_wp2_with (first | (go_at_call 17; (with_reducible refine (trishawlaw03_alive.calls k3  t123 _ A44.out).mono ?_); rintro e w46 ⟨rfl, hb⟩; have n0_ := Aside0.mk (Kd.R_below (by (with_reducible repeat (first | apply Kd.R_alloc | apply Kd.R_drewN | apply Kd.R_drew)); exact HO_5.out) hb); have n1_ := Aside0.mk (Kd.R_below (by (with_reducible repeat (first | apply Kd.R_alloc | apply Kd.R_drewN | apply Kd.R_drew)); exact HO_7.out) hb); have n2_ := Aside0.mk (below_step (by repeat (first | (with_reducible first | exact HB.out | apply below_alloc | apply pw_below_drewN | apply below_drew1) | exact HB.out)) hb); clear HO_5; clear HO_7; clear HB; have HO_5 := n0_; have HO_7 := n1_; have HB := n2_; clear n0_ n1_ n2_; (try clear hb); (try clear hb2); (try clear hk); (try clear hi))))
                        go_ret
                        exact ⟨by first | rfl | (simp [errW_none, errW_some] <;> rfl) | (simp [*, errW_none, errW_some] <;> rfl), by repeat (first | (with_reducible first | exact HB.out | apply below_alloc | apply pw_below_drewN | apply below_drew1) | exact HB.out)⟩
                      · rw [if_neg c43] at H
                        have c43b0 : ((t104.length : Int) == 0) = false := beq_eq_false_iff_ne.mpr c43
                        have c43b1 : ((t104.length : Int) != 0) = true := bne_iff_ne.mpr c43
                        have c43b2 : ¬ (t104 = []) := fun h_ => c43 (by rw [h_]; rfl)
                        obtain rfl := Option.some.inj H
                        obtain ⟨Ao47, co47, eo47⟩ := Kd.R_slice HO_5.out
                        subst eo47
                        go_wp2
                        repeat (go_quiet (fail); try go_wp2)
                        go_ret
                        exact ⟨by first | rfl | (simp [errW_none, errW_some] <;> rfl) | (simp [*, errW_none, errW_some] <;> rfl), by repeat (first | (with_reducible first | exact HB.out | apply below_alloc | apply pw_below_drewN | apply below_drew1) | exact HB.out)⟩
end Go.Proofs.Ytpmadffgdfholaa.B
namespace Go.Proofs.Ytpmadffgdfholaa.B
open Go.RowKit Go.ChangeShapes Go.WideShapes Go.Deep Go.Proofs.YtpmadffgdfholaaW.PrintWords Go.Proofs.YtpmadffgdfholaaW.PrintLast Go.Proofs.YtpmadffgdfholaaW.PrintMore
/-- A street's three numbers are whole numbers of 64 bits. -/
def okS30 (x : S30) : Prop := (Lit.int .i64 x.f0).wf = true ∧ (Lit.int .i64 x.f1).wf = true ∧ (Lit.int .i64 x.f2).wf = true
section
variable {H : Type} {enc : TypeId × Value → H} {w : World} {spare : Nat → Bool} {held : Bool}
set_option maxRecDepth 100000 in
theorem open_way {fuel : Nat} {cs : List Value} {x : DataW H × List MemPlace} (h : DataW.trod enc Try.prog w 0 spare held fuel 30 cs = some x) : ∃ s : S30, cs = [.int .i64 s.f0, .int .i64 s.f1, .int .i64 s.f2] ∧ okS30 s := by
  obtain ⟨xs, n, _, _, hlen, hxl, hf⟩ := DataW.trod_struct Try.underlying30 h
  have h30 : Try.prog.cellsOf 30 = 3 := by kernel_rfl
  have h3 : Try.prog.cellsOf 3 = 1 := by kernel_rfl
  rw [h30] at hlen
  match cs, hlen with
  | [c0, c1, c2], _ =>
    have hsz : xs.length = 3 := hxl
    match xs, hsz with
    | [y0, y1, y2], _ =>
      have g0 : DataW.trod enc Try.prog w 0 spare held n 3 (([c0, c1, c2].drop 0).take (Try.prog.cellsOf 3)) = some y0 := hf 0 _ rfl
      have g1 : DataW.trod enc Try.prog w 0 spare held n 3 (([c0, c1, c2].drop 1).take (Try.prog.cellsOf 3)) = some y1 := hf 1 _ rfl
      have g2 : DataW.trod enc Try.prog w 0 spare held n 3 (([c0, c1, c2].drop 2).take (Try.prog.cellsOf 3)) = some y2 := hf 2 _ rfl
      rw [h3] at g0 g1 g2
      obtain ⟨n0, e0, _, w0⟩ := DataW.trod_int Try.underlying3 g0
      obtain ⟨n1, e1, _, w1⟩ := DataW.trod_int Try.underlying3 g1
      obtain ⟨n2, e2, _, w2⟩ := DataW.trod_int Try.underlying3 g2
      obtain rfl : c0 = .int .i64 n0 := by injection e0
      obtain rfl : c1 = .int .i64 n1 := by injection e1
      obtain rfl : c2 = .int .i64 n2 := by injection e2
      exact ⟨⟨n0, n1, n2⟩, rfl, w0, w1, w2⟩
theorem open_ways {a : Option Addr} {len cap : Nat} {d : DataW H} {p : List MemPlace} (h : DataW.Trod enc Try.prog w 0 spare held 22 (.slice a len cap) d p) :
    ∃ l : List S30, Kd.C k30 w a l.length l ∧ l.length = len ∧ len ≤ cap ∧ cap ≤ maxLen ∧ ∀ x ∈ l, okS30 x := by
  obtain ⟨fuel, hf⟩ := h
  rcases open_slice Try.underlying22 hf with ⟨hcs, _⟩ | ⟨x, l, c, m, n, D, Pl, hcs, _, hl, hm, hmm, _, hi⟩
  · simp [Value.cells] at hcs
    obtain ⟨rfl, rfl, rfl⟩ := hcs
    exact ⟨[], ⟨rfl, by simp, fun h => absurd h (by simp)⟩, rfl, Nat.le_refl _, by simp, by simp⟩
  · simp [Value.cells] at hcs
    obtain ⟨rfl, rfl, rfl⟩ := hcs
    have hlm : len ≤ m := by rw [hmm]; split <;> omega
    have h30 : Try.prog.cellsOf 30 = 3 := by kernel_rfl
    rw [h30] at hi
    have hex : ∀ i : Nat, ∃ s : S30, i < len → okS30 s ∧ w.cells? 0 (x.add (i * 3)) 3 = some [.int .i64 s.f0, .int .i64 s.f1, .int .i64 s.f2] := by
      intro i
      by_cases h : i < len
      · obtain ⟨cs', hc, ht⟩ := hi i (by omega)
        obtain ⟨s, rfl, hs⟩ := open_way ht
        exact ⟨s, fun _ => ⟨hs, hc⟩⟩
      · exact ⟨z30, fun h' => absurd h' h⟩
    obtain ⟨f, hf⟩ := Classical.axiomOfChoice hex
    have hll : ((List.range len).map f).length = len := by simp
    refine ⟨(List.range len).map f, ⟨rfl, by rw [hll]; simp only [maxLen] at hm; omega, fun _ => ⟨x, rfl, fun j p hj => ?_⟩⟩, hll, hl, hm, fun y hy => ?_⟩
    · have hjl : j < len := by have := (List.getElem?_eq_some_iff.1 hj).1; rw [hll] at this; exact this
      rw [List.getElem?_map, List.getElem?_range hjl] at hj
      injection hj with hj
      subst hj
      obtain ⟨hs, hc⟩ := hf j hjl
      obtain ⟨_, _, hat⟩ := World.cells?_some hc
      refine ⟨[.int .i64 (f j).f0, .int .i64 (f j).f1, .int .i64 (f j).f2], rfl, k30_mk w (f j), fun i u hu => ?_⟩
      have hi3 : i < 3 := (List.getElem?_eq_some_iff.1 hu).1
      show w.cell? (x.add (j * 3 + i)) = some u
      rw [← Go.Deep.add_add, hat i hi3, hu]
    · obtain ⟨j, hj, rfl⟩ := List.mem_map.1 hy
      exact (hf j (List.mem_range.1 hj)).1
end
end Go.Proofs.Ytpmadffgdfholaa.B
namespace Go.Proofs.Ytpmadffgdfholaa.B
open Go.RowKit Go.Proofs.YtpmadffgdfholaaW.PrintWords Go.Proofs.YtpmadffgdfholaaW.PrintLast Go.Proofs.YtpmadffgdfholaaW.PrintMore
def trishawlaw03_BranchProofs.Pure : Prop := ∀ (a0 : Int) (l1 : List S30), (Lit.int .i64 a0).wf = true → l1.length ≤ maxLen → (∀ x ∈ l1, okS30 x) → ∃ k, trishawlaw03_BranchProofs.f k a0 l1 = some true
theorem trishawlaw03_BranchProofs.walk (P : trishawlaw03_BranchProofs.Pure) (w : World) (a0 : Int) (A1 : Option Addr) (c1 : Nat) (l1 : List S30) (hr1 : Kd.C k30 w A1 l1.length l1) (hc1 : l1.length ≤ c1) (h0_0 : (Lit.int .i64 a0).wf = true) (h1_0 : l1.length ≤ maxLen) (h2_0 : (∀ x ∈ l1, okS30 x)) :
    Calls Try.prog 4 #[.int .i64 a0, .slice A1 l1.length c1] w fun e w' => e = .returned (.bool true) ∧ Below w.heap.size w w' := by
  obtain ⟨k, h⟩ := P a0 l1 h0_0 h1_0 h2_0
  refine (trishawlaw03_BranchProofs.calls k a0 A1 c1 l1 true w hr1 hc1 h).mono ?_
  rintro e w' ⟨rfl, hd⟩
  exact ⟨rfl, hd⟩
end Go.Proofs.Ytpmadffgdfholaa.B
namespace Go.Proofs.Ytpmadffgdfholaa.B
set_option linter.unusedVariables false
theorem get_idx {α : Type} (L : List α) {i j : Nat} (h : i = j) (hi : i < L.length) (hj : j < L.length) : L[i] = L[j] := by subst h; rfl
section
variable {ρ : Type}
/-- The sum along a row, the columns in done being passed. -/
def exD (r : ρ) (D : List (ρ → Int) → Int) : List (ρ → Int) → List (ρ → Int) → Int
  | _, [] => 0
  | done, c :: rest => c r * D (done ++ rest) - exD r D (done ++ [c]) rest
def detC : List ρ → List (ρ → Int) → Int
  | [], [] => 1
  | [], _ :: _ => 0
  | r :: rows, cols => exD r (detC rows) [] cols
theorem exD_swap_done {r : ρ} {D : List (ρ → Int) → Int} {x y : ρ → Int} (hD : ∀ A B, D (A ++ x :: y :: B) = - D (A ++ y :: x :: B)) : ∀ (rest A B : List (ρ → Int)), exD r D (A ++ x :: y :: B) rest = - exD r D (A ++ y :: x :: B) rest
  | [], _, _ => rfl
  | c :: rest, A, B => by
    have ih := exD_swap_done (r := r) hD rest A (B ++ [c])
    have h := hD A (B ++ rest)
    simp only [exD, List.append_assoc, List.cons_append] at ih h ⊢
    rw [ih, h, Int.mul_neg]
    omega
theorem exD_swap {r : ρ} {D : List (ρ → Int) → Int} {x y : ρ → Int} (hD : ∀ A B, D (A ++ x :: y :: B) = - D (A ++ y :: x :: B)) : ∀ (A done B : List (ρ → Int)), exD r D done (A ++ x :: y :: B) = - exD r D done (A ++ y :: x :: B)
  | [], done, B => by
    have h := exD_swap_done (r := r) hD B done []
    simp only [List.nil_append, exD, List.append_assoc, List.cons_append] at h ⊢
    rw [h]
    generalize exD r D (done ++ [y, x]) B = z
    omega
  | a :: A, done, B => by
    have ih := exD_swap (r := r) hD A (done ++ [a]) B
    have h := hD (done ++ A) B
    simp only [List.cons_append, exD, List.append_assoc] at ih h ⊢
    rw [ih, h, Int.mul_neg]
    omega
theorem detC_swap (x y : ρ → Int) : ∀ (rows : List ρ) (A B : List (ρ → Int)), detC rows (A ++ x :: y :: B) = - detC rows (A ++ y :: x :: B)
  | [], A, B => by cases A <;> rfl
  | r :: rows, A, B => exD_swap (detC_swap x y rows) A [] B
theorem detC_twin (x : ρ → Int) (rows : List ρ) (A B : List (ρ → Int)) : detC rows (A ++ x :: x :: B) = 0 := by
  have := detC_swap x x rows A B
  omega
/-- A column that stands further on is moved up. -/
theorem detC_dup (x : ρ → Int) (rows : List ρ) : ∀ (M A B : List (ρ → Int)), detC rows (A ++ x :: M ++ x :: B) = 0
  | [], A, B => by rw [List.append_assoc]; exact detC_twin x rows A B
  | m :: M, A, B => by
    have h1 := detC_swap x m rows A (M ++ x :: B)
    have h2 := detC_dup x rows M (A ++ [m]) B
    simp only [List.append_assoc, List.cons_append, List.nil_append] at h1 h2 ⊢
    rw [h1, h2]; rfl
theorem exD_lin_done {r : ρ} {D : List (ρ → Int) → Int} {u v : ρ → Int} (hD : ∀ A B, D (A ++ (fun z => u z + v z) :: B) = D (A ++ u :: B) + D (A ++ v :: B)) : ∀ (rest A B : List (ρ → Int)), exD r D (A ++ (fun z => u z + v z) :: B) rest = exD r D (A ++ u :: B) rest + exD r D (A ++ v :: B) rest
  | [], _, _ => rfl
  | c :: rest, A, B => by
    have ih := exD_lin_done (r := r) hD rest A (B ++ [c])
    have h := hD A (B ++ rest)
    simp only [exD, List.append_assoc, List.cons_append] at ih h ⊢
    rw [ih, h, Int.mul_add]
    omega
theorem exD_lin {r : ρ} {D : List (ρ → Int) → Int} {u v : ρ → Int} (hD : ∀ A B, D (A ++ (fun z => u z + v z) :: B) = D (A ++ u :: B) + D (A ++ v :: B)) : ∀ (A done B : List (ρ → Int)), exD r D done (A ++ (fun z => u z + v z) :: B) = exD r D done (A ++ u :: B) + exD r D done (A ++ v :: B)
  | [], done, B => by
    have h := exD_lin_done (r := r) hD B done []
    simp only [List.nil_append, exD] at h ⊢
    rw [h, Int.add_mul]
    omega
  | a :: A, done, B => by
    have ih := exD_lin (r := r) hD A (done ++ [a]) B
    have h := hD (done ++ A) B
    simp only [List.cons_append, exD, List.append_assoc] at ih h ⊢
    rw [ih, h, Int.mul_add]
    omega
theorem detC_lin (u v : ρ → Int) : ∀ (rows : List ρ) (A B : List (ρ → Int)), detC rows (A ++ (fun z => u z + v z) :: B) = detC rows (A ++ u :: B) + detC rows (A ++ v :: B)
  | [], A, B => by cases A <;> rfl
  | r :: rows, A, B => exD_lin (detC_lin u v rows) A [] B
theorem detC_zero (rows : List ρ) (A B : List (ρ → Int)) : detC rows (A ++ (fun _ => 0) :: B) = 0 := by
  have := detC_lin (fun _ => 0) (fun _ => 0) rows A B
  simp only [Int.add_zero] at this
  omega
theorem exD_map {σ : Type} (φ : σ → ρ) {r : σ} {D : List (ρ → Int) → Int} {E : List (σ → Int) → Int} (h : ∀ L, D L = E (L.map fun u => u ∘ φ)) : ∀ (rest done : List (ρ → Int)), exD (φ r) D done rest = exD r E (done.map fun u => u ∘ φ) (rest.map fun u => u ∘ φ)
  | [], _ => rfl
  | c :: rest, done => by
    have ih := exD_map φ (r := r) h rest (done ++ [c])
    simp only [exD, List.map_cons, Function.comp]
    rw [h, ih, List.map_append, List.map_append]
    rfl
theorem detC_map {σ : Type} (φ : σ → ρ) : ∀ (rows : List σ) (cols : List (ρ → Int)), detC (rows.map φ) cols = detC rows (cols.map fun u => u ∘ φ)
  | [], [] => rfl
  | [], _ :: _ => rfl
  | r :: rows, cols => exD_map φ (detC_map φ rows) cols []
/-- Columns that say the same of the rows. -/
theorem detC_same : ∀ (rows : List ρ) (C E : List (ρ → Int)), C.length = E.length → (∀ (i : Nat) (h1 : i < C.length) (h2 : i < E.length), ∀ r ∈ rows, C[i] r = E[i] r) → detC rows C = detC rows E
  | [], [], [], _, _ => rfl
  | [], [], _ :: _, h, _ => absurd h (by simp)
  | [], _ :: _, [], h, _ => absurd h (by simp)
  | [], _ :: _, _ :: _, _, _ => rfl
  | r :: rows, C, E, hl, h => by
    have key : ∀ (cs es dc de : List (ρ → Int)), cs.length = es.length → dc.length = de.length → (∀ (i : Nat) (h1 : i < cs.length) (h2 : i < es.length), ∀ q ∈ r :: rows, cs[i] q = es[i] q) → (∀ (i : Nat) (h1 : i < dc.length) (h2 : i < de.length), ∀ q ∈ r :: rows, dc[i] q = de[i] q) → exD r (detC rows) dc cs = exD r (detC rows) de es := by
      intro cs
      induction cs with
      | nil =>
        intro es dc de h1 _ _ _
        cases es with
        | nil => rfl
        | cons _ _ => exact absurd h1 (by simp)
      | cons c cs ih =>
        intro es dc de h1 h2 h3 h4
        cases es with
        | nil => exact absurd h1 (by simp)
        | cons e es =>
          simp only [exD]
          have hce := h3 0 (by simp) (by simp)
          simp only [List.getElem_cons_zero] at hce
          have h3' : ∀ (i : Nat) (g1 : i < cs.length) (g2 : i < es.length), ∀ q ∈ r :: rows, cs[i] q = es[i] q := fun i g1 g2 q hq => by
            have := h3 (i + 1) (by simp; omega) (by simp; omega) q hq
            simpa using this
          have hl1 : cs.length = es.length := by simpa using h1
          rw [hce r List.mem_cons_self]
          rw [detC_same rows (dc ++ cs) (de ++ es) (by simp; omega) fun i g1 g2 q hq => ?_]
          · rw [ih es (dc ++ [c]) (de ++ [e]) hl1 (by simp; omega) h3' fun i g1 g2 q hq => ?_]
            by_cases hi : i < dc.length
            · rw [List.getElem_append_left hi, List.getElem_append_left (by omega)]
              exact h4 i hi (by omega) q hq
            · have : i = dc.length := by simp at g1; omega
              subst this
              rw [List.getElem_append_right (by omega), List.getElem_append_right (by omega)]
              simp
              exact hce q hq
          · by_cases hi : i < dc.length
            · rw [List.getElem_append_left hi, List.getElem_append_left (by omega)]
              exact h4 i hi (by omega) q (List.mem_cons_of_mem _ hq)
            · rw [List.getElem_append_right (by omega), List.getElem_append_right (by omega)]
              have e := h3' (i - dc.length) (by simp at g1; omega) (by simp at g1; omega) q (List.mem_cons_of_mem _ hq)
              rw [e]
              exact congrFun (get_idx es (by omega) _ _) q
    exact key C E [] [] hl rfl h (fun i h1 => absurd h1 (by simp))
end
/-- The determinant of the columns g 1 .. g m at the rows 1 .. m. -/
def detN (m : Nat) (g : Nat → Nat → Int) : Int := detC ((List.range m).map fun j => j + 1) ((List.range m).map fun j => g (j + 1))
def updC (g : Nat → Nat → Int) (c : Nat) (u : Nat → Int) : Nat → Nat → Int := fun d => if d = c then u else g d
theorem range_split (m j : Nat) (h : j < m) : List.range m = List.range j ++ j :: (List.range (m - j - 1)).map fun t => j + 1 + t := by
  refine List.ext_getElem (by simp; omega) fun i h1 h2 => ?_
  rw [List.getElem_range]
  rcases Nat.lt_trichotomy i j with hi | hi | hi
  · rw [List.getElem_append_left (by simpa using hi), List.getElem_range]
  · subst hi
    rw [List.getElem_append_right (by simp)]
    simp
  · rw [List.getElem_append_right (by simp; omega)]
    simp only [List.length_range, List.getElem_cons]
    rw [dif_neg (by omega)]
    simp
    omega
theorem upd_cols (m c : Nat) (g : Nat → Nat → Int) (u : Nat → Int) (h1 : 1 ≤ c) (h2 : c ≤ m) : (List.range m).map (fun j => updC g c u (j + 1)) = ((List.range (c - 1)).map fun j => g (j + 1)) ++ u :: ((List.range (m - c)).map fun t => g (c + 1 + t)) := by
  rw [range_split m (c - 1) (by omega), List.map_append, List.map_cons, List.map_map]
  congr 1
  · refine List.map_congr_left fun j hj => ?_
    have := List.mem_range.1 hj
    unfold updC
    rw [if_neg (by omega)]
  · congr 1
    · unfold updC; rw [if_pos (by omega)]
    · rw [show m - (c - 1) - 1 = m - c by omega]
      refine List.map_congr_left fun t _ => ?_
      simp only [Function.comp, updC]
      rw [if_neg (by omega), show c - 1 + 1 + t + 1 = c + 1 + t by omega]
theorem detN_add (m c : Nat) (g : Nat → Nat → Int) (u v : Nat → Int) (h1 : 1 ≤ c) (h2 : c ≤ m) : detN m (updC g c (fun r => u r + v r)) = detN m (updC g c u) + detN m (updC g c v) := by
  unfold detN
  rw [upd_cols m c g _ h1 h2, upd_cols m c g u h1 h2, upd_cols m c g v h1 h2]
  exact detC_lin u v _ _ _
theorem detN_zero (m c : Nat) (g : Nat → Nat → Int) (h1 : 1 ≤ c) (h2 : c ≤ m) : detN m (updC g c (fun _ => 0)) = 0 := by
  unfold detN
  rw [upd_cols m c g _ h1 h2]
  exact detC_zero _ _ _
theorem updC_self (g : Nat → Nat → Int) (c : Nat) : updC g c (g c) = g := by
  funext d; unfold updC; split
  · rename_i h; rw [h]
  · rfl
theorem detN_dup (m c d : Nat) (g : Nat → Nat → Int) (h1 : 1 ≤ c) (h2 : c ≤ m) (h3 : 1 ≤ d) (h4 : d ≤ m) (hcd : c ≠ d) : detN m (updC g c (g d)) = 0 := by
  unfold detN
  rw [upd_cols m c g _ h1 h2]
  rcases Nat.lt_or_ge d c with h | h
  · rw [range_split (c - 1) (d - 1) (by omega), List.map_append, List.map_cons, show d - 1 + 1 = d by omega, List.append_assoc]
    have := detC_dup (g d) ((List.range m).map fun j => j + 1) (((List.range (c - 1 - (d - 1) - 1)).map fun t => d - 1 + 1 + t).map fun j => g (j + 1)) ((List.range (d - 1)).map fun j => g (j + 1)) ((List.range (m - c)).map fun t => g (c + 1 + t))
    rw [List.append_assoc, List.cons_append] at this
    rw [show d - 1 + 1 = d by omega] at this
    exact this
  · rw [range_split (m - c) (d - c - 1) (by omega), List.map_append, List.map_cons, show c + 1 + (d - c - 1) = d by omega]
    have := detC_dup (g d) ((List.range m).map fun j => j + 1) ((List.range (d - c - 1)).map fun t => g (c + 1 + t)) ((List.range (c - 1)).map fun j => g (j + 1)) (((List.range (m - c - (d - c - 1) - 1)).map fun t => d - c - 1 + 1 + t).map fun t => g (c + 1 + t))
    rw [List.append_assoc, List.cons_append] at this
    exact this
theorem detN_congr (m : Nat) {g h : Nat → Nat → Int} (e : ∀ c r, 1 ≤ c → c ≤ m → 1 ≤ r → r ≤ m → g c r = h c r) : detN m g = detN m h := by
  unfold detN
  refine detC_same _ _ _ (by simp) fun i h1 h2 r hr => ?_
  obtain ⟨j, hj, rfl⟩ := List.mem_map.1 hr
  have := List.mem_range.1 hj
  simp at h1
  simp only [List.getElem_map, List.getElem_range]
  exact e _ _ (by omega) (by omega) (by omega) (by omega)
/-- The columns of the unit table. -/
def unitC (c r : Nat) : Int := if r = c then 1 else 0
theorem exD_none {r : Nat} {D : List (Nat → Int) → Int} : ∀ (rest done : List (Nat → Int)), (∀ c ∈ rest, c r = 0) → exD r D done rest = 0
  | [], _, _ => rfl
  | c :: rest, done, h => by
    simp only [exD]
    rw [h c List.mem_cons_self, exD_none rest _ fun d hd => h d (List.mem_cons_of_mem _ hd)]
    simp
theorem detC_unit : ∀ (L : List Nat), L.Pairwise (· ≠ ·) → detC L (L.map unitC) = 1
  | [], _ => rfl
  | r :: L, h => by
    rw [List.pairwise_cons] at h
    simp only [detC, List.map_cons, exD, List.nil_append]
    rw [detC_unit L h.2, exD_none _ _ fun c hc => ?_]
    · simp [unitC]
    · obtain ⟨d, hd, rfl⟩ := List.mem_map.1 hc
      exact if_neg (h.1 d hd)
theorem detN_unit (m : Nat) : detN m unitC = 1 := by
  unfold detN
  have := detC_unit ((List.range m).map fun j => j + 1) (by
    rw [List.pairwise_map]
    exact List.Pairwise.imp (fun {a b} (h : a ≠ b) => by omega) List.nodup_range)
  rw [List.map_map] at this
  exact this
end Go.Proofs.Ytpmadffgdfholaa.B
namespace Go.Proofs.Ytpmadffgdfholaa.B
open Go.RowKit Go.Proofs.YtpmadffgdfholaaW.PrintWords Go.Proofs.YtpmadffgdfholaaW.PrintLast Go.Proofs.YtpmadffgdfholaaW.PrintMore
theorem wrap_nat (i : Nat) (h : i < 4611686018427387904) : wrap64 ((i : Int) + 1) = ((i + 1 : Nat) : Int) := by unfold wrap64; omega
theorem drop_rd30 (l : List S30) (i : Nat) (h : i < l.length) : l.drop i = rd_T30 l (i : Int) :: l.drop (i + 1) := by
  rw [List.drop_eq_getElem_cons h]
  simp [rd_T30, List.getD, List.getElem?_eq_getElem h]
theorem wayOk_iff (n : Int) (x : S30) : wayOk n x = true ↔ 0 ≤ x.f0 ∧ x.f0 < n ∧ 0 ≤ x.f1 ∧ x.f1 < n ∧ x.f0 ≠ x.f1 ∧ 0 ≤ x.f2 ∧ x.f2 ≤ 1000 := by
  unfold wayOk mn mx
  simp only [Bool.not_eq_true', Bool.or_eq_false_iff, decide_eq_false_iff_not, beq_eq_false_iff_ne]
  constructor
  · rintro ⟨⟨⟨⟨h1, h2⟩, h3⟩, h4⟩, h5⟩
    split at h1 <;> split at h2 <;> refine ⟨?_, ?_, ?_, ?_, h3, ?_, ?_⟩ <;> omega
  · rintro ⟨h1, h2, h3, h4, h5, h6, h7⟩
    refine ⟨⟨⟨⟨?_, ?_⟩, h5⟩, ?_⟩, ?_⟩
    · split <;> omega
    · split <;> omega
    · omega
    · omega
theorem town_l0 (n : Int) (l : List S30) (hl : l.length < 1000000) : ∀ d i k : Nat, i + d = l.length → trishawref03_Town.l0 (k + 2 * d + 1) n l (i : Int) = some (if (l.drop i).all (wayOk n) then 0 else 2)
  | 0, i, k, h => by
    simp only [trishawref03_Town.l0]
    rw [if_neg (by omega), List.drop_eq_nil_of_le (by omega)]
    simp
  | d + 1, i, k, h => by
    have hi : i < l.length := by omega
    rw [show k + 2 * (d + 1) + 1 = (k + 2 * d + 1 + 1) + 1 from by omega, drop_rd30 l i hi]
    simp only [trishawref03_Town.l0, List.all_cons]
    rw [if_pos (by omega), if_pos (by omega)]
    have ih := town_l0 n l hl d (i + 1) k (by omega)
    have hw := wrap_nat i (by omega)
    have j2t : trishawref03_Town.j2 (k + 2 * d + 1 + 1) n l (i : Int) true = some 2 := by simp [trishawref03_Town.j2]
    have j2f : trishawref03_Town.j2 (k + 2 * d + 1 + 1) n l (i : Int) false = some (if (l.drop (i + 1)).all (wayOk n) then 0 else 2) := by
      simp only [trishawref03_Town.j2, Bool.false_eq_true, if_false, hw]
      exact ih
    generalize rd_T30 l (i : Int) = x
    have hx := wayOk_iff n x
    by_cases hok : wayOk n x = true
    · obtain ⟨h1, h2, h3, h4, h5, h6, h7⟩ := hx.1 hok
      rw [if_neg (by omega), if_neg (by omega), if_neg (by omega), if_neg (by omega), if_neg h5, if_neg (by omega), show decide (x.f2 > 1000) = false from decide_eq_false (by omega), j2f]
      simp [hok]
    · have hb : wayOk n x = false := Bool.eq_false_iff.mpr hok
      simp only [hb, Bool.false_and, Bool.false_eq_true, if_false]
      by_cases t1 : x.f0 < 0
      · rw [if_pos t1, j2t]
      rw [if_neg t1]
      by_cases t2 : x.f0 ≥ n
      · rw [if_pos t2, j2t]
      rw [if_neg t2]
      by_cases t3 : x.f1 < 0
      · rw [if_pos t3, j2t]
      rw [if_neg t3]
      by_cases t4 : x.f1 ≥ n
      · rw [if_pos t4, j2t]
      rw [if_neg t4]
      by_cases t5 : x.f0 = x.f1
      · rw [if_pos t5, j2t]
      rw [if_neg t5]
      by_cases t6 : x.f2 < 0
      · rw [if_pos t6, j2t]
      rw [if_neg t6]
      by_cases t7 : x.f2 > 1000
      · rw [show decide (x.f2 > 1000) = true from decide_eq_true t7, j2t]
      · exact absurd (hx.2 ⟨by omega, by omega, by omega, by omega, t5, by omega, by omega⟩) hok
theorem town_eq (n : Int) (l : List S30) (k : Nat) (hk : 2 * l.length + 2 ≤ k ∨ 62 ≤ k) : trishawref03_Town.f k n l = some (readB n l) := by
  have key : ∀ k, (2 * l.length + 2 ≤ k ∨ 62 ≤ k) → ∀ b : Bool, trishawref03_Town.j0 k n l b = some (if b = true then 2 else if 30 < l.length then 3 else if l.all (wayOk n) then 0 else 2) := by
    intro k hk b
    obtain ⟨k, rfl⟩ : ∃ k', k = k' + 1 := ⟨k - 1, by omega⟩
    simp only [trishawref03_Town.j0]
    cases b with
    | true => simp
    | false =>
      simp only [Bool.false_eq_true, if_false]
      by_cases h3 : 30 < l.length
      · rw [if_pos (by omega), if_pos h3]
      · rw [if_neg (by omega), if_neg h3]
        have := town_l0 n l (by omega) l.length 0 (k - 2 * l.length - 1) (by omega)
        rw [show k - 2 * l.length - 1 + 2 * l.length + 1 = k from by omega] at this
        simpa using this
  unfold trishawref03_Town.f readB
  by_cases h1 : n < 2
  · rw [if_pos h1, key k hk, if_pos rfl, if_pos (Or.inl h1)]
  · rw [if_neg h1, key k hk]
    by_cases h2 : n > 7
    · rw [show decide (n > 7) = true from decide_eq_true h2, if_pos rfl, if_pos (Or.inr h2)]
    · rw [show decide (n > 7) = false from decide_eq_false h2, if_neg (show ¬ (false = true) by decide), if_neg (show ¬ (n < 2 ∨ 7 < n) by omega)]
/-- A town that is taken. -/
theorem readB_ok {n : Int} {l : List S30} (h : readB n l = 0) : 2 ≤ n ∧ n ≤ 7 ∧ l.length ≤ 30 ∧ ∀ x ∈ l, wayOk n x = true := by
  unfold readB at h
  split at h
  · exact absurd h (by decide)
  split at h
  · exact absurd h (by decide)
  split at h
  · rename_i h1 h2 h3
    exact ⟨by omega, by omega, by omega, List.all_eq_true.1 h3⟩
  · exact absurd h (by decide)
end Go.Proofs.Ytpmadffgdfholaa.B
namespace Go.Proofs.Ytpmadffgdfholaa.B
open Go.RowKit Go.Proofs.YtpmadffgdfholaaW.PrintWords Go.Proofs.YtpmadffgdfholaaW.PrintLast Go.Proofs.YtpmadffgdfholaaW.PrintMore
def cnt (s : Nat) : Nat := ((List.range 7).filter fun b => s.testBit b).length
theorem fin_and : ∀ s : Fin 128, ∀ a : Fin 7, (Go.bits .and .i64 (shr .i64 ((s.val : Nat) : Int) ((a.val : Nat) : Int)) 1 = 1) ↔ s.val.testBit a.val = true := by decide +kernel
theorem fin_or : ∀ s : Fin 128, ∀ a : Fin 7, Go.bits .or .i64 ((s.val : Nat) : Int) (shl .i64 1 ((a.val : Nat) : Int)) = ((s.val ||| (1 <<< a.val) : Nat) : Int) := by decide +kernel
theorem fin_mod : ∀ s : Fin 128, ∀ a : Fin 7, Int.tmod (shr .i64 ((s.val : Nat) : Int) ((a.val : Nat) : Int)) 2 = if s.val.testBit a.val then 1 else 0 := by decide +kernel
theorem fin_add : ∀ s : Fin 128, ∀ a : Fin 7, s.val.testBit a.val = false → wrap64 (((s.val : Nat) : Int) + shl .i64 1 ((a.val : Nat) : Int)) = ((s.val ||| (1 <<< a.val) : Nat) : Int) := by decide +kernel
theorem fin_lt : ∀ n : Fin 8, ∀ s : Fin 128, ∀ a : Fin 7, s.val < 2 ^ n.val → a.val < n.val → s.val ||| (1 <<< a.val) < 2 ^ n.val := by decide +kernel
theorem fin_cnt : ∀ s : Fin 128, ∀ a : Fin 7, s.val.testBit a.val = false → cnt (s.val ||| (1 <<< a.val)) = cnt s.val + 1 := by decide +kernel
theorem fin_same : ∀ s : Fin 128, ∀ a : Fin 7, s.val.testBit a.val = true → s.val ||| (1 <<< a.val) = s.val := by decide +kernel
theorem fin_le : ∀ n : Fin 8, ∀ s : Fin 128, s.val < 2 ^ n.val → cnt s.val ≤ n.val := by decide +kernel
/-- A set that a street has been gone along. -/
def stepS (s : Nat) (x : S30) : Nat := if s.testBit x.f0.toNat then s ||| (1 <<< x.f1.toNat) else s
def passS (l : List S30) (L : List Int) (s : Nat) : Nat := L.foldl (fun s i => stepS s (rd_T30 l i)) s
def itS (l : List S30) (L : List Int) : Nat → Nat → Nat
  | 0, s => s
  | d + 1, s => itS l L d (passS l L s)
theorem it_fix {l : List S30} {L : List Int} {s : Nat} (h : passS l L s = s) : ∀ d, itS l L d s = s
  | 0 => rfl
  | d + 1 => by rw [itS, h]; exact it_fix h d
section
variable {n : Nat} {l : List S30} {L : List Int}
theorem step_facts (hn : n ≤ 7) {s : Nat} (hs : s < 2 ^ n) {x : S30} (hx : wayOk n x = true) : stepS s x < 2 ^ n ∧ (stepS s x = s ∨ cnt (stepS s x) = cnt s + 1) := by
  obtain ⟨h1, h2, h3, h4, _⟩ := (wayOk_iff n x).1 hx
  have h128 : s < 128 := Nat.lt_of_lt_of_le hs (show 2 ^ n ≤ 2 ^ 7 from Nat.pow_le_pow_right (by decide) hn)
  unfold stepS
  split
  · refine ⟨fin_lt ⟨n, by omega⟩ ⟨s, h128⟩ ⟨x.f1.toNat, by omega⟩ hs (by simp only []; omega), ?_⟩
    cases hb : s.testBit x.f1.toNat with
    | true => exact .inl (fin_same ⟨s, h128⟩ ⟨x.f1.toNat, by omega⟩ hb)
    | false => exact .inr (fin_cnt ⟨s, h128⟩ ⟨x.f1.toNat, by omega⟩ hb)
  · exact ⟨hs, .inl rfl⟩
/-- The indices of a list are streets, and the streets are streets of the town. -/
def InL (n : Nat) (l : List S30) (L : List Int) : Prop := ∀ i ∈ L, 0 ≤ i ∧ i < (l.length : Int) ∧ wayOk n (rd_T30 l i) = true
theorem pass_facts (hn : n ≤ 7) : ∀ (L : List Int), InL n l L → ∀ s, s < 2 ^ n → passS l L s < 2 ^ n ∧ (passS l L s = s ∨ cnt s < cnt (passS l L s))
  | [], _, s, hs => ⟨hs, .inl rfl⟩
  | i :: L, hL, s, hs => by
    obtain ⟨a1, a2⟩ := step_facts hn hs (hL i List.mem_cons_self).2.2
    obtain ⟨b1, b2⟩ := pass_facts hn L (fun j hj => hL j (List.mem_cons_of_mem _ hj)) _ a1
    refine ⟨b1, ?_⟩
    show passS l L (stepS s (rd_T30 l i)) = s ∨ cnt s < cnt (passS l L (stepS s (rd_T30 l i)))
    rcases a2 with a2 | a2
    · rw [a2] at b2 ⊢
      exact b2
    · rcases b2 with b2 | b2
      · rw [b2]; exact .inr (by omega)
      · exact .inr (by omega)
theorem it_lt (hn : n ≤ 7) (hL : InL n l L) : ∀ d s, s < 2 ^ n → itS l L d s < 2 ^ n
  | 0, _, h => h
  | d + 1, s, h => it_lt hn hL d _ (pass_facts hn L hL s h).1
/-- Enough rounds are enough. -/
theorem it_stop (hn : n ≤ 7) (hL : InL n l L) : ∀ c s, s < 2 ^ n → n ≤ cnt s + c → itS l L (c + 1) s = itS l L c s
  | 0, s, hs, h => by
    rcases (pass_facts hn L hL s hs).2 with e | e
    · exact it_fix e 1
    · have := fin_le ⟨n, by omega⟩ ⟨passS l L s, Nat.lt_of_lt_of_le (pass_facts hn L hL s hs).1 (show 2 ^ n ≤ 2 ^ 7 from Nat.pow_le_pow_right (by decide) hn)⟩ (pass_facts hn L hL s hs).1
      simp only [] at this
      omega
  | c + 1, s, hs, h => by
    rcases (pass_facts hn L hL s hs).2 with e | e
    · rw [it_fix e, it_fix e]
    · show itS l L (c + 1) (passS l L s) = itS l L c (passS l L s)
      exact it_stop hn hL c _ (pass_facts hn L hL s hs).1 (by omega)
theorem drop_rdI4 (ps : List Int) (i : Nat) (h : i < ps.length) : ps.drop i = rd ps (i : Int) :: ps.drop (i + 1) := by
  rw [List.drop_eq_getElem_cons h]
  simp [rd, List.getD, List.getElem?_eq_getElem h]
theorem rd_mem4 (cols : List Int) (p : Nat) (h : p < cols.length) : rd cols (p : Int) ∈ cols := by
  simp [rd, List.getD, List.getElem?_eq_getElem h]
theorem int_nat {a : Int} (h : 0 ≤ a) : a = ((a.toNat : Nat) : Int) := by omega
/-- One round of the code's. -/
theorem reach_l1 (hn : n ≤ 7) (hL : InL n l L) (hl : L.length < 1000) (N j : Int) : ∀ (d q k s : Nat), q + d = L.length → s < 2 ^ n →
    branch_town_reach.l1 (k + d + 1) L (s : Int) N j L (L.length : Int) (q : Int) (n : Int) l = branch_town_reach.l0 k L ((passS l (L.drop q) s : Nat) : Int) N (wrap64 (j + 1)) (n : Int) l
  | 0, q, k, s, h, _ => by
    simp only [branch_town_reach.l1]
    rw [if_neg (by omega), List.drop_eq_nil_of_le (by omega)]
    rfl
  | d + 1, q, k, s, h, hs => by
    have hq : q < L.length := by omega
    have hw := wrap_nat q (by omega)
    obtain ⟨i0, i1, hx⟩ := hL _ (rd_mem4 L q hq)
    have ih := reach_l1 hn hL hl N j d (q + 1) k (stepS s (rd_T30 l (rd L (q : Int)))) (by omega) (step_facts hn hs hx).1
    have h128 : s < 128 := Nat.lt_of_lt_of_le hs (show 2 ^ n ≤ 2 ^ 7 from Nat.pow_le_pow_right (by decide) hn)
    rw [drop_rdI4 L q hq]
    show _ = branch_town_reach.l0 k L ((passS l (L.drop (q + 1)) (stepS s (rd_T30 l (rd L (q : Int)))) : Nat) : Int) N (wrap64 (j + 1)) (n : Int) l
    rw [← ih, show k + (d + 1) + 1 = (k + d + 1) + 1 from by omega]
    clear ih
    generalize k + d + 1 = qq
    simp only [branch_town_reach.l1, hw]
    rw [if_pos (by omega), if_pos (by omega), if_pos (by omega), if_pos i0, if_pos i1]
    generalize rd_T30 l (rd L (q : Int)) = x at hx
    obtain ⟨h1, h2, h3, h4, _⟩ := (wayOk_iff n x).1 hx
    have f1 := fin_and ⟨s, h128⟩ ⟨x.f0.toNat, by omega⟩
    have f2 := fin_or ⟨s, h128⟩ ⟨x.f1.toNat, by omega⟩
    simp only [← int_nat h1, ← int_nat h3] at f1 f2
    rw [if_pos h1]
    unfold stepS
    by_cases t : s.testBit x.f0.toNat = true
    · rw [if_pos (f1.2 t), if_pos h3, if_pos t, f2]
    · rw [if_neg (fun hh => t (f1.1 hh)), if_neg t]
theorem reach_l0 (hn : n ≤ 7) (hL : InL n l L) (hl : L.length < 1000) : ∀ (d j k s : Nat), j + d = n → s < 2 ^ n →
    branch_town_reach.l0 (k + (L.length + 2) * d + 1) L (s : Int) (n : Int) (j : Int) (n : Int) l = some ((itS l L d s : Nat) : Int)
  | 0, j, k, s, h, _ => by
    simp only [branch_town_reach.l0, Nat.mul_zero, Nat.add_zero]
    rw [if_neg (by omega)]
    rfl
  | d + 1, j, k, s, h, hs => by
    have hw := wrap_nat j (by omega)
    have ih := reach_l0 hn hL hl d (j + 1) k (passS l L s) (by omega) (pass_facts hn L hL s hs).1
    have h1 := reach_l1 hn hL hl (n : Int) (j : Int) L.length 0 (k + (L.length + 2) * d + 1) s (by omega) hs
    rw [show k + (L.length + 2) * (d + 1) + 1 = (k + (L.length + 2) * d + 1 + L.length + 1) + 1 from by rw [Nat.mul_succ]; omega]
    generalize hq : k + (L.length + 2) * d + 1 + L.length + 1 = qq at h1
    simp only [branch_town_reach.l0]
    rw [if_pos (by omega)]
    rw [List.drop_zero, hw] at h1
    exact h1.trans ih
/-- One round of the reference's. -/
theorem reached_l1 (hn : n ≤ 7) (hL : InL n l L) (hl : L.length < 1000) : ∀ (d q k s : Nat) (g : Bool), q + d = L.length → s < 2 ^ n →
    trishawref03_reached.l1 (k + d + 1) l L (s : Int) g (q : Int) = trishawref03_reached.l0 k l L ((passS l (L.drop q) s : Nat) : Int) (g || decide (passS l (L.drop q) s ≠ s))
  | 0, q, k, s, g, h, _ => by
    simp only [trishawref03_reached.l1]
    rw [if_neg (by omega), List.drop_eq_nil_of_le (by omega)]
    simp [passS]
  | d + 1, q, k, s, g, h, hs => by
    have hq : q < L.length := by omega
    have hw := wrap_nat q (by omega)
    obtain ⟨i0, i1, hx⟩ := hL _ (rd_mem4 L q hq)
    have sf := step_facts hn hs hx
    have ih := fun g => reached_l1 hn hL hl d (q + 1) k (stepS s (rd_T30 l (rd L (q : Int)))) g (by omega) sf.1
    have pf := pass_facts (l := l) hn (L.drop (q + 1)) (fun i hi => hL i (List.mem_of_mem_drop hi)) _ sf.1
    have h128 : s < 128 := Nat.lt_of_lt_of_le hs (show 2 ^ n ≤ 2 ^ 7 from Nat.pow_le_pow_right (by decide) hn)
    rw [drop_rdI4 L q hq]
    show _ = trishawref03_reached.l0 k l L ((passS l (L.drop (q + 1)) (stepS s (rd_T30 l (rd L (q : Int)))) : Nat) : Int) (g || decide (passS l (L.drop (q + 1)) (stepS s (rd_T30 l (rd L (q : Int)))) ≠ s))
    rw [show k + (d + 1) + 1 = (k + d + 1) + 1 from by omega]
    generalize k + d + 1 = qq at ih
    simp only [trishawref03_reached.l1, hw]
    rw [if_pos (by omega), if_pos (by omega), if_pos i0, if_pos i1]
    generalize rd_T30 l (rd L (q : Int)) = x at hx ih sf pf
    obtain ⟨h1, h2, h3, h4, _⟩ := (wayOk_iff n x).1 hx
    have f1 := fin_mod ⟨s, h128⟩ ⟨x.f0.toNat, by omega⟩
    have f2 := fin_mod ⟨s, h128⟩ ⟨x.f1.toNat, by omega⟩
    have f3 := fin_add ⟨s, h128⟩ ⟨x.f1.toNat, by omega⟩
    have f4 := fin_same ⟨s, h128⟩ ⟨x.f1.toNat, by omega⟩
    have f5 := fin_cnt ⟨s, h128⟩ ⟨x.f1.toNat, by omega⟩
    simp only [← int_nat h1, ← int_nat h3] at f1 f2 f3 f4 f5
    rw [if_pos h1, f1]
    unfold stepS at ih sf pf ⊢
    by_cases t : s.testBit x.f0.toNat = true
    · simp only [t, if_true] at ih sf pf ⊢
      rw [if_pos h3, f2]
      cases tb : s.testBit x.f1.toNat with
      | true =>
        rw [f4 tb] at ih ⊢
        rw [if_neg (by decide)]
        exact ih g
      | false =>
        rw [if_pos (by decide), f3 tb, ih true]
        have hne : passS l (L.drop (q + 1)) (s ||| 1 <<< x.f1.toNat) ≠ s := by
          intro hh
          have := f5 tb
          rcases pf.2 with e | e
          · rw [e] at hh; rw [hh] at this; omega
          · rw [hh] at e; omega
        simp [hne]
    · simp only [t, if_false, Bool.false_eq_true] at ih sf pf ⊢
      rw [if_neg (by decide)]
      exact ih g
theorem reached_l0 (hn : n ≤ 7) (hL : InL n l L) (hl : L.length < 1000) : ∀ (c k s : Nat), s < 2 ^ n → n ≤ cnt s + c →
    trishawref03_reached.l0 (k + (L.length + 2) * (c + 1) + 1) l L (s : Int) true = some ((itS l L c s : Nat) : Int)
  | c, k, s, hs, h => by
    have h1 := reached_l1 hn hL hl L.length 0 (k + (L.length + 2) * c + 1) s false (by omega) hs
    rw [show k + (L.length + 2) * (c + 1) + 1 = (k + (L.length + 2) * c + 1 + L.length + 1) + 1 from by rw [Nat.mul_succ]; omega]
    generalize hq : k + (L.length + 2) * c + 1 + L.length + 1 = qq at h1
    simp only [trishawref03_reached.l0, if_true]
    rw [List.drop_zero] at h1
    refine h1.trans ?_
    have pf := pass_facts hn L hL s hs
    by_cases e : passS l L s = s
    · rw [e, it_fix e]
      simp only [ne_eq, not_true_eq_false, decide_false, Bool.or_false]
      simp only [trishawref03_reached.l0]
      rfl
    · simp only [ne_eq, e, not_false_eq_true, decide_true, Bool.or_true]
      cases c with
      | zero =>
        have := it_stop hn hL 0 s hs (by omega)
        exact absurd this e
      | succ c =>
        have := reached_l0 hn hL hl c k (passS l L s) pf.1 (by rcases pf.2 with e2 | e2; exact absurd e2 e; omega)
        exact this
end
/-- Both closures. -/
theorem reach_both {n : Nat} {l : List S30} {L : List Int} (hn2 : 1 ≤ n) (hn : n ≤ 7) (hL : InL n l L) (hl : L.length < 1000) :
    ∃ r : Nat, r < 2 ^ n ∧ ∃ K, ∀ k, K ≤ k → branch_town_reach.f k (n : Int) l L = some (r : Int) ∧ trishawref03_reached.f k l L = some (r : Int) := by
  have h1 : (1 : Nat) < 2 ^ n := Nat.one_lt_two_pow (by omega)
  have hc : cnt 1 = 1 := by decide +kernel
  refine ⟨itS l L n 1, it_lt hn hL n 1 h1, (L.length + 2) * (n + 1) + 1, fun k hk => ⟨?_, ?_⟩⟩
  · have := reach_l0 hn hL hl n 0 (k - (L.length + 2) * n - 1) 1 (by omega) h1
    rw [show k - (L.length + 2) * n - 1 + (L.length + 2) * n + 1 = k from by have : (L.length + 2) * (n + 1) = (L.length + 2) * n + (L.length + 2) := Nat.mul_succ _ _; omega] at this
    exact this
  · have := reached_l0 hn hL hl n (k - (L.length + 2) * (n + 1) - 1) 1 h1 (by omega)
    rw [show k - (L.length + 2) * (n + 1) - 1 + (L.length + 2) * (n + 1) + 1 = k from by omega] at this
    exact this
end Go.Proofs.Ytpmadffgdfholaa.B
namespace Go.Proofs.Ytpmadffgdfholaa.B
open Go.RowKit Go.Proofs.YtpmadffgdfholaaW.PrintWords Go.Proofs.YtpmadffgdfholaaW.PrintLast Go.Proofs.YtpmadffgdfholaaW.PrintMore
attribute [local go_sem] max2_int min2_int max_two min_two max_three min_three max_four min_four   -- for this text's walks alone
set_option linter.unusedVariables false
set_option linter.unusedSimpArgs false
def branch_Reach.f (k : Nat) (a0 : Int) (l1 : List (S30)) : Option (Int × Int) := (branch_read.f a0 l1).bind fun t101 => (if t101 = 0 then ((branch_town_all.f k a0 l1).bind fun t103 => ((branch_town_reach.f k a0 l1 t103).bind fun t106 => (some (t106, 0)))) else (some (0, t101)))
def branch_Is.f (k : Nat) (a0 : Int) (l1 : List (S30)) (l2 : List Int) : Option (Int × Bool × Int) := (branch_read.f a0 l1).bind fun t113 => (if t113 = 0 then ((branch_town_is.f k a0 l1 l2).bind fun bt115 => (some (bt115.1, bt115.2, 0))) else (some (0, false, t113)))
end Go.Proofs.Ytpmadffgdfholaa.B
namespace Go.Proofs.Ytpmadffgdfholaa.B
open Go.RowKit Go.Proofs.YtpmadffgdfholaaW.PrintWords Go.Proofs.YtpmadffgdfholaaW.PrintLast Go.Proofs.YtpmadffgdfholaaW.PrintMore
def idx (l : List S30) : List Int := (List.range l.length).map fun q : Nat => (q : Int)
theorem idx_length (l : List S30) : (idx l).length = l.length := by simp [idx]
theorem all_code (l : List S30) (hl : l.length < 1000) : ∀ (d i k : Nat), i + d = l.length → branch_town_all.l0 (k + d + 1) ((List.range i).map fun q : Nat => (q : Int)) (l.length : Int) (i : Int) = some (idx l)
  | 0, i, k, h => by
    obtain rfl : i = l.length := by omega
    simp only [branch_town_all.l0]
    rw [if_neg (by omega)]
    rfl
  | d + 1, i, k, h => by
    have ih := all_code l hl d (i + 1) k (by omega)
    have hw := wrap_nat i (by omega)
    rw [← ih, show k + (d + 1) + 1 = (k + d + 1) + 1 from by omega]
    clear ih
    generalize k + d + 1 = qq
    simp only [branch_town_all.l0, hw]
    rw [if_pos (by omega), if_pos (by simp; omega), List.range_succ, List.map_append]
    rfl
theorem all_ref (l : List S30) (hl : l.length < 1000) : ∀ (d i k : Nat), i + d = l.length → trishawref03_all.l0 (k + d + 1) l ((List.range i).map fun q : Nat => (q : Int)) (i : Int) = some (idx l)
  | 0, i, k, h => by
    obtain rfl : i = l.length := by omega
    simp only [trishawref03_all.l0]
    rw [if_neg (by omega)]
    rfl
  | d + 1, i, k, h => by
    have ih := all_ref l hl d (i + 1) k (by omega)
    have hw := wrap_nat i (by omega)
    rw [← ih, show k + (d + 1) + 1 = (k + d + 1) + 1 from by omega]
    clear ih
    generalize k + d + 1 = qq
    simp only [trishawref03_all.l0, hw]
    rw [if_pos (by omega), if_pos (by simp; omega), List.range_succ, List.map_append]
    rfl
theorem rd_T30_mem (l : List S30) (i : Nat) (h : i < l.length) : rd_T30 l (i : Int) ∈ l := by
  simp [rd_T30, List.getD, List.getElem?_eq_getElem h]
theorem idx_in {n : Nat} {l : List S30} (hx : ∀ x ∈ l, wayOk n x = true) : InL n l (idx l) := by
  intro i hi
  obtain ⟨q, hq, rfl⟩ := List.mem_map.1 hi
  have := List.mem_range.1 hq
  exact ⟨by omega, by omega, hx _ (rd_T30_mem l q this)⟩
theorem reach_eq (n : Int) (l : List S30) : ∃ r t : Int, ∃ K, ∀ k, K ≤ k → branch_Reach.f k n l = some (r, t) ∧ trishawref03_Reach.f k n l = some (r, t) := by
  by_cases hr : readB n l = 0
  · obtain ⟨h2, h7, h30, hx⟩ := readB_ok hr
    obtain ⟨m, rfl⟩ := Int.eq_ofNat_of_zero_le (show 0 ≤ n by omega)
    obtain ⟨r, _, K, hK⟩ := reach_both (n := m) (l := l) (L := idx l) (by omega) (by omega) (idx_in hx) (by rw [idx_length]; omega)
    refine ⟨r, 0, K + l.length + 100, fun k hk => ?_⟩
    obtain ⟨a, b⟩ := hK k (by omega)
    have c1 := all_code l (by omega) l.length 0 (k - l.length - 1) (by omega)
    have c2 := all_ref l (by omega) l.length 0 (k - l.length - 1) (by omega)
    rw [show k - l.length - 1 + l.length + 1 = k from by omega] at c1 c2
    replace c1 : branch_town_all.l0 k [] (l.length : Int) 0 = some (idx l) := c1
    replace c2 : trishawref03_all.l0 k l [] 0 = some (idx l) := c2
    unfold branch_Reach.f trishawref03_Reach.f branch_read.f branch_town_all.f trishawref03_all.f
    rw [town_eq _ _ k (.inr (by omega)), hr]
    simp only [Option.bind_some, if_true]
    rw [c1, c2, Option.bind_some, Option.bind_some, a, b]
    exact ⟨rfl, rfl⟩
  · refine ⟨0, readB n l, 100, fun k hk => ?_⟩
    unfold branch_Reach.f trishawref03_Reach.f branch_read.f
    rw [town_eq _ _ k (.inr (by omega)), Option.bind_some, Option.bind_some]
    exact ⟨by rw [if_neg hr], by rw [if_neg hr]⟩
theorem fin_par : ∀ s : Fin 128, (Go.bits .and .i64 ((s.val : Nat) : Int) 1 == 0) = (Int.tmod ((s.val : Nat) : Int) 2 == 0) := by decide +kernel
theorem fin_and0 : ∀ s : Fin 128, ∀ a : Fin 7, (Go.bits .and .i64 (shr .i64 ((s.val : Nat) : Int) ((a.val : Nat) : Int)) 1 = 0) ↔ s.val.testBit a.val = false := by decide +kernel
theorem fin_shl : ∀ n : Fin 8, shl .i64 1 ((n.val : Nat) : Int) = ((2 ^ n.val : Nat) : Int) := by decide +kernel
theorem isSet_eq {m : Nat} (hm : m ≤ 7) (l : List S30) (s : Int) : branch_town_isSet.f (m : Int) l s = trishawref03_IsSet.f (m : Int) s ∧ ∃ b, trishawref03_IsSet.f (m : Int) s = some b ∧ (b = true → 0 < s ∧ s < 128) := by
  have e1 := fin_shl ⟨m, by omega⟩
  simp only [] at e1
  have hp : 2 ^ m ≤ 2 ^ 7 := Nat.pow_le_pow_right (by decide) hm
  have hp1 : 1 ≤ 2 ^ m := Nat.one_le_two_pow
  unfold branch_town_isSet.f trishawref03_IsSet.f branch_town_everybody.f
  rw [e1]
  generalize 2 ^ m = p at hp hp1
  have e2 : wrap64 (((p : Nat) : Int) - 1) = (p : Int) - 1 := by unfold wrap64; omega
  rw [e2]
  by_cases h0 : s > 0
  · rw [if_pos h0, if_pos h0, if_pos (by omega), if_pos (by omega), Option.bind_some]
    by_cases h1 : s < (p : Int)
    · rw [if_pos (by omega), if_pos h1]
      have := fin_par ⟨s.toNat, by omega⟩
      simp only [← int_nat (show 0 ≤ s by omega)] at this
      exact ⟨by rw [this], _, rfl, fun _ => ⟨by omega, by omega⟩⟩
    · rw [if_neg (by omega), if_neg h1]
      exact ⟨rfl, false, rfl, fun h => absurd h (by decide)⟩
  · rw [if_neg h0, if_neg h0]
    exact ⟨rfl, false, rfl, fun h => absurd h (by decide)⟩
/-- The streets that enter, from street i on. -/
def entR (l : List S30) (s : Nat) : Nat → Nat → List Int → List Int
  | 0, _, acc => acc
  | d + 1, i, acc => entR l s d (i + 1) (if s.testBit (rd_T30 l (i : Int)).f0.toNat = false ∧ s.testBit (rd_T30 l (i : Int)).f1.toNat = true then acc ++ [(i : Int)] else acc)
section
variable {n : Int} {l : List S30} {s : Nat}
theorem ent_code (hn : n ≤ 7) (hl : l.length < 1000) (hx : ∀ x ∈ l, wayOk n x = true) (hs : s < 128) : ∀ (d i k : Nat) (acc : List Int), i + d = l.length → acc.length ≤ i →
    branch_town_entering.l0 (k + d + 1) (s : Int) acc l (l.length : Int) (i : Int) = some (entR l s d i acc)
  | 0, i, k, acc, h, _ => by
    simp only [branch_town_entering.l0]
    rw [if_neg (by omega)]
    rfl
  | d + 1, i, k, acc, h, ha => by
    have hi : i < l.length := by omega
    have hw := wrap_nat i (by omega)
    have hok := hx _ (rd_T30_mem l i hi)
    have ih := fun acc ha => ent_code hn hl hx hs d (i + 1) k acc (by omega) ha
    rw [show k + (d + 1) + 1 = (k + d + 1) + 1 from by omega]
    generalize k + d + 1 = qq at ih
    simp only [branch_town_entering.l0, hw, entR]
    rw [if_pos (by omega), if_pos (by omega), if_pos (by omega)]
    generalize rd_T30 l (i : Int) = x at hok
    obtain ⟨h1, h2, h3, h4, _⟩ := (wayOk_iff n x).1 hok
    have f1 := fin_and0 ⟨s, hs⟩ ⟨x.f0.toNat, by omega⟩
    have f2 := fin_and ⟨s, hs⟩ ⟨x.f1.toNat, by omega⟩
    simp only [← int_nat h1, ← int_nat h3] at f1 f2
    rw [if_pos h1]
    by_cases t0 : s.testBit x.f0.toNat = false
    · rw [if_pos (f1.2 t0), if_pos h3]
      by_cases t1 : s.testBit x.f1.toNat = true
      · rw [if_pos (f2.2 t1), if_pos (by omega), if_pos ⟨t0, t1⟩]
        exact ih _ (by simp; omega)
      · rw [if_neg (fun hh => t1 (f2.1 hh)), if_neg (fun hh => t1 hh.2)]
        exact ih _ (by omega)
    · rw [if_neg (fun hh => t0 (f1.1 hh)), if_neg (fun hh => t0 hh.1)]
      exact ih _ (by omega)
end
end Go.Proofs.Ytpmadffgdfholaa.B
namespace Go.Proofs.Ytpmadffgdfholaa.B
/-- Corners that are reached from s along streets of T. -/
inductive Rc (a b : Nat → Nat) (T : Nat → Prop) (s : Nat) : Nat → Prop
  | refl : Rc a b T s s
  | step {i : Nat} : T i → Rc a b T s (a i) → Rc a b T s (b i)
/-- The same, in k steps. -/
inductive Rk (a b : Nat → Nat) (T : Nat → Prop) (s : Nat) : Nat → Nat → Prop
  | refl : Rk a b T s 0 s
  | step {i k : Nat} : T i → Rk a b T s k (a i) → Rk a b T s (k + 1) (b i)
section
variable {n : Nat} {a b : Nat → Nat} {T U : Nat → Prop} {s c d : Nat}
theorem Rc.mono (h : ∀ i, T i → U i) (r : Rc a b T s c) : Rc a b U s c := by
  induction r with
  | refl => exact .refl
  | step t _ ih => exact .step (h _ t) ih
theorem Rc.trans (r : Rc a b T s c) (q : Rc a b T c d) : Rc a b T s d := by
  induction q with
  | refl => exact r
  | step t _ ih => exact .step t ih
theorem Rc.one {i : Nat} (t : T i) : Rc a b T (a i) (b i) := .step t .refl
theorem Rc.rk (r : Rc a b T s c) : ∃ k, Rk a b T s k c := by
  induction r with
  | refl => exact ⟨0, .refl⟩
  | step t _ ih => obtain ⟨k, h⟩ := ih; exact ⟨k + 1, .step t h⟩
/-- What is closed under the streets and has s has all that is reached. -/
theorem Rc.closed {S : Nat → Prop} (hs : S s) (h : ∀ i, T i → S (a i) → S (b i)) (r : Rc a b T s c) : S c := by
  induction r with
  | refl => exact hs
  | step t _ ih => exact h _ t ih
theorem least_nat {P : Nat → Prop} (h : ∃ k, P k) : ∃ k, P k ∧ ∀ j, j < k → ¬ P j := by
  obtain ⟨k, hk⟩ := h
  induction k using Nat.strongRecOn with
  | _ k ih =>
    by_cases hj : ∃ j, j < k ∧ P j
    · obtain ⟨j, h1, h2⟩ := hj; exact ih j h1 h2
    · exact ⟨k, hk, fun j h1 h2 => hj ⟨j, h1, h2⟩⟩
/-- A branching: the street that leads to each corner but 0. -/
structure IsB (n : Nat) (a b : Nat → Nat) (T : Nat → Prop) (f : Nat → Nat) : Prop where
  on : ∀ c, 0 < c → c < n → T (f c) ∧ b (f c) = c
  all : ∀ c, c < n → Rc a b (fun i => ∃ c, 0 < c ∧ c < n ∧ i = f c) 0 c
theorem IsB.mono {f : Nat → Nat} (h : IsB n a b T f) (hT : ∀ i, T i → U i) : IsB n a b U f :=
  ⟨fun c h0 h1 => ⟨hT _ (h.on c h0 h1).1, (h.on c h0 h1).2⟩, h.all⟩
theorem IsB.within {f : Nat → Nat} (h : IsB n a b T f) (hU : ∀ c, 0 < c → c < n → U (f c)) : IsB n a b U f :=
  ⟨fun c h0 h1 => ⟨hU c h0 h1, (h.on c h0 h1).2⟩, h.all⟩
theorem IsB.congr {f g : Nat → Nat} (h : IsB n a b T f) (e : ∀ c, 0 < c → c < n → f c = g c) : IsB n a b T g :=
  ⟨fun c h0 h1 => e c h0 h1 ▸ h.on c h0 h1, fun c hc => (h.all c hc).mono fun _ ⟨c, h0, h1, q⟩ => ⟨c, h0, h1, q.trans (e c h0 h1)⟩⟩
/-- If all corners are reached, there is a branching. -/
theorem exists_branching (hT : ∀ i, T i → a i < n) (h : ∀ c, c < n → Rc a b T 0 c) : ∃ f, IsB n a b T f := by
  have hd : ∀ c, ∃ k, c < n → Rk a b T 0 k c ∧ ∀ j, j < k → ¬ Rk a b T 0 j c := by
    intro c
    by_cases hc : c < n
    · obtain ⟨k, hk⟩ := least_nat (h c hc).rk
      exact ⟨k, fun _ => hk⟩
    · exact ⟨0, fun h => absurd h hc⟩
  obtain ⟨d, hd⟩ : ∃ d : Nat → Nat, ∀ c, c < n → Rk a b T 0 (d c) c ∧ ∀ j, j < d c → ¬ Rk a b T 0 j c :=
    ⟨fun c => Classical.choose (hd c), fun c => Classical.choose_spec (hd c)⟩
  have hs : ∀ c, ∃ i, 0 < c → c < n → T i ∧ b i = c ∧ a i < n ∧ d (a i) < d c := by
    intro c
    by_cases hc : 0 < c ∧ c < n
    · obtain ⟨h1, h2⟩ := hd c hc.2
      generalize hk : d c = k at h1 h2
      cases h1 with
      | refl => omega
      | @step i k t r =>
        refine ⟨i, fun _ _ => ⟨t, rfl, hT i t, ?_⟩⟩
        have hq : ¬ k < d (a i) := fun hlt => (hd (a i) (hT i t)).2 k hlt r
        omega
    · exact ⟨0, fun h1 h2 => absurd ⟨h1, h2⟩ hc⟩
  obtain ⟨f, hf⟩ : ∃ f : Nat → Nat, ∀ c, 0 < c → c < n → T (f c) ∧ b (f c) = c ∧ a (f c) < n ∧ d (a (f c)) < d c :=
    ⟨fun c => Classical.choose (hs c), fun c => Classical.choose_spec (hs c)⟩
  refine ⟨f, fun c h0 h1 => ⟨(hf c h0 h1).1, (hf c h0 h1).2.1⟩, ?_⟩
  have key : ∀ k c, c < n → d c ≤ k → Rc a b (fun i => ∃ c, 0 < c ∧ c < n ∧ i = f c) 0 c := by
    intro k
    induction k with
    | zero =>
      intro c hc hk
      have hr := (hd c hc).1
      rw [show d c = 0 by omega] at hr
      cases hr
      exact .refl
    | succ k ih =>
      intro c hc hk
      by_cases h0 : 0 < c
      · obtain ⟨_, h2, h3, h4⟩ := hf c h0 hc
        have := Rc.step (a := a) (b := b) (T := fun i => ∃ c, 0 < c ∧ c < n ∧ i = f c) (i := f c) ⟨c, h0, hc, rfl⟩ (ih (a (f c)) h3 (by omega))
        rw [h2] at this
        exact this
      · obtain rfl : c = 0 := by omega
        exact .refl
  exact fun c hc => key (d c) c hc (Nat.le_refl _)
/-- A set of corners is entered by a street of the branching. -/
theorem IsB.enters {f : Nat → Nat} (h : IsB n a b T f) (S : Nat → Prop) (h0 : ¬ S 0) (hs : ∃ c, c < n ∧ S c) : ∃ c, 0 < c ∧ c < n ∧ S c ∧ ¬ S (a (f c)) := by
  refine Classical.byContradiction fun hn => ?_
  obtain ⟨c, hc, hS⟩ := hs
  have hr : ¬ S c := (h.all c hc).closed (S := fun c => ¬ S c) h0 (by
    rintro i ⟨e, e0, e1, rfl⟩ ha hb
    have hbe := (h.on e e0 e1).2
    rw [hbe] at hb
    exact hn ⟨e, e0, e1, hb, ha⟩)
  exact hr hS
def sumZ (g : Nat → Int) : Nat → Int
  | 0 => 0
  | k + 1 => sumZ g k + g k
theorem sumZ_congr {g h : Nat → Int} : ∀ k, (∀ i, i < k → g i = h i) → sumZ g k = sumZ h k
  | 0, _ => rfl
  | k + 1, e => by simp only [sumZ]; rw [sumZ_congr k (fun i hi => e i (by omega)), e k (by omega)]
theorem sumZ_le {g h : Nat → Int} : ∀ k, (∀ i, i < k → g i ≤ h i) → sumZ g k ≤ sumZ h k
  | 0, _ => Int.le_refl _
  | k + 1, e => by simp only [sumZ]; have := sumZ_le k (fun i hi => e i (by omega)); have := e k (by omega); omega
theorem sumZ_add (g h : Nat → Int) : ∀ k, sumZ (fun i => g i + h i) k = sumZ g k + sumZ h k
  | 0 => rfl
  | k + 1 => by simp only [sumZ]; rw [sumZ_add g h k]; omega
theorem sumZ_zero : ∀ k, sumZ (fun _ => 0) k = 0
  | 0 => rfl
  | k + 1 => by simp only [sumZ]; rw [sumZ_zero k]; rfl
/-- At most one number is not 0, and it is at most x. -/
theorem sumZ_one {g : Nat → Int} {v : Nat} {x : Int} (hx : 0 ≤ x) (hv : g v ≤ x) : ∀ k, (∀ i, i < k → i ≠ v → g i ≤ 0) → sumZ g k ≤ x
  | 0, _ => hx
  | k + 1, h => by
    simp only [sumZ]
    by_cases e : k = v
    · have : sumZ g k ≤ sumZ (fun _ => 0) k := sumZ_le k (fun i hi => h i (by omega) (by omega))
      rw [sumZ_zero] at this
      rw [e] at this ⊢
      omega
    · have := sumZ_one hx hv k (fun i hi => h i (by omega))
      have := h k (by omega) e
      omega
theorem sumZ_ge_one {g : Nat → Int} {v : Nat} : ∀ k, v < k → (∀ i, i < k → 0 ≤ g i) → g v ≤ sumZ g k
  | k + 1, hv, h => by
    simp only [sumZ]
    have h0 : sumZ (fun _ => 0) k ≤ sumZ g k := sumZ_le k (fun i hi => h i (by omega))
    rw [sumZ_zero] at h0
    by_cases e : v = k
    · subst e; omega
    · have h1 := sumZ_ge_one (g := g) (v := v) k (by omega) (fun i hi => h i (by omega)); have := h k (by omega); omega
/-- What a branching costs. -/
def costF (n : Nat) (p : Nat → Int) (f : Nat → Nat) : Int := sumZ (fun c => if c = 0 then 0 else p (f c)) n
theorem costF_congr {p q : Nat → Int} {f g : Nat → Nat} (h : ∀ c, 0 < c → c < n → p (f c) = q (g c)) : costF n p f = costF n q g := by
  refine sumZ_congr n fun c hc => ?_
  split
  · rfl
  · exact h c (by omega) hc
theorem costF_le {p q : Nat → Int} {f g : Nat → Nat} (h : ∀ c, 0 < c → c < n → p (f c) ≤ q (g c)) : costF n p f ≤ costF n q g := by
  refine sumZ_le n fun c hc => ?_
  split
  · exact Int.le_refl _
  · exact h c (by omega) hc
theorem costF_nonneg {p : Nat → Int} {f : Nat → Nat} (h : ∀ c, 0 < c → c < n → 0 ≤ p (f c)) : 0 ≤ costF n p f := by
  have := sumZ_le (g := fun _ => 0) (h := fun c => if c = 0 then 0 else p (f c)) n (fun c hc => by split; exact Int.le_refl _; exact h c (by omega) hc)
  rwa [sumZ_zero] at this
/-- v is the least cost of a branching of streets of T. -/
def Opt (n : Nat) (a b : Nat → Nat) (T : Nat → Prop) (p : Nat → Int) (v : Int) : Prop :=
  (∃ f, IsB n a b T f ∧ costF n p f = v) ∧ ∀ f, IsB n a b T f → v ≤ costF n p f
theorem Opt.unique {p : Nat → Int} {v w : Int} (h : Opt n a b T p v) (k : Opt n a b T p w) : v = w := by
  obtain ⟨⟨f, hf, rfl⟩, h2⟩ := h
  obtain ⟨⟨g, hg, rfl⟩, k2⟩ := k
  have := h2 g hg
  have := k2 f hf
  omega
/-- A set that is to be priced: no street that is left for nothing enters it, and it holds together by such streets. -/
structure Alone (n : Nat) (a b : Nat → Nat) (T : Nat → Prop) (p : Nat → Int) (S : Nat → Prop) : Prop where
  h0 : ¬ S 0
  ne : ∃ c, c < n ∧ S c
  out : ∀ i, T i → p i = 0 → S (b i) → S (a i)
  conn : ∀ u v, S u → S v → Rc a b (fun i => T i ∧ p i = 0 ∧ S (a i) ∧ S (b i)) u v
/-- The branching enters the set once, and does not cost more where it counts. -/
theorem shrink {p : Nat → Int} {S : Nat → Prop} (hT : ∀ i, T i → a i < n) (hA : Alone n a b T p S) {g : Nat → Nat} (hg : IsB n a b T g) :
    ∃ f v, IsB n a b T f ∧ (∀ c, 0 < c → c < n → ¬ S c → f c = g c) ∧ S v ∧ 0 < v ∧ v < n ∧ (∀ c, 0 < c → c < n → S c → (c = v ∧ f c = g c) ∨ (T (f c) ∧ p (f c) = 0 ∧ S (a (f c)))) := by
  let T0 : Nat → Prop := fun i => ∃ c, 0 < c ∧ c < n ∧ ¬ S c ∧ i = g c
  have hfirst : ∀ c, Rc a b (fun i => ∃ c, 0 < c ∧ c < n ∧ i = g c) 0 c → Rc a b T0 0 c ∨ ∃ v, S v ∧ 0 < v ∧ v < n ∧ Rc a b T0 0 (a (g v)) := by
    intro c r
    induction r with
    | refl => exact .inl .refl
    | @step i t _ ih =>
      rcases ih with ih | ih
      · obtain ⟨e, e0, e1, rfl⟩ := t
        have hb := (hg.on e e0 e1).2
        by_cases hS : S e
        · exact .inr ⟨e, hS, e0, e1, ih⟩
        · exact .inl (.step ⟨e, e0, e1, hS, rfl⟩ ih)
      · exact .inr ih
  have hT0 : ∀ c, Rc a b T0 0 c → ¬ S c := by
    intro c r
    refine r.closed (S := fun c => ¬ S c) hA.h0 ?_
    rintro i ⟨e, e0, e1, hS, rfl⟩ _
    rw [(hg.on e e0 e1).2]
    exact hS
  obtain ⟨x, hx, hSx⟩ := hA.ne
  obtain ⟨v, hv, v0, v1, hrv⟩ : ∃ v, S v ∧ 0 < v ∧ v < n ∧ Rc a b T0 0 (a (g v)) := by
    rcases hfirst x (hg.all x hx) with h | h
    · exact absurd hSx (hT0 x h)
    · exact h
  let T1 : Nat → Prop := fun i => T0 i ∨ i = g v ∨ (T i ∧ p i = 0 ∧ S (a i) ∧ S (b i))
  have hT1 : ∀ i, T1 i → T i := by
    rintro i (⟨e, e0, e1, _, rfl⟩ | rfl | h)
    · exact (hg.on e e0 e1).1
    · exact (hg.on v v0 v1).1
    · exact h.1
  have hbv := (hg.on v v0 v1).2
  have hrS : ∀ u, S u → Rc a b T1 0 u := by
    intro u hu
    have h1 : Rc a b T1 0 v := by
      have := Rc.step (T := T1) (i := g v) (.inr (.inl rfl)) (hrv.mono fun i h => .inl h)
      rwa [hbv] at this
    exact h1.trans ((hA.conn v u hv hu).mono fun i h => .inr (.inr h))
  have hrA : ∀ c, c < n → Rc a b T1 0 c := by
    intro c hc
    have : ∀ c, Rc a b (fun i => ∃ c, 0 < c ∧ c < n ∧ i = g c) 0 c → Rc a b T1 0 c := by
      intro c r
      induction r with
      | refl => exact .refl
      | @step i t _ ih =>
        obtain ⟨e, e0, e1, rfl⟩ := t
        by_cases hS : S e
        · rw [(hg.on e e0 e1).2]; exact hrS e hS
        · exact .step (.inl ⟨e, e0, e1, hS, rfl⟩) ih
    exact this c (hg.all c hc)
  obtain ⟨f, hf⟩ := exists_branching (fun i h => hT i (hT1 i h)) hrA
  refine ⟨f, v, hf.mono hT1, ?_, hv, v0, v1, ?_⟩
  · intro c c0 c1 hS
    obtain ⟨t, tb⟩ := hf.on c c0 c1
    rcases t with ⟨e, e0, e1, _, q⟩ | q | h
    · have := (hg.on e e0 e1).2
      rw [← q, tb] at this
      rw [q, this]
    · rw [q, hbv] at tb
      exact absurd (tb ▸ hv) hS
    · rw [tb] at h
      exact absurd h.2.2.2 hS
  · intro c c0 c1 hS
    obtain ⟨t, tb⟩ := hf.on c c0 c1
    rcases t with ⟨e, e0, e1, hSe, q⟩ | q | h
    · have := (hg.on e e0 e1).2
      rw [← q, tb] at this
      exact absurd (this ▸ hS) hSe
    · rw [q, hbv] at tb
      exact .inl ⟨tb.symm, by rw [q, tb]⟩
    · exact .inr ⟨h.1, h.2.1, h.2.2.1⟩
/-- One price. -/
theorem Opt.priced {p q : Nat → Int} {S : Nat → Prop} {mm v : Int} (hT : ∀ i, T i → a i < n) (hA : Alone n a b T p S) (hm : 0 ≤ mm)
    (hp : ∀ i, T i → 0 ≤ p i) (hmin : ∀ i, T i → S (b i) → ¬ S (a i) → mm ≤ p i) (hq1 : ∀ i, T i → S (b i) → ¬ S (a i) → q i = p i - mm) (hq2 : ∀ i, T i → ¬ (S (b i) ∧ ¬ S (a i)) → q i = p i)
    (h : Opt n a b T q v) : Opt n a b T p (v + mm) := by
  have hq0 : ∀ i, T i → 0 ≤ q i := by
    intro i t
    by_cases e : S (b i) ∧ ¬ S (a i)
    · have := hmin i t e.1 e.2; rw [hq1 i t e.1 e.2]; omega
    · rw [hq2 i t e]; exact hp i t
  have hlow : ∀ f, IsB n a b T f → v + mm ≤ costF n p f := by
    intro f hf
    obtain ⟨c, c0, c1, cS, cA⟩ := hf.enters S hA.h0 hA.ne
    have h1 := h.2 f hf
    have h2 : costF n p f = costF n q f + sumZ (fun c => if c = 0 then 0 else p (f c) - q (f c)) n := by
      unfold costF
      rw [← sumZ_add]
      refine sumZ_congr n fun i _ => ?_
      split <;> omega
    have h3 := sumZ_ge_one (g := fun c => if c = 0 then 0 else p (f c) - q (f c)) (v := c) n c1 (by
      intro i hi
      split
      · exact Int.le_refl _
      · obtain ⟨t, tb⟩ := hf.on i (by omega) hi
        by_cases e : S (b (f i)) ∧ ¬ S (a (f i))
        · rw [hq1 _ t e.1 e.2]; omega
        · rw [hq2 _ t e]; omega)
    obtain ⟨t, tb⟩ := hf.on c c0 c1
    rw [if_neg (by omega), hq1 _ t (tb.symm ▸ cS) cA] at h3
    omega
  refine ⟨?_, hlow⟩
  obtain ⟨⟨g, hg, hgv⟩, _⟩ := h
  obtain ⟨f, u, hf, hfg, hSu, u0, u1, hfS⟩ := shrink hT hA hg
  refine ⟨f, hf, ?_⟩
  have h1 := hlow f hf
  have h2 : costF n p f = costF n q f + sumZ (fun c => if c = 0 then 0 else p (f c) - q (f c)) n := by
    unfold costF
    rw [← sumZ_add]
    refine sumZ_congr n fun i _ => ?_
    split <;> omega
  have h3 : sumZ (fun c => if c = 0 then 0 else p (f c) - q (f c)) n ≤ mm := by
    refine sumZ_one (v := u) hm ?_ n ?_
    · rw [if_neg (by omega)]
      obtain ⟨t, tb⟩ := hf.on u u0 u1
      by_cases e : S (b (f u)) ∧ ¬ S (a (f u))
      · rw [hq1 _ t e.1 e.2]; omega
      · rw [hq2 _ t e]; omega
    · intro i hi hiu
      split
      · exact Int.le_refl _
      · obtain ⟨t, tb⟩ := hf.on i (by omega) hi
        by_cases hS : S i
        · rcases hfS i (by omega) hi hS with ⟨e, _⟩ | ⟨_, _, e⟩
          · exact absurd e hiu
          · rw [hq2 _ t (fun x => x.2 e)]; omega
        · rw [hq2 _ t (fun x => hS (tb ▸ x.1))]; omega
  have h4 : costF n q f ≤ costF n q g := by
    refine costF_le fun c c0 c1 => ?_
    by_cases hS : S c
    · rcases hfS c c0 c1 hS with ⟨_, e⟩ | ⟨t, e1, e2⟩
      · rw [e]; exact Int.le_refl _
      · rw [hq2 _ t (fun x => x.2 e2), e1]; exact hq0 _ (hg.on c c0 c1).1
    · rw [hfg c c0 c1 hS]; exact Int.le_refl _
  omega
/-- All corners are reached for nothing. -/
theorem Opt.nothing {p : Nat → Int} (hT : ∀ i, T i → a i < n) (hp : ∀ i, T i → 0 ≤ p i) (h : ∀ c, c < n → Rc a b (fun i => T i ∧ p i = 0) 0 c) : Opt n a b T p 0 := by
  obtain ⟨f, hf⟩ := exists_branching (T := fun i => T i ∧ p i = 0) (fun i t => hT i t.1) h
  refine ⟨⟨f, hf.mono fun _ t => t.1, ?_⟩, fun g hg => costF_nonneg fun c c0 c1 => hp _ (hg.on c c0 c1).1⟩
  have : costF n p f = costF n (fun _ => 0) f := costF_congr fun c c0 c1 => (hf.on c c0 c1).1.2
  rw [this]
  unfold costF
  exact (sumZ_congr n fun c _ => by split <;> rfl).trans (sumZ_zero n)
/-- A set that no street enters. -/
theorem no_branching {S : Nat → Prop} (h0 : ¬ S 0) (ne : ∃ c, c < n ∧ S c) (h : ∀ i, T i → S (b i) → S (a i)) (f : Nat → Nat) : ¬ IsB n a b T f := by
  intro hf
  obtain ⟨c, c0, c1, cS, cA⟩ := hf.enters S h0 ne
  obtain ⟨t, tb⟩ := hf.on c c0 c1
  exact cA (h _ t (tb.symm ▸ cS))
/-- R d c: c is reached from d by streets for nothing. If some corner is not reached from 0, then some corner that is not reached from 0 is reached back from all that reach it. -/
theorem exists_back {R : Nat → Nat → Prop} (htr : ∀ x y z, R x y → R y z → R x z) (cnt : Nat → Nat)
    (hcnt : ∀ x y, R x y → ¬ R y x → cnt x < cnt y) {c : Nat} (hc : c < n) (h0 : ¬ R 0 c) (hn : ∀ x y, R x y → y < n → x < n) : ∃ c, c < n ∧ ¬ R 0 c ∧ ∀ d, R d c → R c d := by
  obtain ⟨k, ⟨c, h1, h2, h3⟩, hmin⟩ := least_nat (P := fun k => ∃ c, c < n ∧ ¬ R 0 c ∧ cnt c = k) ⟨_, c, hc, h0, rfl⟩
  refine ⟨c, h1, h2, fun d hd => Classical.byContradiction fun hnd => ?_⟩
  have := hcnt d c hd hnd
  exact hmin (cnt d) (by omega) ⟨d, hn d c hd h1, fun h => h2 (htr _ _ _ h hd), rfl⟩
end
end Go.Proofs.Ytpmadffgdfholaa.B
namespace Go.Proofs.Ytpmadffgdfholaa.B
open Go.RowKit Go.Proofs.YtpmadffgdfholaaW.PrintWords Go.Proofs.YtpmadffgdfholaaW.PrintLast Go.Proofs.YtpmadffgdfholaaW.PrintMore
/-- Where street i begins, and where it ends. -/
def aW (l : List S30) (i : Nat) : Nat := (rd_T30 l (i : Int)).f0.toNat
def bW (l : List S30) (i : Nat) : Nat := (rd_T30 l (i : Int)).f1.toNat
theorem tb_one (b c : Nat) : (1 <<< b).testBit c = decide (c = b) := by
  rw [Nat.shiftLeft_eq, Nat.one_mul, Nat.testBit_two_pow]
  exact decide_eq_decide.mpr eq_comm
theorem tb_or (s b c : Nat) : (s ||| 1 <<< b).testBit c = (s.testBit c || decide (c = b)) := by
  rw [Nat.testBit_or, tb_one]
theorem step_sub (s : Nat) (x : S30) (c : Nat) (h : s.testBit c = true) : (stepS s x).testBit c = true := by
  unfold stepS
  split
  · rw [tb_or, h]; rfl
  · exact h
theorem pass_sub (l : List S30) : ∀ (L : List Int) (s c : Nat), s.testBit c = true → (passS l L s).testBit c = true
  | [], _, _, h => h
  | i :: L, s, c, h => pass_sub l L (stepS s (rd_T30 l i)) c (step_sub s _ c h)
theorem it_sub (l : List S30) (L : List Int) : ∀ (d s c : Nat), s.testBit c = true → (itS l L d s).testBit c = true
  | 0, _, _, h => h
  | d + 1, s, c, h => it_sub l L d _ c (pass_sub l L s c h)
theorem it_iter (l : List S30) (L : List Int) : ∀ d s, itS l L (d + 1) s = passS l L (itS l L d s)
  | 0, _ => rfl
  | d + 1, s => by show itS l L (d + 1) (passS l L s) = passS l L (itS l L d (passS l L s)); exact it_iter l L d _
theorem pass_closed (l : List S30) : ∀ (L : List Int) (s : Nat), passS l L s = s → ∀ i ∈ L, s.testBit (rd_T30 l i).f0.toNat = true → s.testBit (rd_T30 l i).f1.toNat = true
  | [], _, _, i, hi, _ => absurd hi (by simp)
  | j :: L, s, h, i, hi, ha => by
    have h1 : passS l L (stepS s (rd_T30 l j)) = s := h
    have e : stepS s (rd_T30 l j) = s := by
      refine Nat.eq_of_testBit_eq fun c => ?_
      cases hc : s.testBit c with
      | true => exact step_sub s _ c hc
      | false =>
        cases hd : (stepS s (rd_T30 l j)).testBit c with
        | false => rfl
        | true =>
          have := pass_sub l L _ c hd
          rw [h1, hc] at this
          exact absurd this (by decide)
    rw [e] at h1
    rcases List.mem_cons.1 hi with rfl | hi
    · rw [← e]
      unfold stepS
      rw [if_pos ha, tb_or]
      simp
    · exact pass_closed l L s h1 i hi ha
section
variable {n : Nat} {l : List S30} {L : List Int}
theorem pass_sound (hL : InL n l L) : ∀ (L' : List Int), (∀ i ∈ L', i ∈ L) → ∀ (s c : Nat), (passS l L' s).testBit c = true → ∃ e, s.testBit e = true ∧ Rc (aW l) (bW l) (fun i => (i : Int) ∈ L) e c
  | [], _, _, c, h => ⟨c, h, .refl⟩
  | i :: L', hs, s, c, h => by
    obtain ⟨e, he, hr⟩ := pass_sound hL L' (fun j hj => hs j (List.mem_cons_of_mem _ hj)) (stepS s (rd_T30 l i)) c h
    unfold stepS at he
    split at he
    · rename_i ha
      rw [tb_or] at he
      rcases Bool.or_eq_true_iff.1 he with he | he
      · exact ⟨e, he, hr⟩
      · have h2 := hL i (hs i List.mem_cons_self)
        have hi : ((i.toNat : Nat) : Int) = i := by omega
        have e1 : e = bW l i.toNat := by unfold bW; rw [hi]; exact of_decide_eq_true he
        have ea : (rd_T30 l i).f0.toNat = aW l i.toNat := by unfold aW; rw [hi]
        rw [ea] at ha
        refine ⟨aW l i.toNat, ha, Rc.trans (Rc.one (i := i.toNat) (by rw [hi]; exact hs i List.mem_cons_self)) (e1 ▸ hr)⟩
    · exact ⟨e, he, hr⟩
theorem it_sound (hL : InL n l L) : ∀ (d s c : Nat), (itS l L d s).testBit c = true → ∃ e, s.testBit e = true ∧ Rc (aW l) (bW l) (fun i => (i : Int) ∈ L) e c
  | 0, _, c, h => ⟨c, h, .refl⟩
  | d + 1, s, c, h => by
    obtain ⟨e, he, hr⟩ := it_sound hL d _ c h
    obtain ⟨e2, he2, hr2⟩ := pass_sound hL L (fun _ h => h) s e he
    exact ⟨e2, he2, hr2.trans hr⟩
/-- The closure of a set is what is reached from it. -/
theorem closure_iff (hn : n ≤ 7) (hL : InL n l L) {d c : Nat} (hd : d < n) : (itS l L n (1 <<< d)).testBit c = true ↔ Rc (aW l) (bW l) (fun i => (i : Int) ∈ L) d c := by
  have hlt : 1 <<< d < 2 ^ n := by rw [Nat.shiftLeft_eq, Nat.one_mul]; exact Nat.pow_lt_pow_right (by decide) hd
  constructor
  · intro h
    obtain ⟨e, he, hr⟩ := it_sound hL n _ c h
    rw [tb_one] at he
    rw [of_decide_eq_true he] at hr
    exact hr
  · intro hr
    have hfix : passS l L (itS l L n (1 <<< d)) = itS l L n (1 <<< d) := by
      rw [← it_iter]
      exact it_stop hn hL n _ hlt (by omega)
    refine hr.closed (S := fun c => (itS l L n (1 <<< d)).testBit c = true) (it_sub l L n _ d (by rw [tb_one]; simp)) fun i hi ha => ?_
    exact pass_closed l L _ hfix _ hi ha
theorem Rc.lt (hL : InL n l L) {d c : Nat} (hd : d < n) (hr : Rc (aW l) (bW l) (fun i => (i : Int) ∈ L) d c) : c < n := by
  refine hr.closed (S := fun c => c < n) hd fun i hi _ => ?_
  have h := (wayOk_iff n _).1 (hL _ hi).2.2
  unfold bW
  omega
/-- The streets that a test lets through. -/
def someW (l : List S30) (og : Int → Bool) : List Int := (idx l).filter og
theorem idx_rd (l : List S30) (q : Nat) (h : q < l.length) : rd (idx l) (q : Int) = (q : Int) := by
  simp [rd, idx, List.getD, h]
theorem idx_mem (l : List S30) (i : Nat) : (i : Int) ∈ idx l ↔ i < l.length := by
  unfold idx
  simp only [List.mem_map, List.mem_range]
  exact ⟨fun ⟨j, h, e⟩ => by omega, fun h => ⟨i, h, rfl⟩⟩
theorem someW_mem (l : List S30) (og : Int → Bool) (i : Nat) : (i : Int) ∈ someW l og ↔ i < l.length ∧ og (i : Int) = true := by
  unfold someW
  rw [List.mem_filter, idx_mem]
theorem someW_in {l : List S30} (hx : ∀ x ∈ l, wayOk n x = true) (og : Int → Bool) : InL n l (someW l og) :=
  fun i hi => idx_in hx i (List.mem_filter.1 hi).1
theorem al2_l1 (hn : n ≤ 7) (hx : ∀ x ∈ l, wayOk n x = true) (hl : l.length < 1000) (o : Int → Option Bool) (og : Int → Bool) (ho : ∀ i : Nat, i < l.length → o (i : Int) = some (og (i : Int))) (N j : Int) : ∀ (d q k s : Nat), q + d = l.length → s < 2 ^ n →
    branch_town_alone_2.l1 (k + d + 1) (s : Int) N j l (l.length : Int) (q : Int) (n : Int) l o = branch_town_alone_2.l0 k ((passS l (((idx l).drop q).filter og) s : Nat) : Int) N (wrap64 (j + 1)) (n : Int) l o
  | 0, q, k, s, h, _ => by
    simp only [branch_town_alone_2.l1]
    rw [if_neg (by omega), List.drop_eq_nil_of_le (by rw [idx_length]; omega)]
    rfl
  | d + 1, q, k, s, h, hs => by
    have hq : q < l.length := by omega
    have hw := wrap_nat q (by omega)
    have hok := hx _ (rd_T30_mem l q hq)
    have sf := step_facts hn hs hok
    have ih := fun s hs => al2_l1 hn hx hl o og ho N j d (q + 1) k s (by omega) hs
    have h128 : s < 128 := Nat.lt_of_lt_of_le hs (show 2 ^ n ≤ 2 ^ 7 from Nat.pow_le_pow_right (by decide) hn)
    rw [drop_rdI4 (idx l) q (by rw [idx_length]; exact hq), idx_rd l q hq, List.filter_cons]
    rw [show k + (d + 1) + 1 = (k + d + 1) + 1 from by omega]
    generalize hqq : k + d + 1 = qq at ih
    simp only [branch_town_alone_2.l1, hw]
    rw [if_pos (by omega), if_pos (by omega), if_pos (by omega), ho q hq, Option.bind_some]
    cases og (q : Int) with
    | false =>
      rw [if_neg (by decide), if_neg (by decide)]
      exact ih s hs
    | true =>
      rw [if_pos rfl, if_pos rfl]
      show _ = branch_town_alone_2.l0 k ((passS l (((idx l).drop (q + 1)).filter og) (stepS s (rd_T30 l (q : Int))) : Nat) : Int) N (wrap64 (j + 1)) (n : Int) l o
      rw [← ih _ sf.1]
      generalize rd_T30 l (q : Int) = x at hok
      obtain ⟨h1, h2, h3, h4, _⟩ := (wayOk_iff n x).1 hok
      have f1 := fin_and ⟨s, h128⟩ ⟨x.f0.toNat, by omega⟩
      have f2 := fin_or ⟨s, h128⟩ ⟨x.f1.toNat, by omega⟩
      simp only [← int_nat h1, ← int_nat h3] at f1 f2
      rw [if_pos h1]
      unfold stepS
      by_cases t : s.testBit x.f0.toNat = true
      · rw [if_pos (f1.2 t), if_pos h3, if_pos t, f2]
      · rw [if_neg (fun hh => t (f1.1 hh)), if_neg t]
theorem al2_l0 (hn : n ≤ 7) (hx : ∀ x ∈ l, wayOk n x = true) (hl : l.length < 1000) (o : Int → Option Bool) (og : Int → Bool) (ho : ∀ i : Nat, i < l.length → o (i : Int) = some (og (i : Int))) : ∀ (d j k s : Nat), j + d = n → s < 2 ^ n →
    branch_town_alone_2.l0 (k + (l.length + 2) * d + 1) (s : Int) (n : Int) (j : Int) (n : Int) l o = some ((itS l (someW l og) d s : Nat) : Int)
  | 0, j, k, s, h, _ => by
    simp only [branch_town_alone_2.l0, Nat.mul_zero, Nat.add_zero]
    rw [if_neg (by omega)]
    rfl
  | d + 1, j, k, s, h, hs => by
    have hw := wrap_nat j (by omega)
    have ih := al2_l0 hn hx hl o og ho d (j + 1) k (passS l (someW l og) s) (by omega) (pass_facts hn _ (someW_in hx og) s hs).1
    have h1 := al2_l1 hn hx hl o og ho (n : Int) (j : Int) l.length 0 (k + (l.length + 2) * d + 1) s (by omega) hs
    rw [show k + (l.length + 2) * (d + 1) + 1 = (k + (l.length + 2) * d + 1 + l.length + 1) + 1 from by rw [Nat.mul_succ]; omega]
    generalize hq : k + (l.length + 2) * d + 1 + l.length + 1 = qq at h1
    simp only [branch_town_alone_2.l0]
    rw [if_pos (by omega)]
    rw [List.drop_zero, hw] at h1
    exact h1.trans ih
theorem fin_shl1 : ∀ a : Fin 7, shl .i64 1 ((a.val : Nat) : Int) = ((1 <<< a.val : Nat) : Int) := by decide +kernel
theorem al2_f (hn : n ≤ 7) (hx : ∀ x ∈ l, wayOk n x = true) (hl : l.length ≤ 30) (o : Int → Option Bool) (og : Int → Bool) (ho : ∀ i : Nat, i < l.length → o (i : Int) = some (og (i : Int))) (d : Nat) (hd : d < n) (k : Nat) (hk : 300 ≤ k) :
    branch_town_alone_2.f k (d : Int) (n : Int) l o = some ((itS l (someW l og) n (1 <<< d) : Nat) : Int) := by
  have hlt : 1 <<< d < 2 ^ n := by rw [Nat.shiftLeft_eq, Nat.one_mul]; exact Nat.pow_lt_pow_right (by decide) hd
  have hb : (l.length + 2) * n ≤ 32 * 7 := Nat.mul_le_mul (by omega) hn
  have h := al2_l0 hn hx (by omega) o og ho n 0 (k - (l.length + 2) * n - 1) (1 <<< d) (by omega) hlt
  rw [show k - (l.length + 2) * n - 1 + (l.length + 2) * n + 1 = k from by omega] at h
  unfold branch_town_alone_2.f
  have e := fin_shl1 ⟨d, by omega⟩
  simp only [] at e
  rw [if_pos (by omega), e]
  exact h
end
end Go.Proofs.Ytpmadffgdfholaa.B
namespace Go.Proofs.Ytpmadffgdfholaa.B
open Go.RowKit Go.Proofs.YtpmadffgdfholaaW.PrintWords Go.Proofs.YtpmadffgdfholaaW.PrintLast Go.Proofs.YtpmadffgdfholaaW.PrintMore
def cntN (P : Nat → Bool) : Nat → Nat
  | 0 => 0
  | k + 1 => cntN P k + if P k then 1 else 0
theorem cntN_le {P Q : Nat → Bool} : ∀ k, (∀ i, i < k → P i = true → Q i = true) → cntN P k ≤ cntN Q k
  | 0, _ => Nat.le_refl _
  | k + 1, h => by
    have ih := cntN_le k (fun i hi => h i (by omega))
    have hk := h k (by omega)
    simp only [cntN]
    cases hP : P k with
    | false => simp; split <;> omega
    | true => simp [hk hP]; exact ih
theorem cntN_lt {P Q : Nat → Bool} : ∀ k, (∀ i, i < k → P i = true → Q i = true) → ∀ j, j < k → Q j = true → P j = false → cntN P k < cntN Q k
  | k + 1, h, j, hj, hQ, hP => by
    simp only [cntN]
    by_cases e : j = k
    · subst e
      have := cntN_le (P := P) (Q := Q) j (fun i hi => h i (by omega))
      simp [hQ, hP]; omega
    · have ih := cntN_lt k (fun i hi => h i (by omega)) j (by omega) hQ hP
      have hk := h k (by omega)
      cases hPk : P k with
      | false => simp; split <;> omega
      | true => simp [hk hPk]; exact ih
theorem cntN_bound (P : Nat → Bool) : ∀ k, cntN P k ≤ k
  | 0 => Nat.le_refl _
  | k + 1 => by have := cntN_bound P k; simp only [cntN]; split <;> omega
theorem hasB_nat {s c : Nat} (hs : s < 128) (hc : c < 7) : hasB (s : Int) (c : Int) = s.testBit c := by
  have h := fin_and ⟨s, hs⟩ ⟨c, hc⟩
  simp only [] at h
  unfold hasB
  cases ht : s.testBit c with
  | true => exact beq_iff_eq.mpr (h.2 ht)
  | false => exact beq_eq_false_iff_ne.mpr fun e => by rw [h.1 e] at ht; exact absurd ht (by decide)
theorem noB_nat {s c : Nat} (hs : s < 128) (hc : c < 7) : (Go.bits .and .i64 (shr .i64 (s : Int) (c : Int)) 1 == 0) = !s.testBit c := by
  have h := fin_and0 ⟨s, hs⟩ ⟨c, hc⟩
  simp only [] at h
  cases ht : s.testBit c with
  | false => exact beq_iff_eq.mpr (h.2 ht)
  | true => exact beq_eq_false_iff_ne.mpr fun e => by rw [h.1 e] at ht; exact absurd ht (by decide)
theorem gather_nat {R : Int → Int} {r : Nat → Nat} {n : Nat} (hn : n ≤ 7) (hR : ∀ d : Nat, d < n → R (d : Int) = (r d : Int) ∧ r d < 128) {c : Nat} (hc : c < n) : ∀ j, j ≤ n → ∃ q : Nat, gatherB R (c : Int) j = (q : Int) ∧ q < 128 ∧ ∀ d, q.testBit d = (decide (d < j) && (r d).testBit c)
  | 0, _ => ⟨0, rfl, by decide, fun d => by simp⟩
  | j + 1, hj => by
    obtain ⟨q, h1, h2, h3⟩ := gather_nat hn hR hc j (by omega)
    obtain ⟨e1, e2⟩ := hR j (by omega)
    simp only [gatherB]
    rw [e1, hasB_nat e2 (by omega), h1]
    cases ht : (r j).testBit c with
    | true =>
      have f := fin_or ⟨q, h2⟩ ⟨j, by omega⟩
      have f2 := fin_lt ⟨7, by decide⟩ ⟨q, h2⟩ ⟨j, by omega⟩ h2 (by simp only []; omega)
      simp only [] at f f2
      refine ⟨q ||| 1 <<< j, by rw [if_pos rfl, f], f2, fun d => ?_⟩
      rw [tb_or, h3]
      by_cases hd : d = j
      · subst hd; simp [ht]
      · by_cases hl : d < j
        · simp [hd, hl, show d < j + 1 by omega]
        · simp [hd, hl, show ¬ d < j + 1 by omega]
    | false =>
      refine ⟨q, by rw [if_neg (by decide)], h2, fun d => ?_⟩
      rw [h3]
      by_cases hd : d = j
      · subst hd; simp [ht]
      · by_cases hl : d < j
        · simp [hl, show d < j + 1 by omega]
        · simp [hl, show ¬ d < j + 1 by omega]
theorem closed_nat {R : Int → Int} {r : Nat → Nat} {n : Nat} (hn : n ≤ 7) (hR : ∀ d : Nat, d < n → R (d : Int) = (r d : Int) ∧ r d < 128) {c q : Nat} (hc : c < n) (hq : q < 128) : ∀ j, j ≤ n → (closedB R (c : Int) (q : Int) j = true ↔ ∀ d, d < j → q.testBit d = true → (r c).testBit d = true)
  | 0, _ => ⟨fun _ d hd => absurd hd (by omega), fun _ => rfl⟩
  | j + 1, hj => by
    have ih := closed_nat hn hR hc hq j (by omega)
    obtain ⟨e1, e2⟩ := hR c hc
    simp only [closedB]
    rw [e1, hasB_nat hq (by omega), noB_nat e2 (by omega), Bool.and_eq_true, ih]
    constructor
    · rintro ⟨h1, h2⟩ d hd hqd
      by_cases e : d = j
      · subst e
        rw [hqd] at h2
        simpa using h2
      · exact h1 d (by omega) hqd
    · intro h
      refine ⟨fun d hd => h d (by omega), ?_⟩
      cases hb : q.testBit j with
      | false => rfl
      | true => rw [h j (by omega) hb]; rfl
theorem alone_cases {R : Int → Int} {r : Nat → Nat} {n : Nat} (hn : n ≤ 7) (hR : ∀ d : Nat, d < n → R (d : Int) = (r d : Int) ∧ r d < 128 ∧ (r d).testBit d = true) : ∀ j, j ≤ n →
    (aloneB R n j = 0 ∧ ∀ c, n - j ≤ c → c < n → ¬ ((r 0).testBit c = false ∧ ∀ d, d < n → (r d).testBit c = true → (r c).testBit d = true)) ∨
    ∃ c q : Nat, c < n ∧ aloneB R n j = (q : Int) ∧ q < 128 ∧ q ≠ 0 ∧ (r 0).testBit c = false ∧ (∀ d, d < n → (r d).testBit c = true → (r c).testBit d = true) ∧ ∀ d, q.testBit d = (decide (d < n) && (r d).testBit c)
  | 0, _ => .inl ⟨rfl, fun c h1 h2 => by omega⟩
  | j + 1, hj => by
    have hR2 : ∀ d : Nat, d < n → R (d : Int) = (r d : Int) ∧ r d < 128 := fun d hd => ⟨(hR d hd).1, (hR d hd).2.1⟩
    have hc : n - (j + 1) < n := by omega
    obtain ⟨q, g1, g2, g3⟩ := gather_nat hn hR2 hc n (Nat.le_refl _)
    obtain ⟨z1, z2⟩ := hR2 0 (by omega)
    have hcl := closed_nat hn hR2 hc g2 n (Nat.le_refl _)
    simp only [aloneB]
    have hal : isAloneB R n ((n - (j + 1) : Nat) : Int) = true ↔ (r 0).testBit (n - (j + 1)) = false ∧ ∀ d, d < n → (r d).testBit (n - (j + 1)) = true → (r (n - (j + 1))).testBit d = true := by
      unfold isAloneB
      rw [show (R 0) = (r 0 : Int) from z1, hasB_nat z2 (by omega), g1, Bool.and_eq_true, hcl, Bool.not_eq_true']
      refine and_congr Iff.rfl ⟨fun h d hd hr => h d hd (by rw [g3]; simp [hd, hr]), fun h d hd hq => h d hd (by rw [g3] at hq; exact (Bool.and_eq_true _ _ |>.mp hq).2)⟩
    by_cases ha : isAloneB R n ((n - (j + 1) : Nat) : Int) = true
    · rw [if_pos ha]
      obtain ⟨a1, a2⟩ := hal.1 ha
      refine .inr ⟨n - (j + 1), q, hc, g1, g2, ?_, a1, a2, g3⟩
      rintro rfl
      have := g3 (n - (j + 1))
      rw [(hR _ hc).2.2] at this
      simp [hc] at this
    · rw [if_neg ha]
      rcases alone_cases hn hR j (by omega) with ⟨h1, h2⟩ | h
      · refine .inl ⟨h1, fun c c1 c2 hh => ?_⟩
        by_cases e : c = n - (j + 1)
        · subst e; exact ha (hal.2 hh)
        · exact h2 c (by omega) c2 hh
      · exact .inr h
/-- The streets that are not out. -/
def onT (l : List S30) (og : Int → Bool) (i : Nat) : Prop := i < l.length ∧ og (i : Int) = false
theorem onT_lt {n : Nat} {l : List S30} (hx : ∀ x ∈ l, wayOk n x = true) {og : Int → Bool} (i : Nat) (h : onT l og i) : aW l i < n := by
  have := (wayOk_iff n _).1 (hx _ (rd_T30_mem l i h.1))
  unfold aW; omega
theorem onT_ltb {n : Nat} {l : List S30} (hx : ∀ x ∈ l, wayOk n x = true) {og : Int → Bool} (i : Nat) (h : onT l og i) : bW l i < n := by
  have := (wayOk_iff n _).1 (hx _ (rd_T30_mem l i h.1))
  unfold bW; omega
section
variable {n : Nat} {l : List S30}
/-- alone's answer. -/
theorem alone_spec (hn1 : 1 ≤ n) (hn : n ≤ 7) (hl : l.length ≤ 30) (hx : ∀ x ∈ l, wayOk n x = true) (left : List Int) (hleft : left.length = l.length) (o : Int → Option Bool) (og : Int → Bool) (ho : ∀ i : Nat, i < l.length → o (i : Int) = some (og (i : Int))) :
    ∃ q : Nat, q < 2 ^ n ∧ (∀ k, 300 ≤ k → branch_town_alone.f k (n : Int) l left o = some (q : Int)) ∧
      (q = 0 → ∀ c, c < n → Rc (aW l) (bW l) (fun i => onT l og i ∧ rd left (i : Int) = 0) 0 c) ∧
      (q ≠ 0 → Alone n (aW l) (bW l) (onT l og) (fun i => rd left (i : Int)) (fun c => q.testBit c = true)) := by
  have ho1 : ∀ i : Nat, i < l.length → branch_town_alone_1.f (i : Int) left o = some (decide (rd left (i : Int) = 0) && !og (i : Int)) := by
    intro i hi
    unfold branch_town_alone_1.f
    rw [if_pos (by omega), if_pos (by omega), ho i hi]
    by_cases h : rd left (i : Int) = 0
    · rw [if_pos h, Option.bind_some, decide_eq_true h, Bool.true_and]
    · rw [if_neg h, decide_eq_false h, Bool.false_and]
  let fg : Int → Bool := fun i => decide (rd left i = 0) && !og i
  have hFL := someW_in (n := n) hx fg
  let r : Nat → Nat := fun d => itS l (someW l fg) n (1 <<< d)
  have hlt : ∀ d, d < n → 1 <<< d < 2 ^ n := fun d hd => by rw [Nat.shiftLeft_eq, Nat.one_mul]; exact Nat.pow_lt_pow_right (by decide) hd
  have hp : 2 ^ n ≤ 2 ^ 7 := Nat.pow_le_pow_right (by decide) hn
  have hrlt : ∀ d, d < n → r d < 2 ^ n := fun d hd => it_lt hn hFL n _ (hlt d hd)
  have hiff : ∀ d c, d < n → ((r d).testBit c = true ↔ Rc (aW l) (bW l) (fun i => onT l og i ∧ rd left (i : Int) = 0) d c) := by
    intro d c hd
    refine (closure_iff hn hFL hd).trans ⟨fun h => h.mono fun i hi => ?_, fun h => h.mono fun i hi => ?_⟩
    · obtain ⟨h1, h2⟩ := (someW_mem l fg i).1 hi
      simp only [fg, Bool.and_eq_true, decide_eq_true_eq, Bool.not_eq_true'] at h2
      exact ⟨⟨h1, h2.2⟩, h2.1⟩
    · refine (someW_mem l fg i).2 ⟨hi.1.1, ?_⟩
      simp only [fg, Bool.and_eq_true, decide_eq_true_eq, Bool.not_eq_true']
      exact ⟨hi.2, hi.1.2⟩
  have hRk : ∀ k, 300 ≤ k → ∀ d : Nat, d < n → branch_town_alone_2.f k (d : Int) (n : Int) l (fun i => branch_town_alone_1.f i left o) = some (r d : Int) := fun k hk d hd => al2_f hn hx hl _ fg ho1 d hd k hk
  have hval : ∀ k, 300 ≤ k → branch_town_alone.f k (n : Int) l left o = some (aloneB (fun d => (r d.toNat : Int)) n n) := by
    intro k hk
    unfold branch_town_alone.f
    rw [if_pos ⟨by omega, by omega, fun d hd => by rw [hRk k hk d (by have := List.mem_range.1 hd; omega)]; rfl⟩]
    refine congrArg some ?_
    rw [show ((n : Int)).toNat = n from rfl]
    refine aloneB_congr (fun d h0 h1 => ?_) n (Nat.le_refl _)
    have := hRk k hk d.toNat (by omega)
    rw [Int.toNat_of_nonneg h0] at this
    rw [this]; rfl
  have hRr : ∀ d : Nat, d < n → (fun d : Int => (r d.toNat : Int)) (d : Int) = (r d : Int) ∧ r d < 128 ∧ (r d).testBit d = true := by
    intro d hd
    exact ⟨rfl, Nat.lt_of_lt_of_le (hrlt d hd) hp, (hiff d d hd).2 .refl⟩
  have hTn : ∀ i, (onT l og i ∧ rd left (i : Int) = 0) → aW l i < n := fun i h => onT_lt hx i h.1
  have hTb : ∀ i, (onT l og i ∧ rd left (i : Int) = 0) → bW l i < n := fun i h => onT_ltb hx i h.1
  rcases alone_cases (R := fun d : Int => (r d.toNat : Int)) (r := r) hn hRr n (Nat.le_refl _) with ⟨h1, h2⟩ | ⟨c, q, hc, h1, h2, h3, h4, h5, h6⟩
  · refine ⟨0, Nat.pow_pos (by decide), fun k hk => (hval k hk).trans (congrArg some h1), fun _ c hc => ?_, fun h => absurd rfl h⟩
    refine Classical.byContradiction fun hno => ?_
    obtain ⟨e, e1, e2, e3⟩ := exists_back (n := n) (R := fun x y => Rc (aW l) (bW l) (fun i => onT l og i ∧ rd left (i : Int) = 0) x y) (fun _ _ _ => Rc.trans) (fun x => cntN (fun d => (r d).testBit x) n) (by
      intro x y hxy hyx
      by_cases hy : y < n
      · refine cntN_lt n (fun i hi h => (hiff i y hi).2 (((hiff i x hi).1 h).trans hxy)) y hy ((hiff y y hy).2 .refl) ?_
        cases hb : (r y).testBit x with
        | false => rfl
        | true => exact absurd ((hiff y x hy).1 hb) hyx
      · exfalso
        have : x = y ∨ y < n := by
          cases hxy with
          | refl => exact .inl rfl
          | step t _ => exact .inr (hTb _ t)
        rcases this with rfl | h
        · exact hyx .refl
        · exact hy h) hc hno (by
      intro x y hxy
      induction hxy with
      | refl => exact id
      | step t _ ih => exact fun _ => ih (hTn _ t))
    refine h2 e (by omega) e1 ⟨?_, fun d hd hdc => (hiff e d e1).2 (e3 d ((hiff d e hd).1 hdc))⟩
    cases hb : (r 0).testBit e with
    | false => rfl
    | true => exact absurd ((hiff 0 e (by omega)).1 hb) e2
  · refine ⟨q, ?_, fun k hk => (hval k hk).trans (congrArg some h1), fun h => absurd h h3, fun _ => ?_⟩
    · refine Nat.lt_pow_two_of_testBit q fun i hi => ?_
      rw [h6, decide_eq_false (by omega), Bool.false_and]
    · have hS : ∀ d, q.testBit d = true ↔ d < n ∧ Rc (aW l) (bW l) (fun i => onT l og i ∧ rd left (i : Int) = 0) d c := by
        intro d
        rw [h6, Bool.and_eq_true, decide_eq_true_eq]
        exact ⟨fun ⟨a, b⟩ => ⟨a, (hiff d c a).1 b⟩, fun ⟨a, b⟩ => ⟨a, (hiff d c a).2 b⟩⟩
      refine ⟨fun h => ?_, ⟨c, hc, (hS c).2 ⟨hc, .refl⟩⟩, fun i t t0 tb => ?_, fun u v hu hv => ?_⟩
      · have := (hiff 0 c (by omega)).2 ((hS 0).1 h).2
        rw [h4] at this
        exact absurd this (by decide)
      · have hb := ((hS _).1 tb).2
        exact (hS _).2 ⟨onT_lt hx i t, (Rc.one (a := aW l) (b := bW l) (T := fun i => onT l og i ∧ rd left (i : Int) = 0) ⟨t, t0⟩).trans hb⟩
      · have hcv : Rc (aW l) (bW l) (fun i => onT l og i ∧ rd left (i : Int) = 0) c v := by
          obtain ⟨v1, v2⟩ := (hS v).1 hv
          exact (hiff c v hc).1 (h5 v v1 ((hiff v c v1).2 v2))
        have huv := ((hS u).1 hu).2.trans hcv
        have hvc := ((hS v).1 hv).2
        clear hcv
        have key : ∀ y, Rc (aW l) (bW l) (fun i => onT l og i ∧ rd left (i : Int) = 0) u y → Rc (aW l) (bW l) (fun i => onT l og i ∧ rd left (i : Int) = 0) y c → Rc (aW l) (bW l) (fun i => onT l og i ∧ rd left (i : Int) = 0 ∧ q.testBit (aW l i) = true ∧ q.testBit (bW l i) = true) u y := by
          intro y hy
          induction hy with
          | refl => exact fun _ => .refl
          | @step i t _ ih =>
            intro hyc
            have hac := (Rc.one (a := aW l) (b := bW l) (T := fun i => onT l og i ∧ rd left (i : Int) = 0) t).trans hyc
            exact .step ⟨t.1, t.2, (hS _).2 ⟨hTn _ t, hac⟩, (hS _).2 ⟨hTb _ t, hyc⟩⟩ (ih hac)
        exact key v huv hvc
end
end Go.Proofs.Ytpmadffgdfholaa.B
namespace Go.Proofs.Ytpmadffgdfholaa.B
set_option linter.unusedVariables false
def itP (π : Nat → Nat) : Nat → Nat → Nat
  | 0, c => c
  | k + 1, c => itP π k (π c)
theorem itP_succ (π : Nat → Nat) : ∀ k c, itP π (k + 1) c = π (itP π k c)
  | 0, _ => rfl
  | k + 1, c => itP_succ π k (π c)
theorem itP_add (π : Nat → Nat) : ∀ j k c, itP π (j + k) c = itP π k (itP π j c)
  | 0, k, c => by rw [Nat.zero_add]; rfl
  | j + 1, k, c => by rw [show j + 1 + k = (j + k) + 1 by omega]; exact itP_add π j k (π c)
theorem pigeons : ∀ (m : Nat) (h : Nat → Nat), (∀ i, i ≤ m → 1 ≤ h i ∧ h i ≤ m) → ∃ i j, i < j ∧ j ≤ m ∧ h i = h j
  | 0, h, hh => by have := hh 0 (Nat.le_refl _); omega
  | m + 1, h, hh => by
    by_cases hv : ∃ i, i ≤ m ∧ h i = h (m + 1)
    · obtain ⟨i, hi, e⟩ := hv
      exact ⟨i, m + 1, by omega, Nat.le_refl _, e⟩
    · have hne : ∀ i, i ≤ m → h i ≠ h (m + 1) := fun i hi e => hv ⟨i, hi, e⟩
      obtain ⟨i, j, hij, hj, e⟩ := pigeons m (fun i => if h i = m + 1 then h (m + 1) else h i) (by
        intro i hi
        have h1 := hh i (by omega)
        have h2 := hh (m + 1) (Nat.le_refl _)
        have h3 := hne i hi
        split <;> omega)
      have h1 := hne i (by omega)
      have h2 := hne j hj
      refine ⟨i, j, hij, by omega, ?_⟩
      split at e <;> split at e <;> omega
/-- The column of corner c that hangs on corner π c. -/
def colP (π : Nat → Nat) (c r : Nat) : Int := unitC c r - unitC (π c) r
section
variable {m : Nat} {π : Nat → Nat}
theorem hung_next (hπ : ∀ c, 1 ≤ c → c ≤ m → π c ≤ m) (S : Nat → Bool) : ∀ (k c : Nat), 1 ≤ c → c ≤ m → S c = false → itP π k c = 0 → ∃ d, 1 ≤ d ∧ d ≤ m ∧ S d = false ∧ (π d = 0 ∨ (S (π d) = true ∧ 1 ≤ π d ∧ π d ≤ m))
  | 0, c, h1, _, _, h => by rw [itP] at h; omega
  | k + 1, c, h1, h2, hS, h => by
    by_cases h0 : π c = 0
    · exact ⟨c, h1, h2, hS, .inl h0⟩
    · have hc := hπ c h1 h2
      cases hb : S (π c) with
      | true => exact ⟨c, h1, h2, hS, .inr ⟨hb, by omega, hc⟩⟩
      | false => exact hung_next hπ S k (π c) (by omega) hc hb h
theorem det_hung (hπ : ∀ c, 1 ≤ c → c ≤ m → π c ≤ m) (hr : ∀ c, 1 ≤ c → c ≤ m → ∃ k, itP π k c = 0) : detN m (colP π) = 1 := by
  have key : ∀ (d : Nat) (S : Nat → Bool), cntN (fun i => !S (i + 1)) m ≤ d → detN m (fun c => if S c = true then unitC c else colP π c) = 1 := by
    intro d
    induction d with
    | zero => ?_
    | succ d ih => ?_
    all_goals
      intro S hd
      by_cases hall : ∀ c, 1 ≤ c → c ≤ m → S c = true
      · rw [← detN_unit m]
        refine detN_congr m fun c r h1 h2 _ _ => ?_
        rw [if_pos (hall c h1 h2)]
      obtain ⟨c0, h1, h2, hS0⟩ : ∃ c, 1 ≤ c ∧ c ≤ m ∧ S c = false := by
        refine Classical.byContradiction fun hno => hall fun c h1 h2 => ?_
        cases hb : S c with
        | true => rfl
        | false => exact absurd ⟨c, h1, h2, hb⟩ hno
      obtain ⟨k, hk⟩ := hr c0 h1 h2
      obtain ⟨c, c1, c2, hSc, hp⟩ := hung_next hπ S k c0 h1 h2 hS0 hk
      have hlt : cntN (fun i => !(S (i + 1) || decide (i + 1 = c))) m < cntN (fun i => !S (i + 1)) m := by
        refine cntN_lt m (fun i hi h => ?_) (c - 1) (by omega) ?_ ?_
        · rw [Bool.not_or, Bool.and_eq_true] at h; exact h.1
        · rw [show c - 1 + 1 = c by omega, hSc]; rfl
        · rw [show c - 1 + 1 = c by omega]; simp
    · omega
    · have h := ih (fun e => S e || decide (e = c)) (by omega)
      have hG : (fun e => if (S e || decide (e = c)) = true then unitC e else colP π e) = updC (fun e => if S e = true then unitC e else colP π e) c (unitC c) := by
        funext e
        unfold updC
        by_cases he : e = c
        · subst he; simp
        · simp [he]
      rw [hG] at h
      have hself : updC (fun e => if S e = true then unitC e else colP π e) c (colP π c) = fun e => if S e = true then unitC e else colP π e := by
        funext e
        unfold updC
        by_cases he : e = c
        · subst he; rw [if_pos rfl, if_neg (by rw [hSc]; decide)]
        · rw [if_neg he]
      have hsum : unitC c = fun r => colP π c r + unitC (π c) r := by
        funext r; unfold colP; omega
      rcases hp with hp | ⟨hp, p1, p2⟩
      · rw [← h, ← hself]
        refine detN_congr m fun e r _ _ r1 _ => ?_
        unfold updC
        by_cases he : e = c
        · rw [if_pos he, if_pos he]
          have : unitC 0 r = 0 := if_neg (by omega)
          unfold colP
          rw [hp, this, Int.sub_zero]
        · rw [if_neg he, if_neg he]
      · rw [hsum, detN_add m c _ _ _ c1 c2, hself] at h
        have hne : c ≠ π c := fun e => by rw [← e, hSc] at hp; exact absurd hp (by decide)
        have hdup := detN_dup m c (π c) (fun e => if S e = true then unitC e else colP π e) c1 c2 p1 p2 hne
        rw [if_pos hp] at hdup
        rw [hdup] at h
        omega
  have := key m (fun _ => false) (cntN_bound _ m)
  rw [← this]
  rfl
theorem det_ring (hπ : ∀ c, 1 ≤ c → c ≤ m → π c ≤ m) {c : Nat} (hc1 : 1 ≤ c) (hc2 : c ≤ m) (hno : ∀ k, itP π k c ≠ 0) : detN m (colP π) = 0 := by
  have hin : ∀ k, 1 ≤ itP π k c ∧ itP π k c ≤ m := by
    intro k
    induction k with
    | zero => exact ⟨hc1, hc2⟩
    | succ k ih =>
      have := hno (k + 1)
      rw [itP_succ] at this ⊢
      have := hπ _ ih.1 ih.2
      omega
  obtain ⟨i, j, hij, _, e⟩ := pigeons m (fun k => itP π k c) fun k _ => hin k
  obtain ⟨x, hx⟩ : ∃ x, x = itP π i c := ⟨_, rfl⟩
  have hx1 : 1 ≤ x ∧ x ≤ m := hx ▸ hin i
  have hxin : ∀ k, 1 ≤ itP π k x ∧ itP π k x ≤ m := fun k => by
    rw [hx, ← itP_add]; exact hin _
  have hback : ∃ k, itP π (k + 1) x = x := ⟨j - i - 1, by
    rw [hx, ← itP_add, show i + (j - i - 1 + 1) = j by omega]; exact e.symm⟩
  obtain ⟨k, hk, hmin⟩ := least_nat hback
  have tele : ∀ t, t ≤ k → detN m (colP π) = detN m (updC (colP π) x (fun r => unitC x r - unitC (itP π (t + 1) x) r)) := by
    intro t
    induction t with
    | zero =>
      intro _
      have : (fun r => unitC x r - unitC (itP π (0 + 1) x) r) = colP π x := rfl
      rw [this, updC_self]
    | succ t ih =>
      intro ht
      rw [ih (by omega)]
      have hne : x ≠ itP π (t + 1) x := fun h => hmin t (by omega) h.symm
      have hdup := detN_dup m x (itP π (t + 1) x) (colP π) hx1.1 hx1.2 (hxin _).1 (hxin _).2 hne
      have hs : (fun r => unitC x r - unitC (itP π (t + 1 + 1) x) r) = fun r => (unitC x r - unitC (itP π (t + 1) x) r) + colP π (itP π (t + 1) x) r := by
        funext r
        unfold colP
        rw [itP_succ π (t + 1) x]
        omega
      rw [hs, detN_add m x _ _ _ hx1.1 hx1.2, hdup, Int.add_zero]
  rw [tele k (Nat.le_refl _), hk]
  have : (fun r => unitC x r - unitC x r) = fun _ => 0 := by funext r; omega
  rw [this]
  exact detN_zero m x _ hx1.1 hx1.2
end
section
variable {n : Nat} {a b : Nat → Nat} {T : Nat → Prop} {f : Nat → Nat}
theorem chain_iff (hf : ∀ c, 0 < c → c < n → b (f c) = c ∧ a (f c) < n) (hn : 0 < n) : (∀ c, c < n → Rc a b (fun i => ∃ c, 0 < c ∧ c < n ∧ i = f c) 0 c) ↔ ∀ c, 0 < c → c < n → ∃ k, itP (fun c => a (f c)) k c = 0 := by
  constructor
  · intro h c c0 hc
    have := h c hc
    clear hc c0
    induction this with
    | refl => exact ⟨0, rfl⟩
    | @step i t _ ih =>
      obtain ⟨e, e0, e1, rfl⟩ := t
      obtain ⟨k, hk⟩ := ih
      rw [(hf e e0 e1).1]
      exact ⟨k + 1, hk⟩
  · intro h c hc
    by_cases h0 : 0 < c
    · obtain ⟨k, hk⟩ := h c h0 hc
      clear h0
      induction k generalizing c with
      | zero => rw [itP] at hk; subst hk; exact .refl
      | succ k ih =>
        by_cases h0 : 0 < c
        · obtain ⟨h1, h2⟩ := hf c h0 hc
          have := Rc.step (a := a) (b := b) (T := fun i => ∃ c, 0 < c ∧ c < n ∧ i = f c) (i := f c) ⟨c, h0, hc, rfl⟩ (ih (a (f c)) h2 hk)
          rwa [h1] at this
        · obtain rfl : c = 0 := by omega
          exact .refl
    · obtain rfl : c = 0 := by omega
      exact .refl
/-- The branchings that choose a street of L for each corner from k on, where f has been chosen below k. -/
def cntB (leaf : (Nat → Nat) → Int) (b : Nat → Nat) (len : Nat) : Nat → Nat → (Nat → Nat) → Int
  | 0, _, f => leaf f
  | d + 1, k, f => sumZ (fun i => if b i = k then cntB leaf b len d (k + 1) (fun c => if c = k then i else f c) else 0) len
/-- The table's column of corner c: all streets that lead to it. -/
def fullC (a b : Nat → Nat) (len c r : Nat) : Int := sumZ (fun i => if b i = c then unitC c r - unitC (a i) r else 0) len
theorem detN_sum (m c : Nat) (g : Nat → Nat → Int) (e : Nat → Nat → Int) (h1 : 1 ≤ c) (h2 : c ≤ m) : ∀ L, detN m (updC g c (fun r => sumZ (fun i => e i r) L)) = sumZ (fun i => detN m (updC g c (e i))) L
  | 0 => detN_zero m c g h1 h2
  | L + 1 => by
    simp only [sumZ]
    rw [detN_add m c g _ _ h1 h2, detN_sum m c g e h1 h2 L]
def partC (a b : Nat → Nat) (len : Nat) (f : Nat → Nat) (k c : Nat) : Nat → Int := if c < k then colP (fun c => a (f c)) c else fullC a b len c
theorem det_count (len m : Nat) : ∀ (d k : Nat) (f : Nat → Nat), k + d = m + 1 → 1 ≤ k → detN m (partC a b len f k) = cntB (fun f => detN m (colP (fun c => a (f c)))) b len d k f
  | 0, k, f, h, h1 => by
    rw [cntB]
    refine detN_congr m fun c r c1 c2 _ _ => ?_
    unfold partC
    rw [if_pos (by omega)]
  | d + 1, k, f, h, h1 => by
    rw [cntB]
    have hself : partC a b len f k = updC (partC a b len f k) k (fun r => sumZ (fun i => (if b i = k then unitC k r - unitC (a i) r else 0)) len) := by
      funext c
      unfold updC
      by_cases e : c = k
      · subst e; rw [if_pos rfl]; unfold partC; rw [if_neg (by omega)]; rfl
      · rw [if_neg e]
    rw [hself, detN_sum m k _ (fun i r => if b i = k then unitC k r - unitC (a i) r else 0) h1 (by omega) len]
    refine sumZ_congr len fun i _ => ?_
    by_cases hb : b i = k
    · rw [if_pos hb, ← det_count len m d (k + 1) (fun c => if c = k then i else f c) (by omega) (by omega)]
      congr 1
      funext c
      unfold updC partC
      by_cases e : c = k
      · subst e
        rw [if_pos rfl, if_pos (by omega)]
        funext r
        unfold colP
        rw [if_pos hb]
        dsimp only
        rw [if_pos rfl]
      · rw [if_neg e]
        by_cases h2 : c < k
        · rw [if_pos h2, if_pos (by omega)]
          funext r
          unfold colP
          dsimp only
          rw [if_neg e]
        · rw [if_neg h2, if_neg (by omega)]
    · rw [if_neg hb]
      have : (fun r => if b i = k then unitC k r - unitC (a i) r else 0) = fun _ => (0 : Int) := by
        funext r; rw [if_neg hb]
      rw [this]
      exact detN_zero m k _ h1 (by omega)
/-- What cntB says of its leaves. -/
theorem cntB_nonneg {leaf : (Nat → Nat) → Int} (h : ∀ f, 0 ≤ leaf f) (len : Nat) : ∀ (d k : Nat) (f : Nat → Nat), 0 ≤ cntB leaf b len d k f
  | 0, _, f => h f
  | d + 1, k, f => by
    rw [cntB]
    have := sumZ_le (g := fun _ => 0) (h := fun i => if b i = k then cntB leaf b len d (k + 1) (fun c => if c = k then i else f c) else 0) len (fun i _ => by
      split
      · exact cntB_nonneg h len d (k + 1) _
      · exact Int.le_refl _)
    rwa [sumZ_zero] at this
theorem cntB_pos {leaf : (Nat → Nat) → Int} (h : ∀ f, 0 ≤ leaf f) (len : Nat) {g : Nat → Nat} (hg : 0 < leaf g) (hall : ∀ f, (∀ c, 0 < c → c < n → f c = g c) → leaf f = leaf g) : ∀ (d k : Nat) (f : Nat → Nat), k + d = n → 1 ≤ k → (∀ c, 0 < c → c < k → f c = g c) → (∀ c, k ≤ c → c < n → b (g c) = c ∧ g c < len) → 0 < cntB leaf b len d k f
  | 0, k, f, hk, _, he, _ => by
    rw [cntB, hall f fun c c0 c1 => he c c0 (by omega)]; exact hg
  | d + 1, k, f, hk, h1, he, hb => by
    rw [cntB]
    obtain ⟨b1, b2⟩ := hb k (Nat.le_refl _) (by omega)
    have ih := cntB_pos h len hg hall d (k + 1) (fun c => if c = k then g k else f c) (by omega) (by omega) (fun c c0 c1 => by
      by_cases e : c = k
      · subst e; rw [if_pos rfl]
      · rw [if_neg e]; exact he c c0 (by omega)) (fun c h1 h2 => hb c (by omega) h2)
    have := sumZ_ge_one (g := fun i => if b i = k then cntB leaf b len d (k + 1) (fun c => if c = k then i else f c) else 0) (v := g k) len b2 (fun i _ => by
      split
      · exact cntB_nonneg h len d (k + 1) _
      · exact Int.le_refl _)
    rw [if_pos b1] at this
    omega
theorem cntB_some {leaf : (Nat → Nat) → Int} (len : Nat) : ∀ (d k : Nat) (f : Nat → Nat), 0 < cntB leaf b len d k f → ∃ g, 0 < leaf g ∧ (∀ c, c < k → g c = f c) ∧ ∀ c, k ≤ c → c < k + d → b (g c) = c ∧ g c < len
  | 0, k, f, h => ⟨f, h, fun _ _ => rfl, fun c h1 h2 => by omega⟩
  | d + 1, k, f, h => by
    rw [cntB] at h
    have hex : ∃ i, i < len ∧ b i = k ∧ 0 < cntB leaf b len d (k + 1) (fun c => if c = k then i else f c) := by
      refine Classical.byContradiction fun hno => ?_
      have := sumZ_le (g := fun i => if b i = k then cntB leaf b len d (k + 1) (fun c => if c = k then i else f c) else 0) (h := fun _ => 0) len (fun i hi => by
        split
        · rename_i hb
          exact Int.not_lt.mp fun hp => hno ⟨i, hi, hb, hp⟩
        · exact Int.le_refl _)
      rw [sumZ_zero] at this
      omega
    obtain ⟨i, hi, hb, hp⟩ := hex
    obtain ⟨g, g1, g2, g3⟩ := cntB_some len d (k + 1) _ hp
    refine ⟨g, g1, fun c hc => ?_, fun c h1 h2 => ?_⟩
    · rw [g2 c (by omega), if_neg (by omega)]
    · by_cases e : c = k
      · subst e
        have := g2 c (by omega)
        rw [if_pos rfl] at this
        rw [this]
        exact ⟨hb, hi⟩
      · exact g3 c (by omega) (by omega)
theorem cntB_bound {leaf : (Nat → Nat) → Int} (h1 : ∀ f, leaf f ≤ 1) (len : Nat) : ∀ (d k : Nat) (f : Nat → Nat), cntB leaf b len d k f ≤ (len : Int) ^ d
  | 0, _, f => by rw [cntB, Int.pow_zero]; exact h1 f
  | d + 1, k, f => by
    rw [cntB]
    have hp : (0 : Int) ≤ (len : Int) ^ d := Int.pow_nonneg (by omega)
    have := sumZ_le (g := fun i => if b i = k then cntB leaf b len d (k + 1) (fun c => if c = k then i else f c) else 0) (h := fun _ => (len : Int) ^ d) len (fun i _ => by
      split
      · exact cntB_bound h1 len d (k + 1) _
      · exact hp)
    refine Int.le_trans this ?_
    have hc : ∀ (x : Int) (k : Nat), sumZ (fun _ => x) k = (k : Int) * x := by
      intro x k
      induction k with
      | zero => simp [sumZ]
      | succ k ih => rw [sumZ, ih, Int.natCast_succ, Int.add_mul, Int.one_mul]
    rw [hc, Int.pow_succ, Int.mul_comm]
    exact Int.le_refl _
end
end Go.Proofs.Ytpmadffgdfholaa.B
namespace Go.Proofs.Ytpmadffgdfholaa.B
open Go.RowKit Go.Proofs.YtpmadffgdfholaaW.PrintWords Go.Proofs.YtpmadffgdfholaaW.PrintLast Go.Proofs.YtpmadffgdfholaaW.PrintMore
/-- Columns without the one at place p. -/
def cut1 (cols : List Int) (p : Nat) : List Int := cols.take p ++ cols.drop (p + 1)
/-- The sum along a row, from place p on. -/
def loopD (r cols : List Int) (D : Nat → Int) : Nat → Nat → Int → Int → Int
  | 0, _, s, _ => s
  | d + 1, p, s, g => if rd r (rd cols (p : Int)) = 0 then loopD r cols D d (p + 1) s (wrap64 (-g)) else loopD r cols D d (p + 1) (wrap64 (s + wrap64 (wrap64 (g * rd r (rd cols (p : Int))) * D p))) (wrap64 (-g))
/-- The determinant of rows at some columns. -/
def detW : List (List Int) → List Int → Int
  | [], _ => 1
  | r :: rows, cols => loopD r cols (fun p => detW rows (cut1 cols p)) cols.length 0 0 1
theorem cut1_length (cols : List Int) (p : Nat) (h : p < cols.length) : (cut1 cols p).length = cols.length - 1 := by
  simp [cut1]; omega
def minor1 (p : Nat) (row : List Int) : List Int := row.take p ++ row.drop (p + 1)
def sub1 (rows : List (List Int)) (cols : List Int) : List (List Int) := rows.map fun r => cols.map fun c => rd r c
theorem sub1_minor (rows : List (List Int)) (cols : List Int) (p : Nat) : (sub1 rows cols).map (minor1 p) = sub1 rows (cut1 cols p) := by
  simp [sub1, minor1, cut1, List.map_take, List.map_drop]
theorem rd_L12_at (Y : List (List Int)) (q : Nat) (h : q < Y.length) : rd_L12 Y (q : Int) = Y[q] := by
  simp [rd_L12, List.getD, List.getElem?_eq_getElem h]
theorem rd_map (r cols : List Int) (p : Nat) (h : p < cols.length) : rd (cols.map fun c => rd r c) (p : Int) = rd r (rd cols (p : Int)) := by
  simp [rd, List.getD, List.getElem?_eq_getElem h, List.getElem?_map]
theorem code_inner (T Y : List (List Int)) (T0 : List Int) (s g x : Int) (p c : Nat) (hp : p < c) (hc : c < 1000) (hY : ∀ r ∈ Y, r.length = c) (hYl : Y.length < 1000) :
    ∀ e q k acc, q + e = Y.length → acc.length + e < 2000 → branch_determinant.l1 (k + e + 1) T s g (p : Int) x acc T0 (c : Int) (p : Int) Y (Y.length : Int) (q : Int) =
      (branch_determinant.f k (acc ++ (Y.drop q).map (minor1 p))).bind fun t119 => (branch_determinant.l0 k T (wrap64 (s + (wrap64 ((wrap64 (g * x)) * t119)))) (wrap64 (-g)) T0 (c : Int) (wrap64 ((p : Int) + 1)))
  | 0, q, k, acc, h, _ => by
    simp only [branch_determinant.l1]
    rw [if_neg (by omega), List.drop_eq_nil_of_le (by omega), List.map_nil, List.append_nil]
  | e + 1, q, k, acc, h, ha => by
    have hq : q < Y.length := by omega
    have hw := wrap_nat q (by omega)
    have hwp := wrap_nat p (by omega)
    have hlen : (Y[q]).length = c := hY _ (List.getElem_mem hq)
    have hcl : slices_Clone.f ((Y[q]).take p) = some ((Y[q]).take p) := by
      unfold slices_Clone.f
      rw [if_pos (by rw [List.length_take]; omega)]
    have ih := code_inner T Y T0 s g x p c hp hc hY hYl e (q + 1) k (acc ++ [minor1 p Y[q]]) (by omega) (by simp; omega)
    have hl3 : ((Y[q]).take p).length + ((Y[q]).drop (p + 1)).length < 17592186044416 := by rw [List.length_take, List.length_drop]; omega
    rw [show k + (e + 1) + 1 = (k + e + 1) + 1 from by omega]
    generalize k + e + 1 = qq at ih
    simp only [branch_determinant.l1, rd_L12_at Y q hq, hw, hwp, Int.toNat_natCast, hcl, Option.bind_some, hlen]
    rw [if_pos (by omega), if_pos (by omega), if_pos (by omega), if_pos (by omega), if_pos (by omega), if_pos (by omega), if_pos (by omega), if_pos hl3, if_pos (by omega)]
    rw [List.drop_eq_getElem_cons hq, List.map_cons]
    have e1 : acc ++ (minor1 p Y[q] :: (Y.drop (q + 1)).map (minor1 p)) = (acc ++ [minor1 p Y[q]]) ++ (Y.drop (q + 1)).map (minor1 p) := by simp
    rw [e1, ← hwp, ← ih]
    rfl
theorem code_loop (T Y : List (List Int)) (r cols : List Int) (D : Nat → Int) (K : Nat) (hT : T = (cols.map fun c => rd r c) :: Y) (hc : cols.length < 1000) (hY : ∀ r ∈ Y, r.length = cols.length) (hYl : Y.length < 1000)
    (hD : ∀ p, p < cols.length → ∀ k, K ≤ k → branch_determinant.f k (Y.map (minor1 p)) = some (D p)) :
    ∀ d p k s g, p + d = cols.length → K ≤ k → branch_determinant.l0 (k + (Y.length + 2) * d + 1) T s g (cols.map fun c => rd r c) (cols.length : Int) (p : Int) = some (loopD r cols D d p s g)
  | 0, p, k, s, g, h, hk => by
    simp only [branch_determinant.l0, loopD, Nat.mul_zero, Nat.add_zero]
    rw [if_neg (by omega)]
  | d + 1, p, k, s, g, h, hk => by
    have hp : p < cols.length := by omega
    have hw := wrap_nat p (by omega)
    have ih0 := fun s g => code_loop T Y r cols D K hT hc hY hYl hD d (p + 1) (k + Y.length + 1) s g (by omega) (by omega)
    have ih1 := fun s g => code_loop T Y r cols D K hT hc hY hYl hD d (p + 1) k s g (by omega) hk
    have hDp := hD p hp (k + (Y.length + 2) * d + 1) (Nat.le_trans hk (by omega))
    have hin := fun s g x => code_inner T Y (cols.map fun c => rd r c) s g x p cols.length hp hc hY hYl Y.length 0 (k + (Y.length + 2) * d + 1) [] (by omega) (by simp; omega)
    have hTl : T.length = Y.length + 1 := by rw [hT]; simp
    have hTd : T.drop 1 = Y := by rw [hT]; rfl
    have e1 : k + (Y.length + 2) * (d + 1) + 1 = (k + Y.length + 1 + (Y.length + 2) * d + 1) + 1 := by rw [Nat.mul_succ]; omega
    have e2 : k + Y.length + 1 + (Y.length + 2) * d + 1 = k + (Y.length + 2) * d + 1 + Y.length + 1 := by omega
    rw [e1]
    rw [e2] at ih0 ⊢
    generalize k + (Y.length + 2) * d + 1 + Y.length + 1 = qq at ih0 hin
    simp only [branch_determinant.l0, loopD, rd_map r cols p hp, hw, List.length_map, hTd, Option.bind_some]
    rw [if_pos (by omega), if_pos (by omega), if_pos (by omega)]
    by_cases h0 : rd r (rd cols (p : Int)) = 0
    · rw [if_pos h0, if_pos h0]
      exact ih0 _ _
    · rw [if_neg h0, if_neg h0, if_pos (by omega)]
      have := hin s g (rd r (rd cols (p : Int)))
      simp only [List.nil_append, List.drop_zero, hDp, Option.bind_some, hw] at this
      rw [show ((0 : Nat) : Int) = 0 from rfl] at this
      rw [this]
      exact ih1 _ _
theorem code_det : ∀ (rows : List (List Int)) (cols : List Int), rows.length = cols.length → cols.length < 1000 → ∃ K, ∀ k, K ≤ k → branch_determinant.f k (sub1 rows cols) = some (detW rows cols)
  | [], cols, hl, _ => by
    refine ⟨1, fun k hk => ?_⟩
    obtain ⟨k, rfl⟩ : ∃ k', k = k' + 1 := ⟨k - 1, by omega⟩
    simp only [branch_determinant.f, detW, sub1]
    rfl
  | r :: rows, cols, hl, hc => by
    have hcl : 0 < cols.length := by simp at hl; omega
    have hD : ∀ p : Nat, ∃ K, p < cols.length → ∀ k, K ≤ k → branch_determinant.f k (sub1 rows (cut1 cols p)) = some (detW rows (cut1 cols p)) := by
      intro p
      by_cases hp : p < cols.length
      · have hcut := cut1_length cols p hp
        obtain ⟨K, hK⟩ := code_det rows (cut1 cols p) (by simp at hl; omega) (by omega)
        exact ⟨K, fun _ => hK⟩
      · exact ⟨0, fun h => absurd h hp⟩
    obtain ⟨F, hF⟩ := Classical.axiomOfChoice hD
    obtain ⟨K, hK⟩ : ∃ K, ∀ p, p < cols.length → F p ≤ K := by
      refine ⟨((List.range cols.length).map F).foldr max 0, fun p hp => ?_⟩
      have : ∀ (l : List Nat) (x : Nat), x ∈ l → x ≤ l.foldr max 0 := by
        intro l
        induction l with
        | nil => intro x hx; cases hx
        | cons y l ih =>
          intro x hx
          rcases List.mem_cons.1 hx with rfl | hx
          · exact Nat.le_max_left _ _
          · exact Nat.le_trans (ih x hx) (Nat.le_max_right _ _)
      exact this _ _ (List.mem_map.2 ⟨p, List.mem_range.2 hp, rfl⟩)
    have hYl : (sub1 rows cols).length = rows.length := by simp [sub1]
    refine ⟨K + (rows.length + 2) * cols.length + 2, fun k hk => ?_⟩
    have hfin := code_loop (sub1 (r :: rows) cols) (sub1 rows cols) r cols (fun p => detW rows (cut1 cols p)) K rfl hc (fun x hx => by
        obtain ⟨y, _, rfl⟩ := List.mem_map.1 hx
        simp) (by simp at hl; omega) (fun p hp k' hk' => by rw [sub1_minor]; exact hF p hp k' (Nat.le_trans (hK p hp) hk')) cols.length 0 (k - (rows.length + 2) * cols.length - 2) 0 1 (by omega) (by omega)
    rw [hYl, show k - (rows.length + 2) * cols.length - 2 + (rows.length + 2) * cols.length + 1 = k - 1 from by omega] at hfin
    obtain ⟨k, rfl⟩ : ∃ k', k = k' + 1 := ⟨k - 1, by omega⟩
    simp only [branch_determinant.f, detW]
    rw [if_neg (by simp [sub1]; omega), if_pos (by simp [sub1])]
    have e0 : rd_L12 (sub1 (r :: rows) cols) 0 = cols.map fun c => rd r c := rfl
    rw [e0, List.length_map]
    exact hfin
end Go.Proofs.Ytpmadffgdfholaa.B
namespace Go.Proofs.Ytpmadffgdfholaa.B
open Go.RowKit Go.Proofs.YtpmadffgdfholaaW.PrintWords Go.Proofs.YtpmadffgdfholaaW.PrintLast Go.Proofs.YtpmadffgdfholaaW.PrintMore
def Sq (m : Nat) (X : List (List Int)) : Prop := X.length = m ∧ ∀ r ∈ X, r.length = m
theorem sq_row {m : Nat} {X : List (List Int)} (h : Sq m X) (w : Int) (h0 : 0 ≤ w) (h1 : w < (m : Int)) : (rd_L12 X w).length = m := by
  obtain ⟨j, rfl⟩ := Int.eq_ofNat_of_zero_le h0
  have hj : j < X.length := by have := h.1; omega
  rw [rd_L12_at X j hj]
  exact h.2 _ (List.getElem_mem hj)
theorem sq_set {m : Nat} {X : List (List Int)} (h : Sq m X) (j : Nat) (r : List Int) (hr : r.length = m) : Sq m (X.set j r) := by
  refine ⟨by rw [List.length_set]; exact h.1, fun y hy => ?_⟩
  rcases List.mem_or_eq_of_mem_set hy with hy | rfl
  · exact h.2 y hy
  · exact hr
/-- What a street does to the table. -/
def stepA (X : List (List Int)) (x : S30) : List (List Int) :=
  X.set ((wrap64 (x.f1 - 1)) : Int).toNat ((rd_L12 X (wrap64 (x.f1 - 1))).set ((wrap64 (x.f1 - 1)) : Int).toNat (wrap64 ((rd (rd_L12 X (wrap64 (x.f1 - 1))) (wrap64 (x.f1 - 1))) + 1)))
def stepB (Y : List (List Int)) (x : S30) : List (List Int) :=
  Y.set ((wrap64 (x.f0 - 1)) : Int).toNat ((rd_L12 Y (wrap64 (x.f0 - 1))).set ((wrap64 (x.f1 - 1)) : Int).toNat (wrap64 ((rd (rd_L12 Y (wrap64 (x.f0 - 1))) (wrap64 (x.f1 - 1))) - 1)))
def stepT (X : List (List Int)) (x : S30) : List (List Int) := if x.f1 > 0 then (if x.f0 > 0 then stepB (stepA X x) x else stepA X x) else X
theorem wrap_pred (a : Int) (h0 : 0 < a) (h1 : a ≤ 7) : wrap64 (a - 1) = a - 1 := by unfold wrap64; omega
theorem stepA_sq {m : Nat} {X : List (List Int)} {x : S30} (h : Sq m X) (h0 : 0 < x.f1) (h1 : x.f1 ≤ (m : Int)) (hm : m ≤ 6) : Sq m (stepA X x) := by
  have e := wrap_pred x.f1 h0 (by omega)
  refine sq_set h _ _ ?_
  rw [List.length_set]
  exact sq_row h _ (by omega) (by omega)
theorem stepB_sq {m : Nat} {X : List (List Int)} {x : S30} (h : Sq m X) (h0 : 0 < x.f0) (h1 : x.f0 ≤ (m : Int)) (hm : m ≤ 6) : Sq m (stepB X x) := by
  have e := wrap_pred x.f0 h0 (by omega)
  refine sq_set h _ _ ?_
  rw [List.length_set]
  exact sq_row h _ (by omega) (by omega)
theorem stepT_sq {m : Nat} {X : List (List Int)} {x : S30} {n : Int} (h : Sq m X) (hn : n = (m : Int) + 1) (hm : m ≤ 6) (hx : wayOk n x = true) : Sq m (stepT X x) := by
  obtain ⟨h1, h2, h3, h4, _⟩ := (wayOk_iff n x).1 hx
  unfold stepT
  split
  · split
    · exact stepB_sq (stepA_sq h (by omega) (by omega) hm) (by omega) (by omega) hm
    · exact stepA_sq h (by omega) (by omega) hm
  · exact h
theorem fold_sq {m : Nat} {n : Int} (hn : n = (m : Int) + 1) (hm : m ≤ 6) : ∀ (l : List S30) (X : List (List Int)), Sq m X → (∀ x ∈ l, wayOk n x = true) → Sq m (l.foldl stepT X)
  | [], _, h, _ => h
  | x :: l, X, h, hx => fold_sq hn hm l (stepT X x) (stepT_sq h hn hm (hx x List.mem_cons_self)) (fun y hy => hx y (List.mem_cons_of_mem _ hy))
section
variable {n : Int} {l : List S30} {m : Nat}
theorem count_l1 (hn : n = (m : Int) + 1) (hm : m ≤ 6) (hl : l.length ≤ 30) (hx : ∀ x ∈ l, wayOk n x = true) : ∀ d i k X, i + d = l.length → Sq m X →
    branch_Count.l1 (k + d + 1) X l (l.length : Int) (i : Int) = (branch_determinant.f k ((l.drop i).foldl stepT X)).bind fun t126 => some (t126, 0)
  | 0, i, k, X, h, _ => by
    simp only [branch_Count.l1]
    rw [if_neg (by omega), List.drop_eq_nil_of_le (by omega)]
    rfl
  | d + 1, i, k, X, h, hs => by
    have hi : i < l.length := by omega
    have hw := wrap_nat i (by omega)
    have hok : wayOk n (rd_T30 l (i : Int)) = true := hx _ (by
      simp [rd_T30, List.getD, List.getElem?_eq_getElem hi])
    have ih := count_l1 hn hm hl hx d (i + 1) k (stepT X (rd_T30 l (i : Int))) (by omega) (stepT_sq hs hn hm hok)
    rw [drop_rd30 l i hi, List.foldl_cons, ← ih, show k + (d + 1) + 1 = (k + d + 1) + 1 from by omega]
    clear ih
    generalize k + d + 1 = q
    simp only [branch_Count.l1, hw]
    rw [if_pos (by omega), if_pos (by omega), if_pos (by omega)]
    generalize rd_T30 l (i : Int) = x at hok
    obtain ⟨h1, h2, h3, h4, _⟩ := (wayOk_iff n x).1 hok
    unfold stepT
    by_cases t1 : x.f1 > 0
    · have e1 := wrap_pred x.f1 (by omega) (by omega)
      have r1 := sq_row hs (wrap64 (x.f1 - 1)) (by omega) (by omega)
      have hA := stepA_sq hs (x := x) (by omega) (by omega) hm
      have hXl := hs.1
      rw [if_pos t1, if_pos t1, if_pos (by omega), if_pos (by omega), if_pos (by omega), Option.bind_some]
      by_cases t0 : x.f0 > 0
      · have e0 := wrap_pred x.f0 (by omega) (by omega)
        have r0 := sq_row hA (wrap64 (x.f0 - 1)) (by omega) (by omega)
        unfold stepA at r0
        rw [if_pos t0, if_pos t0, if_pos (by omega), if_pos (by omega), if_pos (by rw [r0]; omega)]
        rfl
      · rw [if_neg t0, if_neg t0]
        rfl
    · rw [if_neg t1, if_neg t1]
/-- The empty table. -/
def zeros (m : Nat) : List Int := List.replicate m 0
theorem wrap_n (hn : n = (m : Int) + 1) (hm : m ≤ 6) : wrap64 (n - 1) = (m : Int) := by unfold wrap64; omega
theorem count_l0 (hn : n = (m : Int) + 1) (hm : m ≤ 6) : ∀ d j k, j + d = m → branch_Count.l0 (k + d + 1) n (List.replicate j (zeros m) ++ List.replicate (m - j) []) (m : Int) (j : Int) n l =
    branch_Count.l1 k (List.replicate m (zeros m)) l (l.length : Int) 0
  | 0, j, k, h => by
    obtain rfl : j = m := by omega
    simp only [branch_Count.l0]
    rw [if_neg (by omega), Nat.sub_self]
    simp
  | d + 1, j, k, h => by
    have ih := count_l0 hn hm d (j + 1) k (by omega)
    have hw := wrap_nat j (by omega)
    rw [← ih, show k + (d + 1) + 1 = (k + d + 1) + 1 from by omega]
    clear ih
    generalize k + d + 1 = q
    simp only [branch_Count.l0, wrap_n hn hm, hw, Int.toNat_natCast]
    rw [if_pos (by omega), if_pos (by omega), if_pos (by omega), if_pos (by omega), if_pos (by simp; omega)]
    congr 1
    rw [List.set_append_right _ _ (by simp), List.length_replicate, Nat.sub_self, show m - j = (m - (j + 1)) + 1 from by omega, List.replicate_succ, List.set_cons_zero, List.replicate_succ' (n := j), List.append_assoc]
    rfl
theorem rows_self {M : List (List Int)} (h : Sq m M) : sub1 M ((List.range m).map fun q : Nat => (q : Int)) = M := by
  unfold sub1
  refine (List.map_congr_left fun r hr => ?_).trans (List.map_id _)
  have hl := h.2 r hr
  apply List.ext_getElem?
  intro j
  rw [List.map_map, List.getElem?_map]
  by_cases hj : j < m
  · rw [List.getElem?_range hj]
    simp [rd, List.getD, List.getElem?_eq_getElem (show j < r.length by omega)]
  · rw [List.getElem?_eq_none (by simp; omega), List.getElem?_eq_none (by simp; omega)]
    rfl
end
end Go.Proofs.Ytpmadffgdfholaa.B
namespace Go.Proofs.Ytpmadffgdfholaa.B
set_option linter.unusedVariables false
open Go.RowKit Go.Proofs.YtpmadffgdfholaaW.PrintWords Go.Proofs.YtpmadffgdfholaaW.PrintLast Go.Proofs.YtpmadffgdfholaaW.PrintMore
/-- Street i enters the set q. -/
def entB (l : List S30) (q : Nat) (i : Nat) : Bool := !q.testBit (aW l i) && q.testBit (bW l i)
def entL (l : List S30) (q : Nat) : List Int := ((List.range l.length).filter (entB l q)).map fun i : Nat => (i : Int)
theorem entL_mem (l : List S30) (q i : Nat) : (i : Int) ∈ entL l q ↔ i < l.length ∧ entB l q i = true := by
  unfold entL
  simp only [List.mem_map, List.mem_filter, List.mem_range]
  constructor
  · rintro ⟨j, h, e⟩
    obtain rfl : j = i := by omega
    exact h
  · exact fun h => ⟨i, h, rfl⟩
theorem entL_nat (l : List S30) (q : Nat) : ∀ x ∈ entL l q, ∃ i : Nat, x = (i : Int) ∧ i < l.length := by
  intro x hx
  unfold entL at hx
  obtain ⟨i, hi, rfl⟩ := List.mem_map.1 hx
  exact ⟨i, rfl, by have := (List.mem_filter.1 hi).1; simpa using this⟩
theorem nodup_map_cast : ∀ {L : List Nat}, L.Nodup → (L.map fun i : Nat => (i : Int)).Nodup
  | [], _ => List.nodup_nil
  | x :: L, h => by
    rw [List.nodup_cons] at h
    rw [List.map_cons, List.nodup_cons]
    refine ⟨fun hm => ?_, nodup_map_cast h.2⟩
    obtain ⟨y, hy, e⟩ := List.mem_map.1 hm
    have e2 : y = x := by omega
    exact h.1 (e2 ▸ hy)
theorem entL_nodup (l : List S30) (q : Nat) : (entL l q).Nodup := nodup_map_cast (List.Pairwise.filter _ List.nodup_range)
theorem entL_length (l : List S30) (q : Nat) : (entL l q).length ≤ l.length := by
  unfold entL
  rw [List.length_map]
  exact Nat.le_trans (List.length_filter_le _ _) (by simp)
theorem entR_eq (l : List S30) (q : Nat) : ∀ (d i : Nat) (acc : List Int), i + d = l.length → acc = ((List.range i).filter (entB l q)).map (fun i : Nat => (i : Int)) → entR l q d i acc = entL l q
  | 0, i, acc, h, e => by
    obtain rfl : i = l.length := by omega
    exact e
  | d + 1, i, acc, h, e => by
    rw [entR]
    refine entR_eq l q d (i + 1) _ (by omega) ?_
    rw [List.range_succ, List.filter_append, List.map_append, ← e]
    have hb : (entB l q i = true) ↔ (q.testBit (rd_T30 l (i : Int)).f0.toNat = false ∧ q.testBit (rd_T30 l (i : Int)).f1.toNat = true) := by
      unfold entB aW bW
      rw [Bool.and_eq_true, Bool.not_eq_true']
    by_cases hc : entB l q i = true
    · rw [if_pos (hb.1 hc), List.filter_cons_of_pos hc]
      rfl
    · rw [if_neg (fun h => hc (hb.2 h)), List.filter_cons_of_neg hc]
      simp
theorem entering_f {n : Nat} {l : List S30} (hn : n ≤ 7) (hl : l.length ≤ 30) (hx : ∀ x ∈ l, wayOk n x = true) {q : Nat} (hq : q < 128) (k : Nat) (hk : 40 ≤ k) : branch_town_entering.f k (n : Int) l (q : Int) = some (entL l q) := by
  have c1 := ent_code (n := (n : Int)) (l := l) (s := q) (by omega) (by omega) hx hq l.length 0 (k - l.length - 1) [] (by omega) (by simp)
  rw [show k - l.length - 1 + l.length + 1 = k from by omega, entR_eq l q l.length 0 [] (by omega) (by simp)] at c1
  unfold branch_town_entering.f
  exact c1
def minL (left : List Int) (og : Int → Bool) : List Int → Int → Int
  | [], m => m
  | i :: E, m => minL left og E (if og i = true then m else if m < 0 then rd left i else if rd left i < m then rd left i else m)
theorem minL_spec (left : List Int) (og : Int → Bool) : ∀ (E : List Int) (m : Int), (∀ i ∈ E, og i = false → 0 ≤ rd left i) → -1 ≤ m →
    (minL left og E m = m ∨ ∃ i ∈ E, og i = false ∧ minL left og E m = rd left i) ∧ (0 ≤ m → minL left og E m ≤ m) ∧ (∀ i ∈ E, og i = false → 0 ≤ minL left og E m ∧ minL left og E m ≤ rd left i) ∧ -1 ≤ minL left og E m ∧ (0 ≤ m → 0 ≤ minL left og E m)
  | [], m, _, hm => ⟨.inl rfl, fun _ => Int.le_refl _, fun i hi => absurd hi (by simp), hm, fun h => h⟩
  | j :: E, m, h, hm => by
    have hj := h j List.mem_cons_self
    have hE : ∀ i ∈ E, og i = false → 0 ≤ rd left i := fun i hi => h i (List.mem_cons_of_mem _ hi)
    simp only [minL]
    cases hog : og j with
    | true =>
      obtain ⟨h1, h2, h3, h4, h5⟩ := minL_spec left og E m hE hm
      simp only [if_true]
      refine ⟨h1.imp id fun ⟨i, hi, e⟩ => ⟨i, List.mem_cons_of_mem _ hi, e⟩, h2, fun i hi ho => ?_, h4, h5⟩
      rcases List.mem_cons.1 hi with rfl | hi
      · rw [hog] at ho; exact absurd ho (by decide)
      · exact h3 i hi ho
    | false =>
      have hj0 := hj hog
      simp only [Bool.false_eq_true, if_false]
      generalize hm2 : (if m < 0 then rd left j else if rd left j < m then rd left j else m) = m2
      have e2 : (m2 = rd left j ∨ m2 = m) ∧ 0 ≤ m2 ∧ m2 ≤ rd left j ∧ (0 ≤ m → m2 ≤ m) := by
        rw [← hm2]
        split
        · exact ⟨.inl rfl, hj0, Int.le_refl _, fun h => by omega⟩
        · split
          · exact ⟨.inl rfl, hj0, Int.le_refl _, fun h => by omega⟩
          · exact ⟨.inr rfl, by omega, by omega, fun h => by omega⟩
      obtain ⟨h1, h2, h3, h4, h5⟩ := minL_spec left og E m2 hE (by omega)
      refine ⟨?_, fun h => by have := h2 e2.2.1; have := e2.2.2.2 h; omega, fun i hi ho => ?_, h4, fun _ => h5 e2.2.1⟩
      · rcases h1 with h1 | ⟨i, hi, e⟩
        · rcases e2.1 with e | e
          · exact .inr ⟨j, List.mem_cons_self, hog, h1.trans e⟩
          · exact .inl (h1.trans e)
        · exact .inr ⟨i, List.mem_cons_of_mem _ hi, e⟩
      · rcases List.mem_cons.1 hi with rfl | hi
        · exact ⟨h5 e2.2.1, by have := h2 e2.2.1; omega⟩
        · exact h3 i hi ho
def subL (m : Int) : List Int → List Int → List Int
  | left, [] => left
  | left, i :: E => subL m (left.set i.toNat (wrap64 (rd left i - m))) E
theorem subL_length (m : Int) : ∀ (E left : List Int), (subL m left E).length = left.length
  | [], _ => rfl
  | i :: E, left => by rw [subL, subL_length m E, List.length_set]
theorem rd_set (L : List Int) (i j : Nat) (x : Int) (h : i < L.length) : rd (L.set i x) (j : Int) = if j = i then x else rd L (j : Int) := by
  simp only [rd, Int.toNat_natCast, List.getD, List.getElem?_set]
  by_cases e : i = j
  · subst e; simp [h]
  · rw [if_neg e, if_neg (fun h => e h.symm)]
theorem subL_rd (m : Int) : ∀ (E left : List Int), (∀ x ∈ E, ∃ i : Nat, x = (i : Int) ∧ i < left.length) → E.Nodup → (∀ x ∈ E, wrap64 (rd left x - m) = rd left x - m) → ∀ j : Nat, rd (subL m left E) (j : Int) = if (j : Int) ∈ E then rd left (j : Int) - m else rd left (j : Int)
  | [], _, _, _, _, j => by simp [subL]
  | x :: E, left, hE, hd, hw, j => by
    obtain ⟨i, rfl, hi⟩ := hE x List.mem_cons_self
    rw [List.nodup_cons] at hd
    rw [subL, Int.toNat_natCast]
    have hr : ∀ j : Nat, rd (left.set i (wrap64 (rd left (i : Int) - m))) (j : Int) = if j = i then wrap64 (rd left (i : Int) - m) else rd left (j : Int) := fun j => rd_set left i j _ hi
    rw [subL_rd m E _ (fun y hy => by obtain ⟨t, e, ht⟩ := hE y (List.mem_cons_of_mem _ hy); exact ⟨t, e, by rw [List.length_set]; exact ht⟩) hd.2 (fun y hy => by
      obtain ⟨t, rfl, ht⟩ := hE y (List.mem_cons_of_mem _ hy)
      have hne : t ≠ i := fun e => hd.1 (e ▸ hy)
      rw [hr, if_neg hne]
      exact hw _ (List.mem_cons_of_mem _ hy)) j, hr]
    by_cases e : j = i
    · subst e
      rw [if_neg hd.1, if_pos rfl, if_pos List.mem_cons_self]
      exact hw _ List.mem_cons_self
    · rw [if_neg e]
      have : ((j : Int) ∈ (i : Int) :: E) ↔ (j : Int) ∈ E := by
        rw [List.mem_cons]
        exact ⟨fun h => h.resolve_left (by omega), .inr⟩
      by_cases hm : (j : Int) ∈ E
      · rw [if_pos hm, if_pos (this.2 hm)]
      · rw [if_neg hm, if_neg (fun h => hm (this.1 h))]
section
variable {n : Nat} {l : List S30}
def chEnd (n : Int) (l : List S30) (k : Nat) (o : Int → Option Bool) (left : List Int) (cost : Int) (proof : List S41) (t m : Int) : Option (Int × List S41 × Bool) :=
  if m < 0 then some (0, [], false) else (branch_town_entering.f k n l t).bind fun e => branch_town_cheapest.l2 k o left cost proof t m e (e.length : Int) 0 n l
theorem ch_l1 (o : Int → Option Bool) (og : Int → Bool) (left : List Int) (cost : Int) (proof : List S41) (t : Int) (E : List Int) (ho : ∀ x ∈ E, o x = some (og x)) (hE : ∀ x ∈ E, ∃ i : Nat, x = (i : Int) ∧ i < left.length) (hlen : E.length < 1000) :
    ∀ (d q k : Nat) (m : Int), q + d = E.length →
    branch_town_cheapest.l1 (k + d + 1) o left cost proof t m E (E.length : Int) (q : Int) (n : Int) l =
      chEnd (n : Int) l k o left cost proof t (minL left og (E.drop q) m)
  | 0, q, k, m, h => by
    simp only [branch_town_cheapest.l1]
    rw [if_neg (by omega), List.drop_eq_nil_of_le (by omega)]
    rfl
  | d + 1, q, k, m, h => by
    have hq : q < E.length := by omega
    have hw := wrap_nat q (by omega)
    have hm := rd_mem4 E q hq
    have hox := ho _ hm
    obtain ⟨i, hi, hil⟩ := hE _ hm
    have ih := fun m => ch_l1 o og left cost proof t E ho hE hlen d (q + 1) k m (by omega)
    rw [show k + (d + 1) + 1 = (k + d + 1) + 1 from by omega]
    rw [drop_rdI4 E q hq]
    simp only [minL]
    generalize k + d + 1 = qq at ih
    simp only [branch_town_cheapest.l1, hw]
    rw [if_pos (by omega), if_pos (by omega), if_pos (by omega), hox, Option.bind_some]
    generalize rd E (q : Int) = x at hi
    subst hi
    by_cases hog : og (i : Int) = true
    · rw [if_pos hog, if_pos hog]
      exact ih m
    · rw [if_neg hog, if_neg hog]
      by_cases h1 : m < 0
      · rw [if_pos h1, if_pos h1, if_pos (by omega), if_pos (by omega)]
        exact ih _
      · rw [if_neg h1, if_neg h1, if_pos (by omega), if_pos (by omega)]
        by_cases h2 : rd left (i : Int) < m
        · rw [if_pos h2, if_pos h2]; exact ih _
        · rw [if_neg h2, if_neg h2]; exact ih _
theorem ch_l2 (o : Int → Option Bool) (cost : Int) (proof : List S41) (t m : Int) (E : List Int) (hlen : E.length < 1000) :
    ∀ (d q k : Nat) (left : List Int), (∀ x ∈ E, ∃ i : Nat, x = (i : Int) ∧ i < left.length) → q + d = E.length →
    branch_town_cheapest.l2 (k + d + 1) o left cost proof t m E (E.length : Int) (q : Int) (n : Int) l =
      if m > 0 then (if proof.length < 8796093022208 then branch_town_cheapest.l0 k o (subL m left (E.drop q)) (wrap64 (cost + m)) (proof ++ [(⟨t, m⟩ : S41)]) (n : Int) l else none) else branch_town_cheapest.l0 k o (subL m left (E.drop q)) cost proof (n : Int) l
  | 0, q, k, left, _, h => by
    simp only [branch_town_cheapest.l2]
    rw [if_neg (by omega), List.drop_eq_nil_of_le (by omega)]
    rfl
  | d + 1, q, k, left, hE, h => by
    have hq : q < E.length := by omega
    have hw := wrap_nat q (by omega)
    have hm := rd_mem4 E q hq
    obtain ⟨i, hi, hil⟩ := hE _ hm
    have ih := ch_l2 o cost proof t m E hlen d (q + 1) k (left.set (rd E (q : Int)).toNat (wrap64 (rd left (rd E (q : Int)) - m))) (fun y hy => by obtain ⟨z, e, hz⟩ := hE y hy; exact ⟨z, e, by rw [List.length_set]; exact hz⟩) (by omega)
    rw [show k + (d + 1) + 1 = (k + d + 1) + 1 from by omega]
    rw [drop_rdI4 E q hq]
    simp only [subL]
    rw [← ih]
    clear ih
    generalize k + d + 1 = qq
    simp only [branch_town_cheapest.l2, hw]
    rw [if_pos (by omega), if_pos (by omega), if_pos (by omega), if_pos (by omega), if_pos (by omega)]
end
/-- The worth of the sets that street i enters. -/
def worthAt (l : List S30) (i : Nat) : List S41 → Int
  | [] => 0
  | p :: P => worthAt l i P + if entB l p.f0.toNat i = true then p.f1 else 0
def worthAll : List S41 → Int
  | [] => 0
  | p :: P => worthAll P + p.f1
theorem worthAt_app (l : List S30) (i : Nat) (p : S41) : ∀ P, worthAt l i (P ++ [p]) = worthAt l i P + if entB l p.f0.toNat i = true then p.f1 else 0
  | [] => by simp [worthAt]
  | x :: P => by
    simp only [List.cons_append, worthAt]
    rw [worthAt_app l i p P]
    omega
theorem worthAll_app (p : S41) : ∀ P, worthAll (P ++ [p]) = worthAll P + p.f1
  | [] => by simp [worthAll]
  | x :: P => by
    simp only [List.cons_append, worthAll]
    rw [worthAll_app p P]
    omega
/-- A set of corners, as_ a price names it. -/
def IsSetN (n : Nat) (s : Int) : Prop := 0 < s ∧ s < 2 ^ n ∧ s.toNat.testBit 0 = false
structure ProofOk (n : Nat) (l : List S30) (T : Nat → Prop) (price : List Int) (P : List S41) (v : Int) : Prop where
  sets : ∀ p ∈ P, IsSetN n p.f0 ∧ 1 ≤ p.f1 ∧ p.f1 ≤ 1000
  apart : (P.map fun p => p.f0).Nodup
  worth : worthAll P = v
  below : ∀ i, T i → worthAt l i P ≤ rd price (i : Int)
/-- What stands at each round. -/
structure ChInv (n : Nat) (l : List S30) (og : Int → Bool) (price left : List Int) (cost : Int) (P : List S41) : Prop where
  len : left.length = l.length
  low : ∀ i : Nat, i < l.length → -(1000 * (P.length : Int)) ≤ rd left (i : Int) ∧ rd left (i : Int) ≤ 1000
  pos : ∀ i, onT l og i → 0 ≤ rd left (i : Int)
  opt : ∀ v, Opt n (aW l) (bW l) (onT l og) (fun i => rd left (i : Int)) v → Opt n (aW l) (bW l) (onT l og) (fun i => rd price (i : Int)) (v + cost)
  sets : ∀ p ∈ P, IsSetN n p.f0 ∧ 1 ≤ p.f1 ∧ p.f1 ≤ 1000 ∧ ∃ i, onT l og i ∧ rd left (i : Int) = 0 ∧ entB l p.f0.toNat i = true
  apart : (P.map fun p => p.f0).Nodup
  worth : worthAll P = cost
  bal : ∀ i : Nat, i < l.length → worthAt l i P + rd left (i : Int) = rd price (i : Int)
  many : cost ≤ 1000 * (P.length : Int) ∧ 0 ≤ cost
def zerosB (l : List S30) (og : Int → Bool) (left : List Int) (i : Nat) : Bool := !og (i : Int) && decide (rd left (i : Int) = 0)
section
variable {n : Nat} {l : List S30}
theorem ch_loop (hn1 : 1 ≤ n) (hn : n ≤ 7) (hl : l.length ≤ 30) (hx : ∀ x ∈ l, wayOk n x = true) (o : Int → Option Bool) (og : Int → Bool) (ho : ∀ i : Nat, i < l.length → o (i : Int) = some (og (i : Int))) (price : List Int) (hpl : price.length = l.length) :
    ∀ (c : Nat) (left : List Int) (cost : Int) (P : List S41), ChInv n l og price left cost P → l.length ≤ cntN (zerosB l og left) l.length + c → P.length + c ≤ 31 →
    ∃ r : Int × List S41 × Bool, (∀ k, 400 + 70 * c ≤ k → branch_town_cheapest.l0 k o left cost P (n : Int) l = some r) ∧
      ((r.2.2 = true ∧ Opt n (aW l) (bW l) (onT l og) (fun i => rd price (i : Int)) r.1 ∧ ProofOk n l (onT l og) price r.2.1 r.1 ∧ r.2.1.length ≤ 31) ∨ (r = (0, [], false) ∧ ∀ f, ¬ IsB n (aW l) (bW l) (onT l og) f)) := by
  intro c
  induction c with
  | zero => ?_
  | succ c ih => ?_
  all_goals
    intro left cost P hI hc hc2
    obtain ⟨q, hq, hal, hz, hS⟩ := alone_spec hn1 hn hl hx left hI.len o og ho
    have hp7 : 2 ^ n ≤ 2 ^ 7 := Nat.pow_le_pow_right (by decide) hn
    have hq7 : q < 128 := Nat.lt_of_lt_of_le hq hp7
    by_cases hq0 : q = 0
    · refine ⟨(cost, P, true), fun k hk => ?_, .inl ⟨rfl, ?_, ⟨fun p hp => ⟨(hI.sets p hp).1, (hI.sets p hp).2.1, (hI.sets p hp).2.2.1⟩, hI.apart, hI.worth, fun i hi => ?_⟩, by show P.length ≤ 31; omega⟩⟩
      · obtain ⟨k, rfl⟩ : ∃ k', k = k' + 1 := ⟨k - 1, by omega⟩
        simp only [branch_town_cheapest.l0]
        rw [hal k (by omega), Option.bind_some, hq0, if_pos (by rfl)]
      · have := hI.opt 0 (Opt.nothing (fun i h => onT_lt hx i h) hI.pos (hz hq0))
        rwa [Int.zero_add] at this
      · have h1 := hI.bal i hi.1
        have h2 := hI.pos i hi
        show worthAt l i P ≤ _
        omega
    have hA := hS hq0
    have hzs : ∀ i, onT l og i → rd left (i : Int) = 0 → entB l q i = false := by
      intro i ht h0
      have := hA.out i ht h0
      unfold entB
      cases hb : q.testBit (bW l i) with
      | false => simp
      | true => rw [this hb]; rfl
    have hE := fun k (hk : 40 ≤ k) => entering_f (n := n) hn hl hx hq7 k hk
    have hEm := entL_mem l q
    have hEn := entL_nat l q
    have hEl := entL_length l q
    have hEpos : ∀ x ∈ entL l q, og x = false → 0 ≤ rd left x := by
      intro x hxE hox
      obtain ⟨i, rfl, hi⟩ := hEn x hxE
      exact hI.pos i ⟨hi, hox⟩
    obtain ⟨m1, m2, m3, m4, m5⟩ := minL_spec left og (entL l q) (-1) hEpos (by omega)
    have M1 := Aside0.mk m1
    clear m1
    have hl0 : ∀ k, 400 ≤ k → branch_town_cheapest.l0 k o left cost P (n : Int) l = if minL left og (entL l q) (-1) < 0 then some (0, [], false) else branch_town_cheapest.l2 (k - (entL l q).length - 2) o left cost P (q : Int) (minL left og (entL l q) (-1)) (entL l q) ((entL l q).length : Int) 0 (n : Int) l := by
      intro k hk
      obtain ⟨k, rfl⟩ : ∃ k', k = k' + 1 := ⟨k - 1, by omega⟩
      have h1 := ch_l1 (n := n) (l := l) o og left cost P (q : Int) (entL l q) (fun x hxE => by obtain ⟨i, rfl, hi⟩ := hEn x hxE; exact ho i hi) (fun x hxE => by obtain ⟨i, e, hi⟩ := hEn x hxE; exact ⟨i, e, by rw [hI.len]; exact hi⟩) (by omega) (entL l q).length 0 (k - (entL l q).length - 1) (-1) (by omega)
      rw [show k - (entL l q).length - 1 + (entL l q).length + 1 = k from by omega, List.drop_zero] at h1
      unfold chEnd at h1
      rw [hE _ (by omega), Option.bind_some] at h1
      simp only [branch_town_cheapest.l0]
      rw [hal k (by omega), Option.bind_some, if_neg (by omega), hE k (by omega), Option.bind_some]
      rw [show k + 1 - (entL l q).length - 2 = k - (entL l q).length - 1 from by omega]
      exact h1
    by_cases hm : minL left og (entL l q) (-1) < 0
    · refine ⟨(0, [], false), fun k hk => by rw [hl0 k (by omega), if_pos hm], .inr ⟨rfl, no_branching (S := fun c => q.testBit c = true) hA.h0 hA.ne fun i ht hb => ?_⟩⟩
      refine Classical.byContradiction fun hna => ?_
      have hent : entB l q i = true := by unfold entB; rw [hb, Bool.eq_false_iff.mpr hna]; rfl
      have := (m3 (i : Int) ((hEm i).2 ⟨ht.1, hent⟩) ht.2).1
      omega
    obtain ⟨j, hjE, hjo, hjm⟩ : ∃ i ∈ entL l q, og i = false ∧ minL left og (entL l q) (-1) = rd left i := by
      rcases M1.out with h | h
      · omega
      · exact h
    clear M1
    obtain ⟨j, rfl, hj⟩ := hEn j hjE
    generalize hmm : minL left og (entL l q) (-1) = m at *
    have hjent := ((hEm j).1 hjE).2
    have hm1 : 1 ≤ m := by
      have := hzs j ⟨hj, hjo⟩
      rw [hjent] at this
      have h0 : rd left (j : Int) ≠ 0 := fun e => absurd (this e) (by decide)
      omega
    have hm1000 : m ≤ 1000 := by have := (hI.low j hj).2; omega
    have hwr : ∀ x ∈ entL l q, wrap64 (rd left x - m) = rd left x - m := by
      intro x hxE
      obtain ⟨i, rfl, hi⟩ := hEn x hxE
      have := hI.low i hi
      unfold wrap64
      omega
    have hrd := subL_rd m (entL l q) left (fun x hxE => by obtain ⟨i, e, hi⟩ := hEn x hxE; exact ⟨i, e, by rw [hI.len]; exact hi⟩) (entL_nodup l q) hwr
    have hrd2 : ∀ i : Nat, i < l.length → rd (subL m left (entL l q)) (i : Int) = if entB l q i = true then rd left (i : Int) - m else rd left (i : Int) := by
      intro i hi
      rw [hrd i]
      by_cases he : entB l q i = true
      · rw [if_pos ((hEm i).2 ⟨hi, he⟩), if_pos he]
      · rw [if_neg (fun h => he ((hEm i).1 h).2), if_neg he]
    have hposT : ∀ i, onT l og i → 0 ≤ rd (subL m left (entL l q)) (i : Int) := by
      intro i ht
      rw [hrd2 i ht.1]
      have := hI.pos i ht
      split
      · rename_i he
        have := (m3 (i : Int) ((hEm i).2 ⟨ht.1, he⟩) ht.2).2
        omega
      · exact this
    have hzero : ∀ i, onT l og i → rd left (i : Int) = 0 → rd (subL m left (entL l q)) (i : Int) = 0 := by
      intro i ht h0
      rw [hrd2 i ht.1, if_neg (by rw [hzs i ht h0]; decide)]
      exact h0
    have hjz : rd (subL m left (entL l q)) (j : Int) = 0 := by
      rw [hrd2 j hj, if_pos hjent]; omega
    have hcl := hI.many
    have hwc : wrap64 (cost + m) = cost + m := by unfold wrap64; omega
    have hset : IsSetN n (q : Int) := by
      refine ⟨by omega, by exact_mod_cast hq, ?_⟩
      rw [Int.toNat_natCast]
      exact Bool.eq_false_iff.mpr hA.h0
    have hnew : ChInv n l og price (subL m left (entL l q)) (cost + m) (P ++ [(⟨(q : Int), m⟩ : S41)]) := by
      refine ⟨by rw [subL_length]; exact hI.len, fun i hi => ?_, hposT, fun v hv => ?_, fun p hp => ?_, ?_, ?_, fun i hi => ?_, ?_⟩
      · rw [hrd2 i hi, List.length_append, List.length_singleton]
        have := hI.low i hi
        split <;> omega
      · have h1 := Opt.priced (p := fun i => rd left (i : Int)) (q := fun i => rd (subL m left (entL l q)) (i : Int)) (S := fun c => q.testBit c = true) (mm := m) (fun i h => onT_lt hx i h) hA (by omega) hI.pos
          (fun i ht hb ha => (m3 (i : Int) ((hEm i).2 ⟨ht.1, by unfold entB; rw [hb, Bool.eq_false_iff.mpr ha]; rfl⟩) ht.2).2)
          (fun i ht hb ha => by show rd (subL m left (entL l q)) (i : Int) = _; rw [hrd2 i ht.1, if_pos (by unfold entB; rw [hb, Bool.eq_false_iff.mpr ha]; rfl)])
          (fun i ht hno => by
            show rd (subL m left (entL l q)) (i : Int) = _
            rw [hrd2 i ht.1, if_neg]
            intro he
            unfold entB at he
            rw [Bool.and_eq_true, Bool.not_eq_true'] at he
            exact hno ⟨he.2, fun h => by rw [he.1] at h; exact absurd h (by decide)⟩) hv
        have h2 := hI.opt _ h1
        rw [show v + (cost + m) = v + m + cost from by omega]
        exact h2
      · rcases List.mem_append.1 hp with hp | hp
        · obtain ⟨a1, a2, a3, i, a4, a5, a6⟩ := hI.sets p hp
          exact ⟨a1, a2, a3, i, a4, hzero i a4 a5, a6⟩
        · obtain rfl := List.mem_singleton.1 hp
          exact ⟨hset, hm1, hm1000, j, ⟨hj, hjo⟩, hjz, by rw [Int.toNat_natCast]; exact hjent⟩
      · rw [List.map_append, List.nodup_append]
        refine ⟨hI.apart, by simp, fun x hxm y hy e => ?_⟩
        obtain rfl : y = (q : Int) := by simpa using hy
        obtain ⟨p, hp, rfl⟩ := List.mem_map.1 hxm
        obtain ⟨_, _, _, i, a4, a5, a6⟩ := hI.sets p hp
        rw [e, Int.toNat_natCast, hzs i a4 a5] at a6
        exact absurd a6 (by decide)
      · rw [worthAll_app, hI.worth]
      · rw [worthAt_app, hrd2 i hi, Int.toNat_natCast]
        have := hI.bal i hi
        show worthAt l i P + (if entB l q i = true then m else 0) + _ = _
        split <;> omega
      · rw [List.length_append, List.length_singleton]
        omega
    have hmeas : cntN (zerosB l og left) l.length < cntN (zerosB l og (subL m left (entL l q))) l.length := by
      refine cntN_lt l.length (fun i hi h => ?_) j hj ?_ ?_
      · unfold zerosB at h ⊢
        rw [Bool.and_eq_true, Bool.not_eq_true', decide_eq_true_eq] at h ⊢
        exact ⟨h.1, hzero i ⟨hi, h.1⟩ h.2⟩
      · unfold zerosB
        rw [hjo, hjz]; rfl
      · unfold zerosB
        rw [decide_eq_false (by omega), Bool.and_false]
    have hcb := cntN_bound (zerosB l og (subL m left (entL l q))) l.length
  · omega
  · obtain ⟨r, hr1, hr2⟩ := ih (subL m left (entL l q)) (cost + m) (P ++ [(⟨(q : Int), m⟩ : S41)]) hnew (by omega) (by rw [List.length_append, List.length_singleton]; omega)
    refine ⟨r, fun k hk => ?_, hr2⟩
    rw [hl0 k (by omega), if_neg hm]
    have h2 := ch_l2 (n := n) (l := l) o cost P (q : Int) m (entL l q) (by omega) (entL l q).length 0 (k - (entL l q).length - 2 - (entL l q).length - 1) left (fun x hxE => by obtain ⟨i, e, hi⟩ := hEn x hxE; exact ⟨i, e, by rw [hI.len]; exact hi⟩) (by omega)
    rw [show k - (entL l q).length - 2 - (entL l q).length - 1 + (entL l q).length + 1 = k - (entL l q).length - 2 from by omega, List.drop_zero, if_pos (by omega), if_pos (by omega), hwc] at h2
    exact h2.trans (hr1 _ (by omega))
/-- cheapest's answer. -/
theorem cheapest_spec (hn1 : 1 ≤ n) (hn : n ≤ 7) (hl : l.length ≤ 30) (hx : ∀ x ∈ l, wayOk n x = true) (o : Int → Option Bool) (og : Int → Bool) (ho : ∀ i : Nat, i < l.length → o (i : Int) = some (og (i : Int))) (price : List Int) (hpl : price.length = l.length) (hp : ∀ i : Nat, i < l.length → 0 ≤ rd price (i : Int) ∧ rd price (i : Int) ≤ 1000) :
    ∃ r : Int × List S41 × Bool, (∀ k, 3000 ≤ k → branch_town_cheapest.f k (n : Int) l price o = some r) ∧
      ((r.2.2 = true ∧ Opt n (aW l) (bW l) (onT l og) (fun i => rd price (i : Int)) r.1 ∧ ProofOk n l (onT l og) price r.2.1 r.1 ∧ r.2.1.length ≤ 31) ∨ (r = (0, [], false) ∧ ∀ f, ¬ IsB n (aW l) (bW l) (onT l og) f)) := by
  have h0 : ChInv n l og price price 0 [] := by
    refine ⟨hpl, fun i hi => ⟨by have := (hp i hi).1; simpa using this, (hp i hi).2⟩, fun i hi => (hp i hi.1).1, fun v hv => by rwa [Int.add_zero], fun p hp => absurd hp (by simp), by simp, rfl, fun i hi => by simp [worthAt], by simp⟩
  obtain ⟨r, h1, h2⟩ := ch_loop hn1 hn hl hx o og ho price hpl l.length price 0 [] h0 (by omega) (by simp; omega)
  refine ⟨r, fun k hk => ?_, h2⟩
  unfold branch_town_cheapest.f slices_Clone.f
  rw [if_pos (by omega), Option.bind_some]
  exact h1 k (by omega)
end
end Go.Proofs.Ytpmadffgdfholaa.B
namespace Go.Proofs.Ytpmadffgdfholaa.B
set_option linter.unusedVariables false
open Go.RowKit Go.Proofs.YtpmadffgdfholaaW.PrintWords Go.Proofs.YtpmadffgdfholaaW.PrintLast Go.Proofs.YtpmadffgdfholaaW.PrintMore
/-- Is street j one of the branching's? -/
def useB (n : Nat) (b : Nat → Nat) (f : Nat → Nat) (j : Nat) : Bool := decide (0 < b j) && decide (b j < n) && decide (f (b j) = j)
theorem useB_iff {n : Nat} {b f : Nat → Nat} {j : Nat} : useB n b f j = true ↔ 0 < b j ∧ b j < n ∧ f (b j) = j := by
  unfold useB
  simp [and_assoc]
/-- The indices of a choice of streets, ascending. -/
def selL (X : Nat → Bool) (i : Nat) : List Int := ((List.range i).filter X).map fun j : Nat => (j : Int)
theorem selL_succ (X : Nat → Bool) (i : Nat) : selL X (i + 1) = if X i = true then selL X i ++ [(i : Int)] else selL X i := by
  unfold selL
  rw [List.range_succ, List.filter_append, List.map_append]
  by_cases h : X i = true
  · rw [if_pos h, List.filter_cons_of_pos h]; rfl
  · rw [if_neg h, List.filter_cons_of_neg h]; simp
theorem selL_congr {X Y : Nat → Bool} : ∀ i, (∀ j, j < i → X j = Y j) → selL X i = selL Y i
  | 0, _ => rfl
  | i + 1, h => by rw [selL_succ, selL_succ, selL_congr i (fun j hj => h j (by omega)), h i (by omega)]
theorem selL_mem (X : Nat → Bool) (i j : Nat) : (j : Int) ∈ selL X i ↔ j < i ∧ X j = true := by
  unfold selL
  simp only [List.mem_map, List.mem_filter, List.mem_range]
  constructor
  · rintro ⟨q, h, e⟩
    obtain rfl : q = j := by omega
    exact h
  · exact fun h => ⟨j, h, rfl⟩
theorem selL_nat (X : Nat → Bool) (i : Nat) : ∀ x ∈ selL X i, ∃ j : Nat, x = (j : Int) ∧ j < i ∧ X j = true := by
  intro x hx
  unfold selL at hx
  obtain ⟨j, hj, rfl⟩ := List.mem_map.1 hx
  have := List.mem_filter.1 hj
  exact ⟨j, rfl, List.mem_range.1 this.1, this.2⟩
theorem selL_length (X : Nat → Bool) (i : Nat) : (selL X i).length ≤ i := by
  unfold selL
  rw [List.length_map]
  exact Nat.le_trans (List.length_filter_le _ _) (by simp)
theorem contains_l0 (list : List Int) (o : Int → Option Bool) (P : Int → Bool) (ho : ∀ x ∈ list, o x = some (P x)) (hl : list.length < 1000) : ∀ (d q k : Nat), q + d = list.length →
    ∃ r : Int, slices_IndexFunc_int_int.l0 (k + d + 1) list o (list.length : Int) (q : Int) = some r ∧ (0 ≤ r ↔ ∃ x ∈ list.drop q, P x = true)
  | 0, q, k, h => by
    refine ⟨-1, ?_, fun h => absurd h (by decide), fun ⟨x, hx, _⟩ => ?_⟩
    · simp only [slices_IndexFunc_int_int.l0]
      rw [if_neg (by omega)]
    · rw [List.drop_eq_nil_of_le (by omega)] at hx
      exact absurd hx (by simp)
  | d + 1, q, k, h => by
    have hq : q < list.length := by omega
    have hw := wrap_nat q (by omega)
    have hox := ho _ (rd_mem4 list q hq)
    obtain ⟨r, h1, h2⟩ := contains_l0 list o P ho hl d (q + 1) k (by omega)
    rw [drop_rdI4 list q hq, show k + (d + 1) + 1 = (k + d + 1) + 1 from by omega]
    cases hP : P (rd list (q : Int)) with
    | true =>
      refine ⟨q, ?_, fun _ => ⟨_, List.mem_cons_self, hP⟩, fun _ => by omega⟩
      simp only [slices_IndexFunc_int_int.l0, hw]
      rw [if_pos (by omega), if_pos (by omega), if_pos (by omega), hox, Option.bind_some, hP, if_pos rfl]
    | false =>
      refine ⟨r, ?_, ?_⟩
      · rw [← h1]
        generalize k + d + 1 = qq
        simp only [slices_IndexFunc_int_int.l0, hw]
        rw [if_pos (by omega), if_pos (by omega), if_pos (by omega), hox, Option.bind_some, hP, if_neg (by decide)]
      · rw [h2]
        constructor
        · rintro ⟨x, hx, hp⟩; exact ⟨x, List.mem_cons_of_mem _ hx, hp⟩
        · rintro ⟨x, hx, hp⟩
          rcases List.mem_cons.1 hx with rfl | hx
          · rw [hP] at hp; exact absurd hp (by decide)
          · exact ⟨x, hx, hp⟩
theorem contains_f (list : List Int) (o : Int → Option Bool) (P : Int → Bool) (ho : ∀ x ∈ list, o x = some (P x)) (hl : list.length < 1000) : ∃ r : Bool, (∀ k, list.length + 1 ≤ k → slices_ContainsFunc_int_int.f k list o = some r) ∧ (r = true ↔ ∃ x ∈ list, P x = true) := by
  obtain ⟨r, h1, h2⟩ := contains_l0 list o P ho hl list.length 0 0 (by omega)
  refine ⟨decide (r ≥ 0), fun k hk => ?_, ?_⟩
  · obtain ⟨r', h1', h2'⟩ := contains_l0 list o P ho hl list.length 0 (k - list.length - 1) (by omega)
    rw [show k - list.length - 1 + list.length + 1 = k from by omega] at h1'
    unfold slices_ContainsFunc_int_int.f slices_IndexFunc_int_int.f
    rw [show ((0 : Nat) : Int) = 0 from rfl] at h1'
    rw [h1', Option.bind_some]
    refine congrArg some ?_
    rw [List.drop_zero] at h2 h2'
    by_cases hr : 0 ≤ r
    · rw [decide_eq_true (show r' ≥ 0 from h2'.2 (h2.1 hr)), decide_eq_true (show r ≥ 0 from hr)]
    · rw [decide_eq_false (show ¬ r' ≥ 0 from fun h => hr (h2.2 (h2'.1 h))), decide_eq_false (show ¬ r ≥ 0 from hr)]
  · rw [decide_eq_true_eq]
    rw [List.drop_zero] at h2
    exact h2
/-- Streets X come first before streets Y, up to i: they are the same, or where they differ for the first time, X has the street. -/
def Ahead (X Y : Nat → Bool) (i : Nat) : Prop := (∀ j, j < i → X j = Y j) ∨ ∃ j, j < i ∧ (∀ q, q < j → X q = Y q) ∧ X j = true ∧ Y j = false
/-- The first branching of the least cost. -/
structure FirstB (n : Nat) (l : List S30) (p : Nat → Int) (v : Int) (f : Nat → Nat) : Prop where
  is : IsB n (aW l) (bW l) (fun i => i < l.length) f
  cost : costF n p f = v
  least : ∀ g, IsB n (aW l) (bW l) (fun i => i < l.length) g → v ≤ costF n p g
  ahead : ∀ g, IsB n (aW l) (bW l) (fun i => i < l.length) g → costF n p g = v → Ahead (useB n (bW l) f) (useB n (bW l) g) l.length
/-- What stands ahead of street i. -/
structure FsInv (n : Nat) (l : List S30) (p : Nat → Int) (v : Int) (i : Nat) (X : Nat → Bool) (gone : Int → Bool) : Prop where
  some : ∃ f, IsB n (aW l) (bW l) (onT l gone) f ∧ costF n p f = v
  below : ∀ j, j < i → (X j = true ↔ gone (j : Int) = false)
  lone : ∀ j, j < i → X j = true → 0 < bW l j ∧ ∀ q, q < l.length → bW l q = bW l j → q ≠ j → gone (q : Int) = true
  why : ∀ q, i ≤ q → q < l.length → gone (q : Int) = true → ∃ j, j < i ∧ X j = true ∧ bW l q = bW l j
  first : ∀ g, IsB n (aW l) (bW l) (fun i => i < l.length) g → costF n p g = v → Ahead X (useB n (bW l) g) i
section
variable {n : Nat} {l : List S30} {p : Nat → Int} {v : Int}
theorem mem_toB (l : List S30) (b : Int) (i : Nat) : (i : Int) ∈ toB l l.length b ↔ i < l.length ∧ (rd_T30 l (i : Int)).f1 = b := by
  unfold toB
  simp only [List.mem_map, List.mem_filter, List.mem_range, beq_iff_eq]
  constructor
  · rintro ⟨q, h, e⟩
    obtain rfl : q = i := by omega
    exact h
  · exact fun h => ⟨i, h, rfl⟩
theorem bW_eq {n : Nat} (hx : ∀ x ∈ l, wayOk n x = true) (i : Nat) (h : i < l.length) : (rd_T30 l (i : Int)).f1 = (bW l i : Int) ∧ (rd_T30 l (i : Int)).f0 = (aW l i : Int) ∧ bW l i < n ∧ aW l i < n := by
  have := (wayOk_iff n _).1 (hx _ (rd_T30_mem l i h))
  unfold bW aW
  omega
/-- Streets that agree with the list up to i are not gone. -/
theorem FsInv.agree {i : Nat} {X : Nat → Bool} {gone : Int → Bool} (h : FsInv n l p v i X gone) {g : Nat → Nat} (hg : IsB n (aW l) (bW l) (fun i => i < l.length) g) (ha : ∀ j, j < i → X j = useB n (bW l) g j) : IsB n (aW l) (bW l) (onT l gone) g := by
  refine hg.within fun c c0 c1 => ⟨(hg.on c c0 c1).1, ?_⟩
  have hb := (hg.on c c0 c1).2
  have hu : useB n (bW l) g (g c) = true := useB_iff.2 ⟨by omega, by omega, by rw [hb]⟩
  by_cases hlt : g c < i
  · exact (h.below _ hlt).1 ((ha _ hlt).trans hu)
  · cases hgo : gone ((g c : Nat) : Int) with
    | false => rfl
    | true =>
      obtain ⟨j, hj, hX, hbj⟩ := h.why (g c) (by omega) (hg.on c c0 c1).1 hgo
      have h2 := useB_iff.1 ((ha j hj).symm.trans hX)
      rw [← hbj, hb] at h2
      omega
theorem FsInv.skip {i : Nat} {X : Nat → Bool} {gone : Int → Bool} (h : FsInv n l p v i X gone) (hX : X i = false) (hno : ∀ g, IsB n (aW l) (bW l) (onT l gone) g → costF n p g = v → useB n (bW l) g i = false) :
    FsInv n l p v (i + 1) X (fun j => decide (j = (i : Int)) || gone j) := by
  refine ⟨?_, fun j hj => ?_, fun j hj hXj => ?_, fun q hq hql hgo => ?_, fun g hg hc => ?_⟩
  · obtain ⟨f, hf, hc⟩ := h.some
    refine ⟨f, hf.within fun c c0 c1 => ⟨(hf.on c c0 c1).1.1, ?_⟩, hc⟩
    dsimp only
    rw [(hf.on c c0 c1).1.2, Bool.or_false, decide_eq_false_iff_not]
    intro e
    have e2 : f c = i := by omega
    have := hno f hf hc
    have hu : useB n (bW l) f (f c) = true := useB_iff.2 ⟨by rw [(hf.on c c0 c1).2]; omega, by rw [(hf.on c c0 c1).2]; omega, by rw [(hf.on c c0 c1).2]⟩
    rw [e2, this] at hu
    exact absurd hu (by decide)
  · by_cases e : j = i
    · subst e; simp [hX]
    · rw [h.below j (by omega), decide_eq_false (by omega), Bool.false_or]
  · have hne : j ≠ i := by rintro rfl; rw [hX] at hXj; exact absurd hXj (by decide)
    obtain ⟨h1, h2⟩ := h.lone j (by omega) hXj
    exact ⟨h1, fun q hq hb hqj => by rw [h2 q hq hb hqj, Bool.or_true]⟩
  · rw [decide_eq_false (by omega), Bool.false_or] at hgo
    obtain ⟨j, hj, h2⟩ := h.why q (by omega) hql hgo
    exact ⟨j, by omega, h2⟩
  · rcases h.first g hg hc with ha | ⟨j, hj, h2⟩
    · refine .inl fun j hj => ?_
      by_cases e : j = i
      · subst e; rw [hX, hno g (h.agree hg ha) hc]
      · exact ha j (by omega)
    · exact .inr ⟨j, by omega, h2⟩
theorem FsInv.take {i : Nat} {X : Nat → Bool} {gone : Int → Bool} (h : FsInv n l p v i X gone) (hX : X i = false) (hb0 : 0 < bW l i) (hil : i < l.length) (more : Int → Bool) (hmore : ∀ q : Nat, q < l.length → (more (q : Int) = true ↔ bW l q = bW l i ∧ q ≠ i)) (hgi : gone (i : Int) = false)
    (hyes : ∃ g, IsB n (aW l) (bW l) (onT l (fun j => gone j || more j)) g ∧ costF n p g = v) (hfree : ∀ j, j < i → X j = true → bW l j ≠ bW l i) :
    FsInv n l p v (i + 1) (fun j => X j || decide (j = i)) (fun j => gone j || more j) := by
  refine ⟨hyes, fun j hj => ?_, fun j hj hXj => ?_, fun q hq hql hgo => ?_, fun g hg hc => ?_⟩
  · by_cases e : j = i
    · subst e
      rw [hgi, Bool.false_or]
      simp only [decide_true, Bool.or_true, true_iff]
      refine Bool.eq_false_iff.mpr fun hm => ?_
      exact ((hmore j hil).1 hm).2 rfl
    · rw [decide_eq_false e, Bool.or_false, h.below j (by omega), Bool.or_eq_false_iff]
      constructor
      · intro hgj
        refine ⟨hgj, Bool.eq_false_iff.mpr fun hm => ?_⟩
        have hXj := (h.below j (by omega)).2 hgj
        exact hfree j (by omega) hXj ((hmore j (by omega)).1 hm).1
      · exact fun hh => hh.1
  · by_cases e : j = i
    · subst e
      exact ⟨hb0, fun q hq hb hqj => by rw [(hmore q hq).2 ⟨hb, hqj⟩, Bool.or_true]⟩
    · rw [decide_eq_false e, Bool.or_false] at hXj
      obtain ⟨h1, h2⟩ := h.lone j (by omega) hXj
      exact ⟨h1, fun q hq hb hqj => by rw [h2 q hq hb hqj, Bool.true_or]⟩
  · rcases Bool.or_eq_true_iff.1 hgo with hgo | hgo
    · obtain ⟨j, hj, hXj, hb⟩ := h.why q (by omega) hql hgo
      exact ⟨j, by omega, by rw [hXj, Bool.true_or], hb⟩
    · exact ⟨i, by omega, by simp, ((hmore q hql).1 hgo).1⟩
  · rcases h.first g hg hc with ha | ⟨j, hj, hq, h2⟩
    · cases hu : useB n (bW l) g i with
      | true =>
        refine .inl fun j hj => ?_
        by_cases e : j = i
        · subst e; rw [hu]; simp
        · dsimp only; rw [decide_eq_false e, Bool.or_false]; exact ha j (by omega)
      | false =>
        refine .inr ⟨i, by omega, fun q hq => ?_, by simp, hu⟩
        dsimp only
        rw [decide_eq_false (by omega), Bool.or_false]; exact ha q hq
    · refine .inr ⟨j, by omega, fun q hq2 => ?_, by dsimp only; rw [h2.1, Bool.true_or], h2.2⟩
      dsimp only
      rw [decide_eq_false (by omega), Bool.or_false]; exact hq q hq2
/-- At the end. -/
theorem FsInv.last (hx : ∀ x ∈ l, wayOk n x = true) {X : Nat → Bool} {gone : Int → Bool} (h : FsInv n l p v l.length X gone) (hmin : ∀ g, IsB n (aW l) (bW l) (fun i => i < l.length) g → v ≤ costF n p g) : ∃ f, FirstB n l p v f ∧ ∀ j, j < l.length → useB n (bW l) f j = X j := by
  obtain ⟨f, hf, hc⟩ := h.some
  have hu : ∀ j, j < l.length → useB n (bW l) f j = X j := by
    intro j hj
    cases hX : X j with
    | true =>
      obtain ⟨h1, h2⟩ := h.lone j hj hX
      have hbn : bW l j < n := (bW_eq hx j hj).2.2.1
      obtain ⟨t, tb⟩ := hf.on (bW l j) h1 hbn
      refine useB_iff.2 ⟨h1, hbn, Classical.byContradiction fun hne => ?_⟩
      have := h2 _ t.1 tb hne
      rw [t.2] at this
      exact absurd this (by decide)
    | false =>
      refine Bool.eq_false_iff.mpr fun hu => ?_
      obtain ⟨u1, u2, u3⟩ := useB_iff.1 hu
      have := (hf.on _ u1 u2).1.2
      rw [u3] at this
      have := (h.below j hj).2 this
      rw [hX] at this
      exact absurd this (by decide)
  refine ⟨f, ⟨hf.mono fun i hi => hi.1, hc, hmin, fun g hg hgc => ?_⟩, hu⟩
  rcases h.first g hg hgc with ha | ⟨j, hj, hq, h1, h2⟩
  · exact .inl fun j hj => (hu j hj).trans (ha j hj)
  · exact .inr ⟨j, hj, fun q hqj => (hu q (by omega)).trans (hq q hqj), (hu j hj).trans h1, h2⟩
theorem first_loop (hn1 : 1 ≤ n) (hn : n ≤ 7) (hl : l.length ≤ 30) (hx : ∀ x ∈ l, wayOk n x = true) (price : List Int) (hpl : price.length = l.length) (hp : ∀ i : Nat, i < l.length → 0 ≤ rd price (i : Int) ∧ rd price (i : Int) ≤ 1000)
    (hmin : ∀ g, IsB n (aW l) (bW l) (fun i => i < l.length) g → v ≤ costF n (fun i => rd price (i : Int)) g) :
    ∀ (c i : Nat) (X : Nat → Bool) (gone : Int → Bool), i + c = l.length → FsInv n l (fun i => rd price (i : Int)) v i X gone → (∀ j, i ≤ j → X j = false) →
    ∃ f, FirstB n l (fun i => rd price (i : Int)) v f ∧ ∀ k, 3000 ≤ k → firstL k (n : Int) l price v c i (selL X i) gone = some (selL (useB n (bW l) f) l.length, v, 0)
  | 0, i, X, gone, h, hI, _ => by
    obtain rfl : i = l.length := by omega
    obtain ⟨f, hf, hu⟩ := hI.last hx hmin
    exact ⟨f, hf, fun k _ => by rw [firstL, selL_congr l.length hu]⟩
  | c + 1, i, X, gone, h, hI, hX => by
    have hi : i < l.length := by omega
    obtain ⟨e1, _, hbn, _⟩ := bW_eq hx i hi
    have hXi := hX i (Nat.le_refl _)
    have hlen := selL_length X i
    have hnat := selL_nat X i
    obtain ⟨sk, hsk, hskiff⟩ := contains_f (selL X i) (fun j => branch_town_first_2.f j (n : Int) l (bW l i : Int)) (fun j => (rd_T30 l j).f1 == (bW l i : Int)) (fun x hxm => by
      obtain ⟨j, rfl, hj, _⟩ := hnat x hxm
      unfold branch_town_first_2.f
      rw [if_pos (by omega), if_pos (by omega)]) (by omega)
    by_cases hskip : bW l i = 0 ∨ sk = true
    · have hno : ∀ g, IsB n (aW l) (bW l) (onT l gone) g → costF n (fun i => rd price (i : Int)) g = v → useB n (bW l) g i = false := by
        intro g hg _
        refine Bool.eq_false_iff.mpr fun hu => ?_
        obtain ⟨u1, u2, u3⟩ := useB_iff.1 hu
        rcases hskip with h0 | hs
        · omega
        · obtain ⟨x, hxm, hP⟩ := hskiff.1 hs
          obtain ⟨j, rfl, hj, hXj⟩ := hnat x hxm
          have hbj : bW l j = bW l i := by
            have := beq_iff_eq.mp hP
            rw [(bW_eq hx j (by omega)).1] at this
            omega
          have := (hI.lone j hj hXj).2 i hi hbj.symm (by omega)
          have h3 := (hg.on _ u1 u2).1.2
          rw [u3, this] at h3
          exact absurd h3 (by decide)
      obtain ⟨f, hf, hk⟩ := first_loop hn1 hn hl hx price hpl hp hmin c (i + 1) X _ (by omega) (hI.skip hXi hno) (fun j hj => hX j (by omega))
      refine ⟨f, hf, fun k hk3 => ?_⟩
      have := hk k hk3
      rw [selL_succ, if_neg (by rw [hXi]; decide)] at this
      rw [firstL, e1]
      rcases hskip with h0 | hs
      · rw [if_pos (by omega), Option.bind_some, if_pos rfl]
        exact this
      · by_cases h0 : bW l i = 0
        · rw [if_pos (by omega), Option.bind_some, if_pos rfl]
          exact this
        · rw [if_neg (by omega), hsk k (by omega), Option.bind_some, if_pos hs]
          exact this
    · have hb0 : 0 < bW l i := by omega
      have hs0 : sk = false := Bool.eq_false_iff.mpr fun h => hskip (.inr h)
      have hfree : ∀ j, j < i → X j = true → bW l j ≠ bW l i := by
        intro j hj hXj e
        have : sk = true := hskiff.2 ⟨(j : Int), (selL_mem X i j).2 ⟨hj, hXj⟩, by rw [(bW_eq hx j (by omega)).1, e]; exact beq_self_eq_true _⟩
        rw [hs0] at this
        exact absurd this (by decide)
      have hgi : gone (i : Int) = false := by
        refine Bool.eq_false_iff.mpr fun hg => ?_
        obtain ⟨j, hj, hXj, hb⟩ := hI.why i (Nat.le_refl _) hi hg
        exact hfree j hj hXj hb.symm
      have hmore : ∀ q : Nat, q < l.length → (moreL (i : Int) (toB l l.length (bW l i : Int)) (q : Int) = true ↔ bW l q = bW l i ∧ q ≠ i) := by
        intro q hq
        unfold moreL
        rw [Bool.and_eq_true, decide_eq_true_eq, decide_eq_true_eq, mem_toB, (bW_eq hx q hq).1]
        constructor
        · rintro ⟨⟨_, h1⟩, h2⟩; exact ⟨by omega, by omega⟩
        · rintro ⟨h1, h2⟩; exact ⟨⟨hq, by omega⟩, by omega⟩
      obtain ⟨r, hr1, hr2⟩ := cheapest_spec hn1 hn hl hx (fun j => some (gone j || moreL (i : Int) (toB l l.length (bW l i : Int)) j)) (fun j => gone j || moreL (i : Int) (toB l l.length (bW l i : Int)) j) (fun _ _ => rfl) price hpl hp
      have hstep : ∀ k, 3000 ≤ k → firstL k (n : Int) l price v (c + 1) i (selL X i) gone = if (r.2.2 && (r.1 == v)) = true then firstL k n l price v c (i + 1) (selL X i ++ [(i : Int)]) (fun j => gone j || moreL (i : Int) (toB l l.length (bW l i : Int)) j) else firstL k n l price v c (i + 1) (selL X i) (fun j => decide (j = (i : Int)) || gone j) := by
        intro k hk
        rw [firstL, e1, if_neg (by omega), hsk k (by omega), Option.bind_some, hs0, if_neg (by decide), hr1 k hk, Option.bind_some]
        by_cases hy : (r.2.2 && (r.1 == v)) = true
        · rw [if_pos hy, if_pos (by omega), if_pos hy]
        · rw [if_neg hy, if_neg hy]
      by_cases hyes : (r.2.2 && (r.1 == v)) = true
      · rcases hr2 with ⟨_, hopt, _⟩ | ⟨e, _⟩
        · have hv : r.1 = v := beq_iff_eq.mp (Bool.and_eq_true _ _ |>.mp hyes).2
          obtain ⟨⟨g, hg, hgc⟩, _⟩ := hopt
          obtain ⟨f, hf, hk⟩ := first_loop hn1 hn hl hx price hpl hp hmin c (i + 1) (fun j => X j || decide (j = i)) _ (by omega) (hI.take hXi hb0 hi _ hmore hgi ⟨g, hg, hgc.trans hv⟩ hfree) (fun j hj => by rw [hX j (by omega), decide_eq_false (by omega)]; rfl)
          refine ⟨f, hf, fun k hk3 => ?_⟩
          have := hk k hk3
          rw [selL_succ, if_pos (by simp), selL_congr (Y := X) i (fun j hj => by rw [decide_eq_false (by omega), Bool.or_false])] at this
          rw [hstep k hk3, if_pos hyes]
          exact this
        · rw [e] at hyes
          exact absurd hyes (by simp)
      · have hno : ∀ g, IsB n (aW l) (bW l) (onT l gone) g → costF n (fun i => rd price (i : Int)) g = v → useB n (bW l) g i = false := by
          intro g hg hgc
          refine Bool.eq_false_iff.mpr fun hu => ?_
          obtain ⟨u1, u2, u3⟩ := useB_iff.1 hu
          have hg2 : IsB n (aW l) (bW l) (onT l (fun j => gone j || moreL (i : Int) (toB l l.length (bW l i : Int)) j)) g := hg.within fun c c0 c1 => by
            obtain ⟨t, tb⟩ := hg.on c c0 c1
            refine ⟨t.1, ?_⟩
            dsimp only
            rw [t.2, Bool.false_or]
            refine Bool.eq_false_iff.mpr fun hm => ?_
            obtain ⟨m1, m2⟩ := (hmore _ t.1).1 hm
            rw [tb] at m1
            rw [m1, u3] at m2
            exact m2 rfl
          rcases hr2 with ⟨h1, ⟨⟨g', hg', hgc'⟩, hlow⟩, _⟩ | ⟨_, hnone⟩
          · have h2 := hlow g hg2
            have h3 := hmin g' (hg'.mono fun i hi => hi.1)
            have : r.1 = v := by omega
            exact hyes (by rw [h1, this]; simp)
          · exact hnone g hg2
        obtain ⟨f, hf, hk⟩ := first_loop hn1 hn hl hx price hpl hp hmin c (i + 1) X _ (by omega) (hI.skip hXi hno) (fun j hj => hX j (by omega))
        refine ⟨f, hf, fun k hk3 => ?_⟩
        have := hk k hk3
        rw [selL_succ, if_neg (by rw [hXi]; decide)] at this
        rw [hstep k hk3, if_neg hyes]
        exact this
/-- first's answer. -/
theorem first_spec (hn1 : 1 ≤ n) (hn : n ≤ 7) (hl : l.length ≤ 30) (hx : ∀ x ∈ l, wayOk n x = true) (price : List Int) (hpl : price.length = l.length) (hp : ∀ i : Nat, i < l.length → 0 ≤ rd price (i : Int) ∧ rd price (i : Int) ≤ 1000) :
    (∃ f v, FirstB n l (fun i => rd price (i : Int)) v f ∧ ∀ k, 3000 ≤ k → branch_town_first.f k (n : Int) l price = some (selL (useB n (bW l) f) l.length, v, 0)) ∨
    ((∀ f, ¬ IsB n (aW l) (bW l) (fun i => i < l.length) f) ∧ ∀ k, 3000 ≤ k → branch_town_first.f k (n : Int) l price = some ([], 0, 10)) := by
  have hon : ∀ i, onT l (fun _ => false) i ↔ i < l.length := fun i => ⟨fun h => h.1, fun h => ⟨h, rfl⟩⟩
  obtain ⟨r, hr1, hr2⟩ := cheapest_spec hn1 hn hl hx (fun i => branch_town_first_1.f i) (fun _ => false) (fun _ _ => rfl) price hpl hp
  have hstep : ∀ k, 3000 ≤ k → branch_town_first.f k (n : Int) l price = if r.2.2 = true then firstL k (n : Int) l price r.1 l.length 0 [] (fun _ => false) else some ([], 0, 10) := by
    intro k hk
    unfold branch_town_first.f
    rw [if_pos (by omega), hr1 k hk, Option.bind_some]
  rcases hr2 with ⟨h1, ⟨⟨g, hg, hgc⟩, hlow⟩, _⟩ | ⟨e, hnone⟩
  · left
    have hmin : ∀ g, IsB n (aW l) (bW l) (fun i => i < l.length) g → r.1 ≤ costF n (fun i => rd price (i : Int)) g := fun g hg => hlow g (hg.mono fun i hi => (hon i).2 hi)
    obtain ⟨f, hf, hk⟩ := first_loop (v := r.1) hn1 hn hl hx price hpl hp hmin l.length 0 (fun _ => false) (fun _ => false) (by omega)
      ⟨⟨g, hg, hgc⟩, fun j hj => absurd hj (by omega), fun j hj => absurd hj (by omega), fun q _ _ h => absurd h (by decide), fun g _ _ => .inl fun j hj => absurd hj (by omega)⟩ (fun _ _ => rfl)
    refine ⟨f, r.1, hf, fun k hk3 => ?_⟩
    rw [hstep k hk3, if_pos h1]
    exact hk k hk3
  · right
    refine ⟨fun f hf => hnone f (hf.mono fun i hi => (hon i).2 hi), fun k hk => ?_⟩
    rw [hstep k hk, e]
    rfl
end
end Go.Proofs.Ytpmadffgdfholaa.B
namespace Go.Proofs.Ytpmadffgdfholaa.B
set_option linter.unusedVariables false
open Go.RowKit Go.Proofs.YtpmadffgdfholaaW.PrintWords Go.Proofs.YtpmadffgdfholaaW.PrintLast Go.Proofs.YtpmadffgdfholaaW.PrintMore
def costW (l : List S30) (i : Nat) : Int := (rd_T30 l (i : Int)).f2
theorem sumZ_swap (g : Nat → Nat → Int) (n : Nat) : ∀ m, sumZ (fun i => sumZ (g i) n) m = sumZ (fun c => sumZ (fun i => g i c) m) n
  | 0 => (sumZ_zero n).symm
  | m + 1 => by
    simp only [sumZ]
    rw [sumZ_swap g n m, ← sumZ_add]
theorem sumZ_pick (x : Int) (t : Nat) : ∀ m, sumZ (fun i => if i = t then x else 0) m = if t < m then x else 0
  | 0 => by simp [sumZ]
  | m + 1 => by
    simp only [sumZ]
    rw [sumZ_pick x t m]
    by_cases h1 : t < m
    · rw [if_pos h1, if_neg (by omega), if_pos (by omega)]; omega
    · by_cases h2 : m = t
      · rw [if_neg h1, if_pos h2, if_pos (by omega)]; omega
      · rw [if_neg h1, if_neg h2, if_neg (by omega)]; rfl
section
variable {n : Nat} {l : List S30} {f : Nat → Nat}
/-- What is summed over the streets of a branching is summed over its corners. -/
theorem sum_used (b : Nat → Nat) (m : Nat) (hf : ∀ c, 0 < c → c < n → f c < m ∧ b (f c) = c) (p : Nat → Int) : sumZ (fun j => if useB n b f j = true then p j else 0) m = costF n p f := by
  have h1 : ∀ j, j < m → (if useB n b f j = true then p j else 0) = sumZ (fun c => if c = 0 then 0 else if j = f c then p j else 0) n := by
    intro j hj
    by_cases hu : useB n b f j = true
    · obtain ⟨u1, u2, u3⟩ := useB_iff.1 hu
      rw [if_pos hu]
      have : sumZ (fun c => if c = 0 then 0 else if j = f c then p j else 0) n = sumZ (fun c => if c = b j then p j else 0) n := by
        refine sumZ_congr n fun c hc => ?_
        by_cases e : c = b j
        · subst e; rw [if_neg (by omega), if_pos u3.symm, if_pos rfl]
        · rw [if_neg e]
          by_cases h0 : c = 0
          · rw [if_pos h0]
          · rw [if_neg h0, if_neg]
            intro h
            have := (hf c (by omega) hc).2
            rw [← h] at this
            exact e this.symm
      rw [this, sumZ_pick, if_pos u2]
    · rw [if_neg hu]
      refine ((sumZ_congr n fun c hc => ?_).trans (sumZ_zero n)).symm
      by_cases h0 : c = 0
      · rw [if_pos h0]
      · rw [if_neg h0, if_neg]
        intro h
        have h2 := (hf c (by omega) hc).2
        rw [← h] at h2
        exact hu (useB_iff.2 ⟨by omega, by omega, by rw [h2, h]⟩)
  rw [sumZ_congr m h1, sumZ_swap (fun j c => if c = 0 then 0 else if j = f c then p j else 0) n m]
  unfold costF
  refine sumZ_congr n fun c hc => ?_
  by_cases h0 : c = 0
  · rw [if_pos h0]
    refine (sumZ_congr m fun i _ => ?_).trans (sumZ_zero m)
    rw [if_pos h0]
  · rw [if_neg h0]
    have : sumZ (fun i => if c = 0 then 0 else if i = f c then p i else 0) m = sumZ (fun i => if i = f c then p (f c) else 0) m := by
      refine sumZ_congr m fun i _ => ?_
      rw [if_neg h0]
      by_cases e : i = f c
      · rw [if_pos e, if_pos e, e]
      · rw [if_neg e, if_neg e]
    rw [this, sumZ_pick, if_pos (hf c (by omega) hc).1]
theorem selL_count (X : Nat → Bool) : ∀ m, ((selL X m).length : Int) = sumZ (fun j => if X j = true then 1 else 0) m
  | 0 => rfl
  | m + 1 => by
    simp only [sumZ]
    rw [selL_succ, ← selL_count X m]
    split
    · rw [List.length_append, List.length_singleton]; omega
    · omega
theorem costF_one (n : Nat) (f : Nat → Nat) : ∀ m, m ≤ n → 1 ≤ m → sumZ (fun c => if c = 0 then 0 else (fun _ => (1 : Int)) (f c)) m = (m : Int) - 1
  | 0, _, h => absurd h (by decide)
  | 1, _, _ => rfl
  | m + 2, h, _ => by
    have ih := costF_one n f (m + 1) (by omega) (by omega)
    rw [sumZ, ih, if_neg (by omega)]
    dsimp only
    omega
theorem IsB.selLen (hn : 1 ≤ n) (hf : IsB n (aW l) (bW l) (fun i => i < l.length) f) : (selL (useB n (bW l) f) l.length).length = n - 1 := by
  have h1 := selL_count (useB n (bW l) f) l.length
  rw [sum_used (n := n) (f := f) (bW l) l.length hf.on (fun _ => 1)] at h1
  unfold costF at h1
  rw [costF_one n f n (Nat.le_refl _) hn] at h1
  omega
theorem asc_ext : ∀ (L M : List Int), L.Pairwise (· < ·) → M.Pairwise (· < ·) → (∀ x, x ∈ L ↔ x ∈ M) → L = M
  | [], [], _, _, _ => rfl
  | [], y :: M, _, _, h => absurd ((h y).2 List.mem_cons_self) (by simp)
  | x :: L, [], _, _, h => absurd ((h x).1 List.mem_cons_self) (by simp)
  | x :: L, y :: M, h1, h2, h => by
    rw [List.pairwise_cons] at h1 h2
    have hxy : x = y := by
      have a := (h x).1 List.mem_cons_self
      have b := (h y).2 List.mem_cons_self
      rcases List.mem_cons.1 a with a | a
      · exact a
      · rcases List.mem_cons.1 b with b | b
        · exact b.symm
        · have := h2.1 x a; have := h1.1 y b; omega
    subst hxy
    rw [asc_ext L M h1.2 h2.2 fun z => ?_]
    constructor
    · intro hz
      rcases List.mem_cons.1 ((h z).1 (List.mem_cons_of_mem _ hz)) with e | e
      · subst e; have := h1.1 z hz; omega
      · exact e
    · intro hz
      rcases List.mem_cons.1 ((h z).2 (List.mem_cons_of_mem _ hz)) with e | e
      · subst e; have := h2.1 z hz; omega
      · exact e
theorem selL_asc (X : Nat → Bool) : ∀ m, (selL X m).Pairwise (· < ·)
  | 0 => List.Pairwise.nil
  | m + 1 => by
    rw [selL_succ]
    split
    · rw [List.pairwise_append]
      refine ⟨selL_asc X m, List.pairwise_singleton _ _, fun a ha b hb => ?_⟩
      obtain ⟨j, rfl, hj, _⟩ := selL_nat X m a ha
      rw [List.mem_singleton] at hb
      omega
    · exact selL_asc X m
structure PreOk (l : List S30) (L : List Int) (q : Nat) : Prop where
  rng : ∀ j : Nat, j < q → 0 ≤ rd L (j : Int) ∧ rd L (j : Int) < (l.length : Int)
  asc : ∀ j : Nat, j + 1 < q → rd L (j : Int) < rd L ((j + 1 : Nat) : Int)
  far : ∀ i j : Nat, i < j → j < q → bW l (rd L (i : Int)).toNat ≠ bW l (rd L (j : Int)).toNat
  pos : ∀ j : Nat, j < q → bW l (rd L (j : Int)).toNat ≠ 0
theorem PreOk.le {L : List Int} {q r : Nat} (h : PreOk l L q) (hr : r ≤ q) : PreOk l L r :=
  ⟨fun j hj => h.rng j (by omega), fun j hj => h.asc j (by omega), fun i j hi hj => h.far i j hi (by omega), fun j hj => h.pos j (by omega)⟩
def metN (l : List S30) (L : List Int) : Nat → Nat
  | 0 => 1
  | q + 1 => metN l L q ||| 1 <<< bW l (rd L (q : Int)).toNat
def costN (l : List S30) (L : List Int) : Nat → Int
  | 0 => 0
  | q + 1 => costN l L q + costW l (rd L (q : Int)).toNat
theorem metN_bit (l : List S30) (L : List Int) (c : Nat) : ∀ q, (metN l L q).testBit c = true ↔ c = 0 ∨ ∃ j, j < q ∧ bW l (rd L (j : Int)).toNat = c
  | 0 => by
    rw [metN, show (1 : Nat) = 1 <<< 0 from rfl, tb_one, decide_eq_true_eq]
    exact ⟨.inl, fun h => h.resolve_right (fun ⟨j, hj, _⟩ => by omega)⟩
  | q + 1 => by
    rw [metN, tb_or, Bool.or_eq_true, metN_bit l L c q, decide_eq_true_eq]
    constructor
    · rintro ((h | ⟨j, hj, h⟩) | h)
      · exact .inl h
      · exact .inr ⟨j, by omega, h⟩
      · exact .inr ⟨q, by omega, h.symm⟩
    · rintro (h | ⟨j, hj, h⟩)
      · exact .inl (.inl h)
      · by_cases e : j = q
        · subst e; exact .inr h.symm
        · exact .inl (.inr ⟨j, by omega, h⟩)
theorem costN_bound (hx : ∀ x ∈ l, wayOk n x = true) {L : List Int} : ∀ q, PreOk l L q → 0 ≤ costN l L q ∧ costN l L q ≤ 1000 * q
  | 0, _ => by simp [costN]
  | q + 1, h => by
    have ih := costN_bound hx q (h.le (by omega))
    have hr := h.rng q (by omega)
    have hw := (wayOk_iff n _).1 (hx _ (rd_T30_mem l (rd L (q : Int)).toNat (by omega)))
    simp only [costN, costW]
    omega
/-- What stops at street q. -/
theorem PreOk.next {L : List Int} {q : Nat} (h : PreOk l L q) (h0 : 0 ≤ rd L (q : Int)) (h1 : rd L (q : Int) < (l.length : Int)) (h2 : 0 < q → rd L ((q - 1 : Nat) : Int) < rd L (q : Int)) (h3 : (metN l L q).testBit (bW l (rd L (q : Int)).toNat) = false) : PreOk l L (q + 1) := by
  have hm : ¬ (bW l (rd L (q : Int)).toNat = 0 ∨ ∃ j, j < q ∧ bW l (rd L (j : Int)).toNat = bW l (rd L (q : Int)).toNat) := fun hh => by
    rw [(metN_bit l L _ q).2 hh] at h3; exact absurd h3 (by decide)
  refine ⟨fun j hj => ?_, fun j hj => ?_, fun i j hi hj => ?_, fun j hj => ?_⟩
  · by_cases e : j = q
    · subst e; exact ⟨h0, h1⟩
    · exact h.rng j (by omega)
  · by_cases e : j + 1 = q
    · have := h2 (by omega)
      rw [show q - 1 = j by omega] at this
      rw [e]; exact this
    · exact h.asc j (by omega)
  · by_cases e : j = q
    · subst e; exact fun hh => hm (.inr ⟨i, hi, hh⟩)
    · exact h.far i j hi (by omega)
  · by_cases e : j = q
    · subst e; exact fun hh => hm (.inl hh)
    · exact h.pos j (by omega)
end
end Go.Proofs.Ytpmadffgdfholaa.B
namespace Go.Proofs.Ytpmadffgdfholaa.B
set_option linter.unusedVariables false
open Go.RowKit Go.Proofs.YtpmadffgdfholaaW.PrintWords Go.Proofs.YtpmadffgdfholaaW.PrintLast Go.Proofs.YtpmadffgdfholaaW.PrintMore
section
variable {n : Nat} {l : List S30} {f : Nat → Nat}
/-- The list of the streets of a branching. -/
def listB (n : Nat) (l : List S30) (f : Nat → Nat) : List Int := selL (useB n (bW l) f) l.length
abbrev BrB (n : Nat) (l : List S30) (f : Nat → Nat) : Prop := IsB n (aW l) (bW l) (fun i => i < l.length) f
theorem rd_get (L : List Int) (j : Nat) (h : j < L.length) : rd L (j : Int) = L[j] := by
  simp [rd, List.getD, List.getElem?_eq_getElem h]
theorem mem_rd (L : List Int) (x : Int) : x ∈ L ↔ ∃ j : Nat, j < L.length ∧ rd L (j : Int) = x := by
  constructor
  · intro h
    obtain ⟨j, hj, e⟩ := List.mem_iff_getElem.1 h
    exact ⟨j, hj, (rd_get L j hj).trans e⟩
  · rintro ⟨j, hj, e⟩
    rw [rd_get L j hj] at e
    exact e ▸ List.getElem_mem hj
theorem asc_pair (L : List Int) : (∀ j : Nat, j + 1 < L.length → rd L (j : Int) < rd L ((j + 1 : Nat) : Int)) ↔ L.Pairwise (· < ·) := by
  rw [List.pairwise_iff_getElem]
  constructor
  · intro h i j hi hj hij
    have key : ∀ d, i + 1 + d < L.length → rd L (i : Int) < rd L ((i + 1 + d : Nat) : Int) := by
      intro d
      induction d with
      | zero => exact fun h2 => h i h2
      | succ d ih => exact fun h2 => Int.lt_trans (ih (by omega)) (h (i + 1 + d) h2)
    have := key (j - i - 1) (by omega)
    rw [show i + 1 + (j - i - 1) = j by omega, rd_get L i hi, rd_get L j hj] at this
    exact this
  · intro h j hj
    rw [rd_get L j (by omega), rd_get L (j + 1) hj]
    exact h j (j + 1) (by omega) hj (by omega)
structure Full (n : Nat) (l : List S30) (L : List Int) : Prop where
  len : L.length = n - 1
  pre : PreOk l L L.length
  all : ∀ c, c < n → Rc (aW l) (bW l) (fun i => (i : Int) ∈ L) 0 c
theorem full_iff (hn1 : 1 ≤ n) (hn : n ≤ 7) (hx : ∀ x ∈ l, wayOk n x = true) (L : List Int) : Full n l L ↔ ∃ f, BrB n l f ∧ L = listB n l f := by
  constructor
  · intro hF
    have hnat : ∀ x ∈ L, ∃ i : Nat, x = (i : Int) ∧ i < l.length ∧ bW l i ≠ 0 := by
      intro x hxL
      obtain ⟨j, hj, e⟩ := (mem_rd L x).1 hxL
      have h1 := hF.pre.rng j hj
      have h2 := hF.pre.pos j hj
      rw [e] at h1 h2
      exact ⟨x.toNat, by omega, by omega, h2⟩
    have hone : ∀ i j : Nat, (i : Int) ∈ L → (j : Int) ∈ L → bW l i = bW l j → i = j := by
      intro i j hi hj hb
      obtain ⟨p, hp, e1⟩ := (mem_rd L i).1 hi
      obtain ⟨q, hq, e2⟩ := (mem_rd L j).1 hj
      rcases Nat.lt_trichotomy p q with h | h | h
      · have := hF.pre.far p q h hq
        rw [e1, e2] at this
        exact absurd hb this
      · subst h; omega
      · have := hF.pre.far q p h hp
        rw [e1, e2] at this
        exact absurd hb.symm this
    have hex : ∀ c, ∃ i : Nat, 0 < c → c < n → (i : Int) ∈ L ∧ bW l i = c := by
      intro c
      by_cases hc : 0 < c ∧ c < n
      · have hr := hF.all c hc.2
        generalize hz : (0 : Nat) = z at hr
        cases hr with
        | refl => omega
        | @step i t _ => exact ⟨i, fun _ _ => ⟨t, rfl⟩⟩
      · exact ⟨0, fun h1 h2 => absurd ⟨h1, h2⟩ hc⟩
    obtain ⟨f, hf⟩ : ∃ f : Nat → Nat, ∀ c, 0 < c → c < n → (f c : Int) ∈ L ∧ bW l (f c) = c := ⟨fun c => Classical.choose (hex c), fun c => Classical.choose_spec (hex c)⟩
    have hlt : ∀ i : Nat, (i : Int) ∈ L → i < l.length ∧ bW l i ≠ 0 := by
      intro i hi
      obtain ⟨j, e, h1, h2⟩ := hnat _ hi
      obtain rfl : i = j := by omega
      exact ⟨h1, h2⟩
    have hmem : ∀ i : Nat, (i : Int) ∈ L ↔ i < l.length ∧ useB n (bW l) f i = true := by
      intro i
      constructor
      · intro hi
        obtain ⟨h1, h2⟩ := hlt i hi
        have hb := (bW_eq hx i h1).2.2.1
        obtain ⟨g1, g2⟩ := hf (bW l i) (by omega) hb
        exact ⟨h1, useB_iff.2 ⟨by omega, hb, hone _ _ g1 hi g2⟩⟩
      · rintro ⟨h1, h2⟩
        obtain ⟨u1, u2, u3⟩ := useB_iff.1 h2
        have := (hf (bW l i) u1 u2).1
        rwa [u3] at this
    refine ⟨f, ⟨fun c c0 c1 => ⟨(hlt _ (hf c c0 c1).1).1, (hf c c0 c1).2⟩, fun c hc => (hF.all c hc).mono fun i hi => ?_⟩, ?_⟩
    · obtain ⟨h1, h2⟩ := (hmem i).1 hi
      obtain ⟨u1, u2, u3⟩ := useB_iff.1 h2
      exact ⟨bW l i, u1, u2, u3.symm⟩
    · refine asc_ext L _ ((asc_pair L).1 hF.pre.asc) (selL_asc _ _) fun x => ?_
      constructor
      · intro hxL
        obtain ⟨i, rfl, _⟩ := hnat x hxL
        exact (selL_mem _ _ _).2 ((hmem i).1 hxL)
      · intro hxS
        obtain ⟨i, rfl, h1, h2⟩ := selL_nat _ _ x hxS
        exact (hmem i).2 ⟨h1, h2⟩
  · rintro ⟨f, hf, rfl⟩
    have hnat : ∀ j : Nat, j < (listB n l f).length → ∃ i : Nat, rd (listB n l f) (j : Int) = (i : Int) ∧ i < l.length ∧ useB n (bW l) f i = true := by
      intro j hj
      exact selL_nat _ _ _ ((mem_rd _ _).2 ⟨j, hj, rfl⟩)
    have hasc := (asc_pair (listB n l f)).2 (selL_asc _ _)
    refine ⟨hf.selLen hn1, ⟨fun j hj => ?_, hasc, fun i j hij hj => ?_, fun j hj => ?_⟩, fun c hc => (hf.all c hc).mono ?_⟩
    · obtain ⟨i, e, h1, _⟩ := hnat j hj
      rw [e]; omega
    · obtain ⟨x, e1, _, u1⟩ := hnat i (by omega)
      obtain ⟨y, e2, _, u2⟩ := hnat j hj
      have hp := List.pairwise_iff_getElem.1 (selL_asc (useB n (bW l) f) l.length) i j (by exact (by omega : i < (listB n l f).length)) hj hij
      have hlt : rd (listB n l f) (i : Int) < rd (listB n l f) (j : Int) := by
        rw [rd_get _ i (by omega), rd_get _ j hj]; exact hp
      rw [e1, e2] at hlt ⊢
      rw [Int.toNat_natCast, Int.toNat_natCast]
      intro hb
      have h1 := (useB_iff.1 u1).2.2
      have h2 := (useB_iff.1 u2).2.2
      rw [hb, h2] at h1
      omega
    · obtain ⟨i, e, _, u⟩ := hnat j hj
      rw [e, Int.toNat_natCast]
      have := (useB_iff.1 u).1
      omega
    · rintro i ⟨c, c0, c1, rfl⟩
      obtain ⟨t, tb⟩ := hf.on c c0 c1
      exact (selL_mem _ _ _).2 ⟨t, useB_iff.2 ⟨by omega, by omega, by rw [tb]⟩⟩
theorem costN_app (l : List S30) (L M : List Int) : ∀ q, q ≤ L.length → costN l (L ++ M) q = costN l L q
  | 0, _ => rfl
  | q + 1, h => by
    simp only [costN]
    rw [costN_app l L M q (by omega)]
    have : rd (L ++ M) (q : Int) = rd L (q : Int) := by
      simp only [rd, Int.toNat_natCast, List.getD]
      rw [List.getElem?_append_left (by omega)]
    rw [this]
theorem costN_sel (l : List S30) (X : Nat → Bool) : ∀ m, costN l (selL X m) (selL X m).length = sumZ (fun j => if X j = true then costW l j else 0) m
  | 0 => rfl
  | m + 1 => by
    simp only [sumZ]
    rw [selL_succ, ← costN_sel l X m]
    split
    · rw [List.length_append, List.length_singleton]
      simp only [costN]
      rw [costN_app l _ _ _ (Nat.le_refl _)]
      have : rd (selL X m ++ [(m : Int)]) ((selL X m).length : Int) = (m : Int) := by
        simp [rd, List.getD]
      rw [this, Int.toNat_natCast]
    · omega
theorem costN_list (hf : BrB n l f) : costN l (listB n l f) (listB n l f).length = costF n (costW l) f := by
  unfold listB
  rw [costN_sel, sum_used (bW l) l.length hf.on]
theorem reach_ref (hn1 : 1 ≤ n) (hn : n ≤ 7) {L : List Int} (hL : InL n l L) (hl : L.length ≤ 60) (k : Nat) (hk : 600 ≤ k) : trishawref03_reached.f k l L = some ((itS l L n 1 : Nat) : Int) := by
  have h1 : (1 : Nat) < 2 ^ n := Nat.one_lt_two_pow (by omega)
  have hb : (L.length + 2) * (n + 1) ≤ 62 * 8 := Nat.mul_le_mul (by omega) (by omega)
  have := reached_l0 hn hL (by omega) n (k - (L.length + 2) * (n + 1) - 1) 1 h1 (by omega)
  rw [show k - (L.length + 2) * (n + 1) - 1 + (L.length + 2) * (n + 1) + 1 = k from by omega] at this
  exact this
theorem all_reached (hn1 : 1 ≤ n) (hn : n ≤ 7) {L : List Int} (hL : InL n l L) : ((itS l L n 1 : Nat) : Int) = 2 ^ n - 1 ↔ ∀ c, c < n → Rc (aW l) (bW l) (fun i => (i : Int) ∈ L) 0 c := by
  have hlt : itS l L n 1 < 2 ^ n := it_lt hn hL n 1 (Nat.one_lt_two_pow (by omega))
  have hp : 1 ≤ 2 ^ n := Nat.one_le_two_pow
  have hiff : ∀ c, (itS l L n 1).testBit c = true ↔ Rc (aW l) (bW l) (fun i => (i : Int) ∈ L) 0 c := fun c => closure_iff (d := 0) hn hL (by omega)
  have h2 : ((2 : Int) ^ n) = ((2 ^ n : Nat) : Int) := by norm_cast
  rw [h2]
  constructor
  · intro e c hc
    have e2 : itS l L n 1 = 2 ^ n - 1 := by omega
    rw [← hiff, e2, Nat.testBit_two_pow_sub_one]
    exact decide_eq_true hc
  · intro h
    have : itS l L n 1 = 2 ^ n - 1 := by
      refine Nat.eq_of_testBit_eq fun c => ?_
      rw [Nat.testBit_two_pow_sub_one]
      by_cases hc : c < n
      · rw [(hiff c).2 (h c hc), decide_eq_true hc]
      · rw [decide_eq_false hc]
        exact Nat.testBit_lt_two_pow (Nat.lt_of_lt_of_le hlt (Nat.pow_le_pow_right (by decide) (by omega)))
    omega
theorem everyone_ref (hn : n ≤ 7) : wrap64 ((shl .i64 1 (n : Int)) - 1) = (2 : Int) ^ n - 1 := by
  have e1 := fin_shl ⟨n, by omega⟩
  simp only [] at e1
  have hp : 2 ^ n ≤ 2 ^ 7 := Nat.pow_le_pow_right (by decide) hn
  have hp1 : 1 ≤ 2 ^ n := Nat.one_le_two_pow
  have h2 : ((2 : Int) ^ n) = ((2 ^ n : Nat) : Int) := by norm_cast
  rw [e1, h2]
  generalize 2 ^ n = p at hp hp1
  unfold wrap64; omega
theorem cost_ref (hx : ∀ x ∈ l, wayOk n x = true) {L : List Int} (hl : L.length ≤ 60) (hP : PreOk l L L.length) : ∀ (d q k : Nat), q + d = L.length → trishawref03_cost.l0 (k + d + 1) l L (costN l L q) (q : Int) = some (costN l L L.length)
  | 0, q, k, h => by
    obtain rfl : q = L.length := by omega
    rw [show k + 0 + 1 = k + 1 from rfl, trishawref03_cost.l0, if_neg (by omega)]
  | d + 1, q, k, h => by
    have hq : q < L.length := by omega
    have hw := wrap_nat q (by omega)
    have ih := cost_ref hx hl hP d (q + 1) k (by omega)
    have h1 := hP.rng q hq
    have hcb := costN_bound hx q (hP.le (by omega))
    have hwy := (wayOk_iff (n : Int) _).1 (hx _ (rd_T30_mem l (rd L (q : Int)).toNat (by omega)))
    rw [show k + (d + 1) + 1 = (k + d + 1) + 1 from by omega, trishawref03_cost.l0, if_pos (by omega), if_pos (by omega), if_pos (by omega), if_pos (by omega), hw]
    rw [show wrap64 (costN l L q + (rd_T30 l (rd L (q : Int))).f2) = costN l L (q + 1) from by
      simp only [costN, costW]
      rw [Int.toNat_of_nonneg h1.1] at hwy ⊢
      unfold wrap64; omega]
    exact ih
end
end Go.Proofs.Ytpmadffgdfholaa.B
namespace Go.Proofs.Ytpmadffgdfholaa.B
set_option linter.unusedVariables false
open Go.RowKit Go.Proofs.YtpmadffgdfholaaW.PrintWords Go.Proofs.YtpmadffgdfholaaW.PrintLast Go.Proofs.YtpmadffgdfholaaW.PrintMore
section
variable {n : Nat} {l : List S30} {f : Nat → Nat}
def costL (l : List S30) : List Int := l.map fun x => x.f2
theorem costL_length (l : List S30) : (costL l).length = l.length := by simp [costL]
theorem costL_rd (l : List S30) (i : Nat) (h : i < l.length) : rd (costL l) (i : Int) = costW l i := by
  simp [rd, costL, costW, rd_T30, List.getD, List.getElem?_eq_getElem h]
theorem costs_l0 (l : List S30) (hl : l.length < 1000) : ∀ (d q k : Nat), q + d = l.length → branch_town_costs.l0 (k + d + 1) ((costL l).take q) l (l.length : Int) (q : Int) = some (costL l)
  | 0, q, k, h => by
    rw [show k + 0 + 1 = k + 1 from rfl, branch_town_costs.l0, if_neg (by omega), List.take_of_length_le (by rw [costL_length]; omega)]
  | d + 1, q, k, h => by
    have hq : q < l.length := by omega
    have hw := wrap_nat q (by omega)
    have ih := costs_l0 l hl d (q + 1) k (by omega)
    rw [take_rdI (costL l) q (by rw [costL_length]; exact hq), costL_rd l q hq] at ih
    rw [show k + (d + 1) + 1 = (k + d + 1) + 1 from by omega, branch_town_costs.l0, if_pos (by omega), if_pos (by omega), if_pos (by omega), if_pos (by rw [List.length_take]; omega), hw]
    exact ih
theorem costs_f (n : Int) (l : List S30) (hl : l.length ≤ 30) (k : Nat) (hk : 40 ≤ k) : branch_town_costs.f k n l = some (costL l) := by
  have := costs_l0 l (by omega) l.length 0 (k - l.length - 1) (by omega)
  rw [show k - l.length - 1 + l.length + 1 = k from by omega] at this
  exact this
theorem cost_low (hx : ∀ x ∈ l, wayOk n x = true) (i : Nat) (h : i < l.length) : 0 ≤ costW l i ∧ costW l i ≤ 1000 := by
  have := (wayOk_iff n _).1 (hx _ (rd_T30_mem l i h))
  unfold costW
  omega
theorem FirstB.congr {p q : Nat → Int} {v : Int} (h : FirstB n l p v f) (e : ∀ i, i < l.length → p i = q i) : FirstB n l q v f := by
  have hc : ∀ g, BrB n l g → costF n p g = costF n q g := fun g hg => costF_congr fun c c0 c1 => e _ (hg.on c c0 c1).1
  exact ⟨h.is, (hc f h.is) ▸ h.cost, fun g hg => (hc g hg) ▸ h.least g hg, fun g hg hv => h.ahead g hg ((hc g hg).trans hv)⟩
/-- Branching. -/
theorem branching_spec (hr : readB (n : Int) l = 0) :
    (∃ f v, FirstB n l (costW l) v f ∧ ∀ k, 3000 ≤ k → branch_Branching.f k (n : Int) l = some (listB n l f, v, 0)) ∨
    ((∀ f, ¬ BrB n l f) ∧ ∀ k, 3000 ≤ k → branch_Branching.f k (n : Int) l = some ([], 0, 10)) := by
  obtain ⟨h2, h7, h30, hx⟩ := readB_ok hr
  have hstep : ∀ k, 3000 ≤ k → branch_Branching.f k (n : Int) l = branch_town_first.f k (n : Int) l (costL l) := by
    intro k hk
    unfold branch_Branching.f branch_read.f
    rw [hr, Option.bind_some, if_pos rfl, costs_f _ l h30 k (by omega), Option.bind_some]
  have hp : ∀ i : Nat, i < l.length → 0 ≤ rd (costL l) (i : Int) ∧ rd (costL l) (i : Int) ≤ 1000 := fun i hi => by rw [costL_rd l i hi]; exact cost_low hx i hi
  rcases first_spec (n := n) (by omega) (by omega) h30 hx (costL l) (costL_length l) hp with ⟨f, v, hf, hk⟩ | ⟨hno, hk⟩
  · exact .inl ⟨f, v, hf.congr fun i hi => costL_rd l i hi, fun k h => (hstep k h).trans (hk k h)⟩
  · exact .inr ⟨hno, fun k h => (hstep k h).trans (hk k h)⟩
theorem costF_neg (hn : 1 ≤ n) (M : Int) (p : Nat → Int) (f : Nat → Nat) : costF n (fun i => M - p i) f = ((n : Int) - 1) * M - costF n p f := by
  unfold costF
  have key : ∀ m, 1 ≤ m → sumZ (fun c => if c = 0 then 0 else M - p (f c)) m = ((m : Int) - 1) * M - sumZ (fun c => if c = 0 then 0 else p (f c)) m := by
    intro m
    induction m with
    | zero => intro h; omega
    | succ m ih =>
      intro _
      simp only [sumZ]
      by_cases e : m = 0
      · subst e; simp [sumZ]
      · rw [ih (by omega), if_neg e, if_neg e]
        have : (((m + 1 : Nat) : Int) - 1) * M = ((m : Int) - 1) * M + M := by
          rw [show ((m + 1 : Nat) : Int) - 1 = ((m : Int) - 1) + 1 by omega, Int.add_mul, Int.one_mul]
        omega
  exact key n hn
theorem costF_low (hn1 : 1 ≤ n) (hn : n ≤ 7) {p : Nat → Int} (hp : ∀ i, i < l.length → 0 ≤ p i ∧ p i ≤ 1000) (hf : BrB n l f) : 0 ≤ costF n p f ∧ costF n p f ≤ 6000 := by
  refine ⟨costF_nonneg fun c c0 c1 => (hp _ (hf.on c c0 c1).1).1, ?_⟩
  have h2 := costF_nonneg (n := n) (p := fun i => 1000 - p i) (f := f) fun c c0 c1 => by have := (hp _ (hf.on c c0 c1).1).2; omega
  rw [costF_neg hn1] at h2
  omega
/-- Proof. -/
theorem proof_spec (hr : readB (n : Int) l = 0) :
    (∃ P v, Opt n (aW l) (bW l) (fun i => i < l.length) (costW l) v ∧ ProofOk n l (fun i => i < l.length) (costL l) P v ∧ P.length ≤ 31 ∧ ∀ k, 3000 ≤ k → branch_Proof.f k (n : Int) l = some (P, 0)) ∨
    ((∀ f, ¬ BrB n l f) ∧ ∀ k, 3000 ≤ k → branch_Proof.f k (n : Int) l = some ([], 10)) := by
  obtain ⟨h2, h7, h30, hx⟩ := readB_ok hr
  have hp : ∀ i : Nat, i < l.length → 0 ≤ rd (costL l) (i : Int) ∧ rd (costL l) (i : Int) ≤ 1000 := fun i hi => by rw [costL_rd l i hi]; exact cost_low hx i hi
  obtain ⟨r, hr1, hr2⟩ := cheapest_spec (n := n) (by omega) (by omega) h30 hx (fun i => branch_Proof_1.f i) (fun _ => false) (fun _ _ => rfl) (costL l) (costL_length l) hp
  have hstep : ∀ k, 3000 ≤ k → branch_Proof.f k (n : Int) l = if r.2.2 = true then some (r.2.1, 0) else some ([], 10) := by
    intro k hk
    unfold branch_Proof.f branch_read.f
    rw [hr, Option.bind_some, if_pos rfl, costs_f _ l h30 k (by omega), Option.bind_some, hr1 k hk, Option.bind_some]
  have hc : ∀ g, BrB n l g → costF n (fun i => rd (costL l) (i : Int)) g = costF n (costW l) g := fun g hg => costF_congr fun c c0 c1 => costL_rd l _ (hg.on c c0 c1).1
  rcases hr2 with ⟨h1, ⟨⟨g, hg, hgc⟩, hlow⟩, hP, hPl⟩ | ⟨e, hnone⟩
  · have hg' : BrB n l g := hg.mono fun i hi => hi.1
    refine .inl ⟨r.2.1, r.1, ⟨⟨g, hg', (hc g hg').symm.trans hgc⟩, fun f hf => ?_⟩, ⟨hP.sets, hP.apart, hP.worth, fun i hi => hP.below i ⟨hi, rfl⟩⟩, hPl, fun k hk => by rw [hstep k hk, if_pos h1]⟩
    rw [← hc f hf]
    exact hlow f (hf.mono fun i hi => ⟨hi, rfl⟩)
  · refine .inr ⟨fun f hf => hnone f (hf.mono fun i hi => ⟨hi, rfl⟩), fun k hk => ?_⟩
    rw [hstep k hk, e]
    rfl
/-- A refused town. -/
theorem refused_spec {n : Int} (hr : readB n l ≠ 0) (k : Nat) : branch_Branching.f k n l = some ([], 0, readB n l) ∧ branch_Dear.f k n l = some ([], 0, readB n l) ∧ branch_Proof.f k n l = some ([], readB n l) ∧ ∀ L, branch_Is.f k n l L = some (0, false, readB n l) := by
  unfold branch_Branching.f branch_Dear.f branch_Proof.f branch_Is.f branch_read.f
  refine ⟨?_, ?_, ?_, fun L => ?_⟩ <;> rw [Option.bind_some, if_neg hr]
def lessL : List Int → List Int → Bool
  | [], [] => false
  | [], _ :: _ => true
  | _ :: _, [] => false
  | x :: A, y :: B => if x = y then lessL A B else decide (x < y)
theorem less_l0 (A B : List Int) (hA : A.length < 1000) (hB : B.length < 1000) : ∀ (d q k : Nat), q + d = A.length → q ≤ B.length → trishawref03_Less.l0 (k + 2 * d + 2) A B (q : Int) = some (lessL (A.drop q) (B.drop q))
  | 0, q, k, h, hq => by
    rw [show k + 2 * 0 + 2 = k + 1 + 1 from rfl, trishawref03_Less.l0, if_neg (by omega), trishawref03_Less.j1, if_neg (by decide), List.drop_eq_nil_of_le (show A.length ≤ q by omega)]
    by_cases e : q < B.length
    · rw [drop_rdI4 B q e, decide_eq_true (by omega)]; rfl
    · rw [List.drop_eq_nil_of_le (by omega), decide_eq_false (by omega)]; rfl
  | d + 1, q, k, h, hq => by
    have hqA : q < A.length := by omega
    have hw := wrap_nat q (by omega)
    have ih := fun h => less_l0 A B hA hB d (q + 1) k (by omega) h
    rw [show k + 2 * (d + 1) + 2 = (k + 2 * d + 2) + 1 + 1 from by omega, trishawref03_Less.l0, if_pos (by omega), drop_rdI4 A q hqA]
    by_cases e : q < B.length
    · rw [decide_eq_true (by omega), trishawref03_Less.j1, if_pos rfl, drop_rdI4 B q e, if_pos (by omega), if_pos (by omega), if_pos (by omega)]
      simp only [lessL]
      by_cases h1 : rd A (q : Int) = rd B (q : Int)
      · rw [if_pos h1, if_pos h1, hw]
        exact ih (by omega)
      · rw [if_neg h1, if_neg h1]
    · rw [decide_eq_false (by omega), trishawref03_Less.j1, if_neg (by decide), List.drop_eq_nil_of_le (show B.length ≤ q by omega), decide_eq_false (by omega)]
      rfl
theorem less_f (A B : List Int) (hA : A.length < 1000) (hB : B.length < 1000) (k : Nat) (hk : 2 * A.length + 2 ≤ k) : trishawref03_Less.f k A B = some (lessL A B) := by
  have := less_l0 A B hA hB A.length 0 (k - 2 * A.length - 2) (by omega) (by omega)
  rw [show k - 2 * A.length - 2 + 2 * A.length + 2 = k from by omega] at this
  exact this
theorem lessL_self : ∀ A, lessL A A = false
  | [] => rfl
  | x :: A => by simp only [lessL, if_true]; exact lessL_self A
/-- Ahead, as_ lists of one length. -/
theorem ahead_less {X Y : Nat → Bool} : ∀ (m : Nat), Ahead X Y m → (selL X m).length = (selL Y m).length → lessL (selL Y m) (selL X m) = false := by
  intro m hA hlen
  rcases hA with h | ⟨j, hj, hq, h1, h2⟩
  · rw [selL_congr m h]; exact lessL_self _
  · -- both lists are one list up to j; then X has j
    have hsplit : ∀ (Z : Nat → Bool) (d : Nat), ∃ R : List Int, selL Z (j + 1 + d) = selL Z (j + 1) ++ R ∧ ∀ x ∈ R, (j : Int) < x := by
      intro Z d
      induction d with
      | zero => exact ⟨[], by simp, fun x hx => absurd hx (by simp)⟩
      | succ d ih =>
        obtain ⟨R, e, hR⟩ := ih
        rw [show j + 1 + (d + 1) = (j + 1 + d) + 1 by omega, selL_succ]
        by_cases hz : Z (j + 1 + d) = true
        · rw [if_pos hz, e]
          refine ⟨R ++ [((j + 1 + d : Nat) : Int)], by rw [List.append_assoc], fun x hx => ?_⟩
          rcases List.mem_append.1 hx with hx | hx
          · exact hR x hx
          · rw [List.mem_singleton] at hx; omega
        · rw [if_neg hz]
          exact ⟨R, e, hR⟩
    obtain ⟨RX, eX, _⟩ := hsplit X (m - (j + 1))
    obtain ⟨RY, eY, hRY⟩ := hsplit Y (m - (j + 1))
    rw [show j + 1 + (m - (j + 1)) = m by omega] at eX eY
    rw [selL_succ, if_pos h1, selL_congr j hq] at eX
    rw [selL_succ, if_neg (by rw [h2]; decide)] at eY
    rw [eX, eY] at hlen ⊢
    rw [List.length_append, List.length_append, List.length_append, List.length_singleton] at hlen
    cases RY with
    | nil => simp at hlen; omega
    | cons y RY =>
      have hy := hRY y List.mem_cons_self
      have key : ∀ P : List Int, lessL (P ++ y :: RY) (P ++ (j : Int) :: RX) = false := by
        intro P
        induction P with
        | nil => simp only [List.nil_append, lessL]; rw [if_neg (by omega)]; exact decide_eq_false (by omega)
        | cons z P ih => simp only [List.cons_append, lessL, if_true]; exact ih
      rw [List.append_assoc]
      exact key _
/-- The first branching's list is not behind another's. -/
theorem FirstB.not_less {p : Nat → Int} {v : Int} (hn : 1 ≤ n) (h : FirstB n l p v f) {g : Nat → Nat} (hg : BrB n l g) (hv : costF n p g = v) : lessL (listB n l g) (listB n l f) = false :=
  ahead_less _ (h.ahead g hg hv) (by have a := h.is.selLen hn; have b := hg.selLen hn; omega)
theorem Ahead.eq {X Y : Nat → Bool} {m : Nat} (h1 : Ahead X Y m) (h2 : Ahead Y X m) : ∀ j, j < m → X j = Y j := by
  rcases h1 with h1 | ⟨i, hi, a1, a2, a3⟩
  · exact h1
  · rcases h2 with h2 | ⟨j, hj, b1, b2, b3⟩
    · exact fun j hj => (h2 j hj).symm
    · exfalso
      rcases Nat.lt_trichotomy i j with h | h | h
      · have := b1 i h; rw [a2, a3] at this; exact absurd this (by decide)
      · subst h; rw [a2] at b3; exact absurd b3 (by decide)
      · have := a1 j h; rw [b2, b3] at this; exact absurd this (by decide)
/-- There is one first list. -/
theorem FirstB.unique {p q : Nat → Int} {v w d : Int} {f g : Nat → Nat} (h : FirstB n l p v f) (k : FirstB n l q w g) (e : ∀ s, BrB n l s → costF n q s = costF n p s + d) : listB n l f = listB n l g ∧ w = v + d := by
  have h1 := h.least g k.is
  have h2 := k.least f h.is
  have e1 := e g k.is
  have e2 := e f h.is
  have h3 := h.cost
  have h4 := k.cost
  have hw : w = v + d := by omega
  exact ⟨selL_congr _ ((h.ahead g k.is (by omega)).eq (k.ahead f h.is (by omega))), hw⟩
end
end Go.Proofs.Ytpmadffgdfholaa.B
namespace Go.Proofs.Ytpmadffgdfholaa.B
set_option linter.unusedVariables false
open Go.RowKit Go.Proofs.YtpmadffgdfholaaW.PrintWords Go.Proofs.YtpmadffgdfholaaW.PrintLast Go.Proofs.YtpmadffgdfholaaW.PrintMore
theorem wrap_shift (x k : Int) : wrap64 (x + k * 18446744073709551616) = wrap64 x := by unfold wrap64; omega
theorem wrap_form (x : Int) : ∃ k, wrap64 x = x + k * 18446744073709551616 := ⟨-((x + 9223372036854775808) / 18446744073709551616), by unfold wrap64; omega⟩
theorem wrap_mul (a b : Int) : wrap64 (wrap64 a * b) = wrap64 (a * b) := by
  obtain ⟨k, hk⟩ := wrap_form a
  rw [hk, Int.add_mul, show k * 18446744073709551616 * b = (k * b) * 18446744073709551616 by rw [Int.mul_assoc, Int.mul_assoc, Int.mul_comm 18446744073709551616 b], wrap_shift]
theorem wrap_mul2 (a b : Int) : wrap64 (a * wrap64 b) = wrap64 (a * b) := by rw [Int.mul_comm, wrap_mul, Int.mul_comm]
theorem wrap_add (a b : Int) : wrap64 (a + wrap64 b) = wrap64 (a + b) := by
  obtain ⟨k, hk⟩ := wrap_form b
  rw [hk, ← Int.add_assoc, wrap_shift]
theorem wrap_wrap (a : Int) : wrap64 (wrap64 a) = wrap64 a := by
  have := wrap_add 0 a
  rwa [Int.zero_add, Int.zero_add] at this
def colsOf (cols : List Int) : List (List Int → Int) := cols.map fun c r => rd r c
theorem loop_wrap (r cols : List Int) (D : Nat → Int) (E : List (List Int → Int) → Int) (hD : ∀ p, p < cols.length → D p = wrap64 (E (colsOf (cut1 cols p)))) : ∀ (d p : Nat) (s g : Int), p + d = cols.length → (g = 1 ∨ g = -1) → wrap64 s = s →
    loopD r cols D d p s g = wrap64 (s + g * exD r E (colsOf (cols.take p)) (colsOf (cols.drop p)))
  | 0, p, s, g, h, _, hs => by
    rw [loopD, List.drop_eq_nil_of_le (by omega)]
    simp [colsOf, exD, hs]
  | d + 1, p, s, g, h, hg, hs => by
    have hp : p < cols.length := by omega
    have hng : wrap64 (-g) = -g := by rcases hg with rfl | rfl <;> decide +kernel
    have ih := fun s hs => loop_wrap r cols D E hD d (p + 1) s (-g) (by omega) (by omega) hs
    have hdrop : cols.drop p = rd cols (p : Int) :: cols.drop (p + 1) := drop_rdI4 cols p hp
    have htake : cols.take (p + 1) = cols.take p ++ [rd cols (p : Int)] := by
      rw [List.take_add_one, List.getElem?_eq_getElem hp]
      simp [rd, List.getD, List.getElem?_eq_getElem hp]
    have e1 : exD r E (colsOf (cols.take p)) (colsOf (cols.drop p)) = rd r (rd cols (p : Int)) * E (colsOf (cut1 cols p)) - exD r E (colsOf (cols.take (p + 1))) (colsOf (cols.drop (p + 1))) := by
      rw [hdrop, htake]
      simp only [colsOf, List.map_cons, List.map_append, exD, List.map_nil, cut1]
    rw [loopD, hng, e1]
    generalize exD r E (colsOf (cols.take (p + 1))) (colsOf (cols.drop (p + 1))) = z at ih
    by_cases h0 : rd r (rd cols (p : Int)) = 0
    · rw [if_pos h0, ih s hs, h0, Int.zero_mul]
      congr 1
      rw [Int.mul_sub, Int.mul_zero, Int.neg_mul]
      omega
    · rw [if_neg h0, ih _ (wrap_wrap _), hD p hp, wrap_mul2, wrap_mul, wrap_add, Int.add_comm (wrap64 _), wrap_add]
      congr 1
      rw [Int.mul_sub, Int.neg_mul, Int.mul_assoc]
      omega
theorem detW_wrap : ∀ (rows : List (List Int)) (cols : List Int), rows.length = cols.length → detW rows cols = wrap64 (detC rows (colsOf cols))
  | [], cols, h => by
    obtain rfl : cols = [] := by cases cols with | nil => rfl | cons _ _ => exact absurd h (by simp)
    show (1 : Int) = wrap64 1
    decide +kernel
  | r :: rows, cols, h => by
    rw [detW, loop_wrap r cols _ (detC rows) (fun p hp => detW_wrap rows (cut1 cols p) (by rw [cut1_length cols p hp]; simp at h; omega)) cols.length 0 0 1 (by omega) (.inl rfl) (by decide +kernel)]
    rw [List.take_zero, List.drop_zero, Int.zero_add, Int.one_mul]
    rfl
def entT (X : List (List Int)) (r c : Nat) : Int := rd (rd_L12 X ((r - 1 : Nat) : Int)) ((c - 1 : Nat) : Int)
theorem rd_L12_set (X : List (List Int)) (R : List Int) (i j : Nat) (h : j < X.length) : rd_L12 (X.set j R) (i : Int) = if i = j then R else rd_L12 X (i : Int) := by
  simp only [rd_L12, Int.toNat_natCast, List.getD, List.getElem?_set]
  by_cases e : j = i
  · subst e; simp [h]
  · rw [if_neg e, if_neg (fun h => e h.symm)]
theorem entT_put {m : Nat} {X : List (List Int)} (hX : Sq m X) (p q : Nat) (hp : 1 ≤ p ∧ p ≤ m) (hq : 1 ≤ q ∧ q ≤ m) (v : Int) (r c : Nat) (hr : 1 ≤ r ∧ r ≤ m) (hc : 1 ≤ c ∧ c ≤ m) :
    entT (X.set (p - 1) ((rd_L12 X ((p - 1 : Nat) : Int)).set (q - 1) v)) r c = if r = p ∧ c = q then v else entT X r c := by
  unfold entT
  rw [rd_L12_set X _ (r - 1) (p - 1) (by rw [hX.1]; omega)]
  by_cases e : r = p
  · subst e
    rw [if_pos rfl, rd_set _ (q - 1) (c - 1) v (by rw [sq_row hX _ (by omega) (by omega)]; omega)]
    by_cases e2 : c = q
    · subst e2; rw [if_pos rfl, if_pos ⟨rfl, rfl⟩]
    · rw [if_neg (by omega), if_neg (fun h => e2 h.2)]
  · rw [if_neg (by omega), if_neg (fun h => e h.1)]
section
variable {n m : Nat} {l : List S30}
theorem entT_step (hm : m ≤ 6) (hn : n = m + 1) {X : List (List Int)} (hX : Sq m X) {x : S30} (hx : wayOk n x = true) (hb : ∀ r c, 1 ≤ r → r ≤ m → 1 ≤ c → c ≤ m → -1000 ≤ entT X r c ∧ entT X r c ≤ 1000) (r c : Nat) (hr : 1 ≤ r ∧ r ≤ m) (hc : 1 ≤ c ∧ c ≤ m) :
    entT (stepT X x) r c = entT X r c + if x.f1.toNat = c then unitC c r - unitC x.f0.toNat r else 0 := by
  obtain ⟨h1, h2, h3, h4, h5, _⟩ := (wayOk_iff n x).1 hx
  unfold stepT
  by_cases t1 : x.f1 > 0
  · rw [if_pos t1]
    have e1 : wrap64 (x.f1 - 1) = ((x.f1.toNat - 1 : Nat) : Int) := by unfold wrap64; omega
    have hA : stepA X x = X.set (x.f1.toNat - 1) ((rd_L12 X ((x.f1.toNat - 1 : Nat) : Int)).set (x.f1.toNat - 1) (wrap64 (entT X x.f1.toNat x.f1.toNat + 1))) := by
      unfold stepA entT
      rw [e1, Int.toNat_natCast]
    have hSA : Sq m (stepA X x) := stepA_sq hX t1 (by omega) hm
    have hbb := hb x.f1.toNat x.f1.toNat (by omega) (by omega) (by omega) (by omega)
    have hwA : wrap64 (entT X x.f1.toNat x.f1.toNat + 1) = entT X x.f1.toNat x.f1.toNat + 1 := by unfold wrap64; omega
    have hentA : ∀ r c, 1 ≤ r ∧ r ≤ m → 1 ≤ c ∧ c ≤ m → entT (stepA X x) r c = entT X r c + if x.f1.toNat = c then unitC c r else 0 := by
      intro r c hr hc
      rw [hA, entT_put hX _ _ (by omega) (by omega) _ r c hr hc, hwA]
      unfold unitC
      by_cases e : r = x.f1.toNat ∧ c = x.f1.toNat
      · rw [if_pos e, e.1, e.2, if_pos rfl, if_pos rfl]
      · rw [if_neg e]
        by_cases e2 : x.f1.toNat = c
        · rw [if_pos e2, if_neg (by omega)]; omega
        · rw [if_neg e2]; omega
    by_cases t0 : x.f0 > 0
    · rw [if_pos t0]
      have e0 : wrap64 (x.f0 - 1) = ((x.f0.toNat - 1 : Nat) : Int) := by unfold wrap64; omega
      have hB : stepB (stepA X x) x = (stepA X x).set (x.f0.toNat - 1) ((rd_L12 (stepA X x) ((x.f0.toNat - 1 : Nat) : Int)).set (x.f1.toNat - 1) (wrap64 (entT (stepA X x) x.f0.toNat x.f1.toNat - 1))) := by
        unfold stepB entT
        rw [e1, e0, Int.toNat_natCast, Int.toNat_natCast]
      have hv := hentA x.f0.toNat x.f1.toNat (by omega) (by omega)
      have hub : unitC x.f1.toNat x.f0.toNat = 0 := if_neg (by omega)
      rw [if_pos rfl, hub] at hv
      have hbv := hb x.f0.toNat x.f1.toNat (by omega) (by omega) (by omega) (by omega)
      have hwB : wrap64 (entT (stepA X x) x.f0.toNat x.f1.toNat - 1) = entT X x.f0.toNat x.f1.toNat - 1 := by rw [hv]; unfold wrap64; omega
      rw [hB, entT_put hSA _ _ (by omega) (by omega) _ r c hr hc, hwB]
      by_cases e : r = x.f0.toNat ∧ c = x.f1.toNat
      · rw [if_pos e, if_pos e.2.symm, e.1, e.2, hub]
        unfold unitC
        rw [if_pos rfl]; omega
      · rw [if_neg e, hentA r c hr hc]
        by_cases e2 : x.f1.toNat = c
        · rw [if_pos e2, if_pos e2]
          have : unitC x.f0.toNat r = 0 := if_neg (fun h => e ⟨h, e2.symm⟩)
          rw [this]; omega
        · rw [if_neg e2, if_neg e2]
    · rw [if_neg t0, hentA r c hr hc]
      by_cases e2 : x.f1.toNat = c
      · rw [if_pos e2, if_pos e2]
        have : unitC x.f0.toNat r = 0 := if_neg (by omega)
        rw [this]; omega
      · rw [if_neg e2, if_neg e2]
  · rw [if_neg t1, if_neg (by omega)]; omega
theorem fullC_bound (a b : Nat → Nat) (c r : Nat) : ∀ i : Nat, -(i : Int) ≤ fullC a b i c r ∧ fullC a b i c r ≤ i
  | 0 => by simp [fullC, sumZ]
  | i + 1 => by
    have ih := fullC_bound a b c r i
    unfold fullC at ih ⊢
    simp only [sumZ]
    have : ∀ d, unitC d r = 0 ∨ unitC d r = 1 := fun d => by unfold unitC; split <;> simp
    have h1 := this c
    have h2 := this (a i)
    split <;> omega
theorem entT_fold (hm : m ≤ 6) (hn : n = m + 1) (hl : l.length ≤ 30) (hx : ∀ x ∈ l, wayOk n x = true) : ∀ i, i ≤ l.length → Sq m ((l.take i).foldl stepT (List.replicate m (zeros m))) ∧ ∀ r c, 1 ≤ r → r ≤ m → 1 ≤ c → c ≤ m → entT ((l.take i).foldl stepT (List.replicate m (zeros m))) r c = fullC (aW l) (bW l) i c r
  | 0, _ => by
    have hz : Sq m (List.replicate m (zeros m)) := ⟨by simp, fun r h => by rw [List.eq_of_mem_replicate h]; simp [zeros]⟩
    refine ⟨hz, fun r c r1 r2 c1 c2 => ?_⟩
    rw [List.take_zero, List.foldl_nil]
    have : rd_L12 (List.replicate m (zeros m)) ((r - 1 : Nat) : Int) = zeros m := by
      simp [rd_L12, List.getD, show r - 1 < m by omega]
    unfold entT
    rw [this]
    simp [zeros, rd, List.getD, fullC, sumZ, show c - 1 < m by omega]
  | i + 1, hi => by
    obtain ⟨h1, h2⟩ := entT_fold hm hn hl hx i (by omega)
    have hok := hx _ (rd_T30_mem l i (by omega))
    have hlt : i < l.length := by omega
    have htake : l.take (i + 1) = l.take i ++ [rd_T30 l (i : Int)] := by
      rw [List.take_add_one, List.getElem?_eq_getElem hlt]
      simp [rd_T30, List.getD, List.getElem?_eq_getElem hlt]
    rw [htake, List.foldl_append, List.foldl_cons, List.foldl_nil]
    refine ⟨stepT_sq h1 (n := (n : Int)) (by omega) hm hok, fun r c r1 r2 c1 c2 => ?_⟩
    rw [entT_step hm hn h1 hok (fun r c r1 r2 c1 c2 => by rw [h2 r c r1 r2 c1 c2]; have := fullC_bound (aW l) (bW l) c r i; omega) r c ⟨r1, r2⟩ ⟨c1, c2⟩, h2 r c r1 r2 c1 c2]
    rfl
theorem det_table (hm : m ≤ 6) (hn : n = m + 1) (hl : l.length ≤ 30) (hx : ∀ x ∈ l, wayOk n x = true) : detC (l.foldl stepT (List.replicate m (zeros m))) (colsOf ((List.range m).map fun q : Nat => (q : Int))) = detN m (fullC (aW l) (bW l) l.length) := by
  obtain ⟨h1, h2⟩ := entT_fold hm hn hl hx l.length (Nat.le_refl _)
  rw [List.take_length] at h1 h2
  generalize l.foldl stepT (List.replicate m (zeros m)) = M at h1 h2
  have hM : M = ((List.range m).map fun j => j + 1).map fun r => rd_L12 M ((r - 1 : Nat) : Int) := by
    refine List.ext_getElem (by simp [h1.1]) fun i g1 g2 => ?_
    simp only [List.getElem_map, List.getElem_range, Nat.add_sub_cancel]
    exact (rd_L12_at M i g1).symm
  have hcols : ((colsOf ((List.range m).map fun q : Nat => (q : Int))).map fun u => u ∘ fun r : Nat => rd_L12 M ((r - 1 : Nat) : Int)) = (List.range m).map fun (q r : Nat) => rd (rd_L12 M ((r - 1 : Nat) : Int)) (q : Int) := by
    unfold colsOf
    rw [List.map_map, List.map_map]
    rfl
  have h3 := detC_map (fun r : Nat => rd_L12 M ((r - 1 : Nat) : Int)) ((List.range m).map fun j => j + 1) (colsOf ((List.range m).map fun q : Nat => (q : Int)))
  rw [hcols, ← hM] at h3
  rw [h3]
  unfold detN
  refine detC_same _ _ _ (by simp) fun i g1 g2 r hr => ?_
  obtain ⟨j, hj, rfl⟩ := List.mem_map.1 hr
  have hj := List.mem_range.1 hj
  simp at g1
  simp only [List.getElem_map, List.getElem_range]
  have := h2 (j + 1) (i + 1) (by omega) (by omega) (by omega) (by omega)
  unfold entT at this
  rw [Nat.add_sub_cancel] at this
  rw [Nat.add_sub_cancel] at this
  rw [Nat.add_sub_cancel]
  exact this
/-- One branching counts 1, and what is none 0. -/
def leafB (n : Nat) (l : List S30) (f : Nat → Nat) : Int := detN (n - 1) (colP fun c => aW l (f c))
theorem aW_small (hn : 1 ≤ n) (hx : ∀ x ∈ l, wayOk n x = true) (i : Nat) : aW l i < n := by
  by_cases h : i < l.length
  · exact (bW_eq hx i h).2.2.2
  · have : rd_T30 l (i : Int) = z30 := by simp [rd_T30, List.getD, List.getElem?_eq_none (show l.length ≤ i by omega)]
    unfold aW
    rw [this]
    exact hn
theorem leafB_cases (hn : 1 ≤ n) (hx : ∀ x ∈ l, wayOk n x = true) (f : Nat → Nat) : (leafB n l f = 1 ∧ ∀ c, 0 < c → c < n → ∃ k, itP (fun c => aW l (f c)) k c = 0) ∨ (leafB n l f = 0 ∧ ¬ ∀ c, 0 < c → c < n → ∃ k, itP (fun c => aW l (f c)) k c = 0) := by
  have hπ : ∀ c, 1 ≤ c → c ≤ n - 1 → aW l (f c) ≤ n - 1 := fun c _ _ => by have := aW_small hn hx (f c); omega
  by_cases h : ∀ c, 0 < c → c < n → ∃ k, itP (fun c => aW l (f c)) k c = 0
  · exact .inl ⟨det_hung hπ fun c c1 c2 => h c (by omega) (by omega), h⟩
  · refine .inr ⟨?_, h⟩
    obtain ⟨c, c0, c1, hc⟩ : ∃ c, 0 < c ∧ c < n ∧ ∀ k, itP (fun c => aW l (f c)) k c ≠ 0 := by
      refine Classical.byContradiction fun hno => h fun c c0 c1 => ?_
      refine Classical.byContradiction fun h2 => hno ⟨c, c0, c1, fun k hk => h2 ⟨k, hk⟩⟩
    exact det_ring hπ (c := c) (by omega) (by omega) hc
theorem leafB_brB (hn : 1 ≤ n) (hx : ∀ x ∈ l, wayOk n x = true) {f : Nat → Nat} (hf : ∀ c, 0 < c → c < n → bW l (f c) = c ∧ f c < l.length) : (leafB n l f = 1 ∧ BrB n l f) ∨ (leafB n l f = 0 ∧ ¬ BrB n l f) := by
  have hch := chain_iff (n := n) (a := aW l) (b := bW l) (f := f) (fun c c0 c1 => ⟨(hf c c0 c1).1, aW_small hn hx _⟩) (by omega)
  rcases leafB_cases hn hx f with ⟨h1, h2⟩ | ⟨h1, h2⟩
  · exact .inl ⟨h1, fun c c0 c1 => ⟨(hf c c0 c1).2, (hf c c0 c1).1⟩, hch.2 h2⟩
  · exact .inr ⟨h1, fun hB => h2 (hch.1 hB.all)⟩
/-- The number of the branchings. -/
def cntL (n : Nat) (l : List S30) : Int := cntB (leafB n l) (bW l) l.length (n - 1) 1 (fun _ => 0)
theorem leafB_01 (hn : 1 ≤ n) (hx : ∀ x ∈ l, wayOk n x = true) (f : Nat → Nat) : 0 ≤ leafB n l f ∧ leafB n l f ≤ 1 := by
  rcases leafB_cases hn hx f with ⟨h, _⟩ | ⟨h, _⟩ <;> rw [h] <;> decide
theorem cntL_pos (hn : 1 ≤ n) (hx : ∀ x ∈ l, wayOk n x = true) : 0 < cntL n l ↔ ∃ f, BrB n l f := by
  constructor
  · intro h
    obtain ⟨g, g1, _, g3⟩ := cntB_some _ _ _ _ h
    rcases leafB_brB hn hx (f := g) (fun c c0 c1 => g3 c (by omega) (by omega)) with ⟨_, hB⟩ | ⟨h0, _⟩
    · exact ⟨g, hB⟩
    · omega
  · rintro ⟨f, hf⟩
    have h1 : leafB n l f = 1 := by
      rcases leafB_brB hn hx (f := f) (fun c c0 c1 => ⟨(hf.on c c0 c1).2, (hf.on c c0 c1).1⟩) with ⟨h, _⟩ | ⟨_, h⟩
      · exact h
      · exact absurd hf h
    exact cntB_pos (n := n) (fun f => (leafB_01 hn hx f).1) l.length (g := f) (by omega) (fun g e => detN_congr _ fun c r c1 c2 _ _ => by unfold colP; dsimp only; rw [e c (by omega) (by omega)]) (n - 1) 1 _ (by omega) (by omega) (fun c c0 c1 => by omega) (fun c c0 c1 => ⟨(hf.on c (by omega) c1).2, (hf.on c (by omega) c1).1⟩)
/-- Count. -/
theorem count_spec (hr : readB (n : Int) l = 0) : 0 ≤ cntL n l ∧ ∃ K, ∀ k, K ≤ k → branch_Count.f k (n : Int) l = some (cntL n l, 0) := by
  obtain ⟨h2, h7, h30, hx⟩ := readB_ok hr
  obtain ⟨m, rfl⟩ : ∃ m, n = m + 1 := ⟨n - 1, by omega⟩
  have hm : m ≤ 6 := by omega
  have hni : ((m + 1 : Nat) : Int) = (m : Int) + 1 := rfl
  have h0 := cntB_nonneg (b := bW l) (fun f => (leafB_01 (by omega) hx f).1) l.length (m + 1 - 1) 1 (fun _ => 0)
  have h1 := cntB_bound (b := bW l) (fun f => (leafB_01 (by omega) hx f).2) l.length (m + 1 - 1) 1 (fun _ => 0)
  refine ⟨h0, ?_⟩
  have hz : Sq m (List.replicate m (zeros m)) := ⟨by simp, fun r h => by rw [List.eq_of_mem_replicate h]; simp [zeros]⟩
  have hM := fold_sq (n := ((m + 1 : Nat) : Int)) hni hm l _ hz hx
  have hdet := det_table (l := l) hm rfl h30 hx
  have hcl : ((List.range m).map fun q : Nat => (q : Int)).length = m := by simp
  obtain ⟨K2, hk2⟩ := code_det (l.foldl stepT (List.replicate m (zeros m))) ((List.range m).map fun q : Nat => (q : Int)) (by rw [hM.1, hcl]) (by omega)
  rw [rows_self hM] at hk2
  have hcount : detN m (fullC (aW l) (bW l) l.length) = cntL (m + 1) l := by
    have h3 := det_count (a := aW l) (b := bW l) l.length m m 1 (fun _ => 0) (by omega) (by omega)
    have h4 : partC (aW l) (bW l) l.length (fun _ => 0) 1 = partC (aW l) (bW l) l.length (fun _ => 0) 1 := rfl
    unfold cntL leafB
    rw [Nat.add_sub_cancel, ← h3]
    refine detN_congr m fun c r c1 _ _ _ => ?_
    unfold partC
    rw [if_neg (by omega)]
  have hb : (l.length : Int) ^ (m + 1 - 1) ≤ 1000000000 := by
    have h5 : l.length ^ m ≤ 30 ^ 6 := Nat.le_trans (Nat.pow_le_pow_left h30 m) (Nat.pow_le_pow_right (by decide) hm)
    have h6 : ((l.length : Int) ^ m) = ((l.length ^ m : Nat) : Int) := by norm_cast
    rw [Nat.add_sub_cancel, h6]
    omega
  have hval : detW (l.foldl stepT (List.replicate m (zeros m))) ((List.range m).map fun q : Nat => (q : Int)) = cntL (m + 1) l := by
    rw [detW_wrap _ _ (by rw [hM.1, hcl]), hdet, hcount]
    unfold cntL at h0 h1 ⊢
    unfold wrap64
    omega
  refine ⟨K2 + l.length + m + 2, fun k hk => ?_⟩
  unfold branch_Count.f branch_read.f
  rw [hr, Option.bind_some, if_pos rfl, wrap_n hni hm, if_pos (by omega), if_pos (by simp only [Int.toNat_natCast]; omega), Option.bind_some]
  have c0 := count_l0 (l := l) hni hm m 0 (k - m - 1) (by omega)
  rw [show k - m - 1 + m + 1 = k from by omega, Nat.sub_zero, List.replicate_zero, List.nil_append] at c0
  have c1 := count_l1 hni hm h30 hx l.length 0 (k - m - 1 - l.length - 1) (List.replicate m (zeros m)) (by omega) hz
  rw [show k - m - 1 - l.length - 1 + l.length + 1 = k - m - 1 from by omega, List.drop_zero, hk2 _ (by omega), Option.bind_some] at c1
  rw [List.length_replicate, Int.toNat_natCast, ← hval]
  exact c0.trans c1
end
end Go.Proofs.Ytpmadffgdfholaa.B
