/- Contracts of branch_town_isSet: what each hands back, and that it changes nothing that was there. -/
import Derived.Test.YtpmadffgdfholaaDBA0
import Derived.Test.YtpmadffgdfholaaDBA10
namespace Go.Proofs.Ytpmadffgdfholaa.B
open Go.RowKit Go.Proofs.YtpmadffgdfholaaW.PrintWords Go.Proofs.YtpmadffgdfholaaW.PrintLast Go.Proofs.YtpmadffgdfholaaW.PrintMore
attribute [local go_sem] max2_int min2_int max_two min_two max_three min_three max_four min_four   -- for this text's walks alone
set_option linter.unusedVariables false
set_option linter.unusedSimpArgs false

/-! ### branch_town_isSet: function 58 -/
def branch_town_isSet.f (a0_0 : Int) (l0_1 : List (S30)) (a1 : Int) : Option (Bool) := if a1 > 0 then ((branch_town_everybody.f a0_0 l0_1).bind fun t245 => (if a1 ≤ t245 then (some ((Go.bits .and .i64 a1 1) == 0)) else (some false))) else (some false)
set_option maxHeartbeats 8000000 in
set_option maxRecDepth 100000 in
theorem branch_town_isSet.calls (g0 : Nat) (a0_0 : Int) (A0_1 : Option Addr) (c0_1 : Nat) (l0_1 : List (S30)) (a0_2 : Option Nat) (a1 : Int) (r : Bool) (w : World) (hP0 : w.heap[g0]? = some (.cells #[.int .i64 a0_0, .slice A0_1 l0_1.length c0_1, .map a0_2] 70 (0, 0))) (hr0_1 : Kd.C k30 w A0_1 l0_1.length l0_1) (hc0_1 : l0_1.length ≤ c0_1) (h : branch_town_isSet.f a0_0 l0_1 a1 = some r) :
    Calls Try.prog 58 #[.pointer (some ⟨g0, 0, none⟩), .int .i64 a1] w fun e w' => e = .returned (.bool r) ∧ Drawn0 w w' := by
  have HP0 := Aside0.mk hP0
  clear hP0
  have HR0_1 := Aside0.mk hr0_1
  have HC0_1 := Aside0.mk hc0_1
  clear hr0_1 hc0_1
  have H : (if a1 > 0 then ((branch_town_everybody.f a0_0 l0_1).bind fun t245 => (if a1 ≤ t245 then (some ((Go.bits .and .i64 a1 1) == 0)) else (some false))) else (some false)) = some r := h
  clear h
  by_cases c3 : a1 > 0
  · rw [if_pos c3] at H
    have c3b0 : decide (0 < a1) = true := decide_eq_true c3
    clear c3
    replace H := Option.bind_eq_some_iff.mp H
    obtain ⟨t245, A40, H⟩ := H
    replace H : (if a1 ≤ t245 then (some ((Go.bits .and .i64 a1 1) == 0)) else (some false)) = some r := H
    have A4 := Aside0.mk A40
    clear A40
    by_cases c5 : a1 ≤ t245
    · rw [if_pos c5] at H
      have c5b0 : decide (a1 ≤ t245) = true := decide_eq_true c5
      clear c5
      obtain rfl := Option.some.inj H
      go_enter Try.func58, Try.ntmps58
      go_wp2_with (first | (go_at_call 74; (with_reducible refine (branch_town_everybody.calls g0 a0_0 A0_1 c0_1 l0_1 a0_2 t245 _ ?side1 ?side2 ?side3 A4.out).mono ?_); (case side1 => exact HP0.out); (case side2 => repeat (first | exact HR0_1.out | (with_reducible refine Kd.C_alloc ?_ _) | (with_reducible refine Kd.C_drewN ?_ _) | (with_reducible refine Kd.C_drew ?_))); (case side3 => exact HC0_1.out); rintro e w' ⟨rfl, ⟨nd, rfl⟩⟩))
      go_ret
      exact ⟨by first | rfl | (simp; done) | (simp [*]; done), by repeat (first | exact Drawn0.refl _ | apply Drawn0.step)⟩
    · rw [if_neg c5] at H
      have c5b0 : decide (a1 ≤ t245) = false := decide_eq_false c5
      clear c5
      obtain rfl := Option.some.inj H
      go_enter Try.func58, Try.ntmps58
      go_wp2_with (first | (go_at_call 74; (with_reducible refine (branch_town_everybody.calls g0 a0_0 A0_1 c0_1 l0_1 a0_2 t245 _ ?side1 ?side2 ?side3 A4.out).mono ?_); (case side1 => exact HP0.out); (case side2 => repeat (first | exact HR0_1.out | (with_reducible refine Kd.C_alloc ?_ _) | (with_reducible refine Kd.C_drewN ?_ _) | (with_reducible refine Kd.C_drew ?_))); (case side3 => exact HC0_1.out); rintro e w' ⟨rfl, ⟨nd, rfl⟩⟩))
      go_ret
      exact ⟨by first | rfl | (simp; done) | (simp [*]; done), by repeat (first | exact Drawn0.refl _ | apply Drawn0.step)⟩
  · rw [if_neg c3] at H
    have c3b0 : decide (0 < a1) = false := decide_eq_false c3
    clear c3
    obtain rfl := Option.some.inj H
    go_enter Try.func58, Try.ntmps58
    go_wp2
    go_ret
    exact ⟨by first | rfl | (simp; done) | (simp [*]; done), by repeat (first | exact Drawn0.refl _ | apply Drawn0.step)⟩

end Go.Proofs.Ytpmadffgdfholaa.B
