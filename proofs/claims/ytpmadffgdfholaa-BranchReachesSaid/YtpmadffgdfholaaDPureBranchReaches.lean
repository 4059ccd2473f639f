/- BranchReaches in plain Lean: Reach and Entering answer as the reference does, for every list of streets and every number. -/
import Derived.Test.YtpmadffgdfholaaDWalkBranchReaches
import Derived.Test.YtpmadffgdfholaaDBP5
namespace Go.Proofs.Ytpmadffgdfholaa.Pure
open Go.RowKit Go.Proofs.Ytpmadffgdfholaa.B Go.Proofs.YtpmadffgdfholaaW.PrintWords Go.Proofs.YtpmadffgdfholaaW.PrintLast Go.Proofs.YtpmadffgdfholaaW.PrintMore

theorem reaches_loop (l : List S30) (hl : l.length < 1000) (E : List Int) (hE : E.length ≤ 1000) (t : Int) (k : Nat) (hk : 1200 ≤ k) : ∀ (d i : Nat), i + d = l.length → trishawlaw03_BranchReaches.l0 (k + d + 1) l l t t E E (i : Int) = some true
  | 0, i, h => by
    have hs := same_self E hE E.length 0 (k - E.length - 1) (by omega)
    rw [show k - E.length - 1 + E.length + 1 = k from by omega] at hs
    have hs2 : trishawlaw03_same.f k E E = some true := by unfold trishawlaw03_same.f; rw [if_pos rfl]; exact hs
    simp only [trishawlaw03_BranchReaches.l0]
    rw [if_neg (by omega), hs2]
    simp [alive_from k (by omega)]
  | d + 1, i, h => by
    have hw := wrap_nat i (by omega)
    have ih := reaches_loop l hl E hE t k hk d (i + 1) (by omega)
    rw [show k + (d + 1) + 1 = (k + d + 1) + 1 from by omega]
    generalize k + d + 1 = qq at ih
    simp only [trishawlaw03_BranchReaches.l0, hw]
    rw [if_pos (by omega), if_pos (by omega), if_pos (by omega)]
    simpa using ih
theorem BranchReaches : trishawlaw03_BranchReaches.Pure := by
  intro a0 l1 a2 _ _ _ _
  by_cases h60 : (l1.length : Int) ≤ 60
  · have hfew : trishawlaw03_few.f l1 [] = some true := by unfold trishawlaw03_few.f; rw [if_pos h60]; rfl
    obtain ⟨r, t, K1, h1⟩ := reach_eq a0 l1
    obtain ⟨E, hE, u, K2, h2⟩ := entering_eq a0 l1 a2
    obtain ⟨q, hq⟩ : ∃ q, q = K1 + K2 + 1200 := ⟨_, rfl⟩
    refine ⟨q + l1.length + 1 + 1, ?_⟩
    obtain ⟨r1, r2⟩ := h1 (q + l1.length + 1 + 1) (by omega)
    obtain ⟨e1, e2⟩ := h2 (q + l1.length + 1) (by omega)
    have hl := reaches_loop l1 (by omega) E hE u q (by omega) l1.length 0 (by omega)
    unfold trishawlaw03_BranchReaches.f
    rw [hfew, Option.bind_some, if_pos rfl, Option.bind_some, if_pos (by simp; omega), Option.bind_some, List.nil_append, r1, Option.bind_some, r2, Option.bind_some]
    simp only [if_true, bne_self_eq_false, trishawlaw03_BranchReaches.j0, Bool.false_eq_true, if_false]
    rw [e1, Option.bind_some, e2, Option.bind_some]
    exact hl
  · refine ⟨100, ?_⟩
    unfold trishawlaw03_BranchReaches.f trishawlaw03_few.f
    rw [if_neg h60, Option.bind_some, if_neg (by decide), alive_from 100 (by omega)]
    rfl
end Go.Proofs.Ytpmadffgdfholaa.Pure
