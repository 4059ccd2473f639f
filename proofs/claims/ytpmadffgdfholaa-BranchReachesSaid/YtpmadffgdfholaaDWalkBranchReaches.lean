/- The one pure statement of BranchReaches, and the walk under it. -/
import Derived.Test.YtpmadffgdfholaaDLA2
import Derived.Test.YtpmadffgdfholaaDBOpen
namespace Go.Proofs.Ytpmadffgdfholaa.B
open Go.RowKit Go.Proofs.YtpmadffgdfholaaW.PrintWords Go.Proofs.YtpmadffgdfholaaW.PrintLast Go.Proofs.YtpmadffgdfholaaW.PrintMore
def trishawlaw03_BranchReaches.Pure : Prop := ∀ (a0 : Int) (l1 : List S30) (a2 : Int), (Lit.int .i64 a0).wf = true → l1.length ≤ maxLen → (∀ x ∈ l1, okS30 x) → (Lit.int .i64 a2).wf = true → ∃ k, trishawlaw03_BranchReaches.f k a0 l1 a2 = some true
theorem trishawlaw03_BranchReaches.walk (P : trishawlaw03_BranchReaches.Pure) (w : World) (a0 : Int) (A1 : Option Addr) (c1 : Nat) (l1 : List S30) (hr1 : Kd.C k30 w A1 l1.length l1) (hc1 : l1.length ≤ c1) (a2 : Int) (h0_0 : (Lit.int .i64 a0).wf = true) (h1_0 : l1.length ≤ maxLen) (h2_0 : (∀ x ∈ l1, okS30 x)) (h3_0 : (Lit.int .i64 a2).wf = true) :
    Calls Try.prog 8 #[.int .i64 a0, .slice A1 l1.length c1, .int .i64 a2] w fun e w' => e = .returned (.bool true) ∧ Below w.heap.size w w' := by
  obtain ⟨k, h⟩ := P a0 l1 a2 h0_0 h1_0 h2_0 h3_0
  refine (trishawlaw03_BranchReaches.calls k a0 A1 c1 l1 a2 true w hr1 hc1 h).mono ?_
  rintro e w' ⟨rfl, hd⟩
  exact ⟨rfl, hd⟩
end Go.Proofs.Ytpmadffgdfholaa.B
