/- BranchTutte in plain Lean: the determinant that Count takes by minors is the one that the statement takes by columns, for every list of streets. -/
import Derived.Test.YtpmadffgdfholaaCWalkBranchTutte
import Derived.Test.YtpmadffgdfholaaCBP3
namespace Go.Proofs.Ytpmadffgdfholaa.Pure
open Go.RowKit Go.Proofs.Ytpmadffgdfholaa.B Go.Proofs.YtpmadffgdfholaaW.PrintWords Go.Proofs.YtpmadffgdfholaaW.PrintLast Go.Proofs.YtpmadffgdfholaaW.PrintMore

theorem tutte_alive (k : Nat) (h : 61 ≤ k) (a0 : Int) (l1 : List S30) : trishawlaw03_BranchTutte.j0 k a0 l1 true = some true := by
  obtain ⟨k, rfl⟩ : ∃ k', k = k' + 1 := ⟨k - 1, by omega⟩
  simp only [trishawlaw03_BranchTutte.j0, if_true]
  rw [alive_from k (by omega)]
  rfl
theorem BranchTutte : trishawlaw03_BranchTutte.Pure := by
  intro a0 l1 _ _ _
  by_cases h60 : (l1.length : Int) ≤ 60
  · have hfew : trishawlaw03_few.f l1 [] = some true := by unfold trishawlaw03_few.f; rw [if_pos h60]; rfl
    by_cases hr : readB a0 l1 = 0
    · obtain ⟨hn2, hn7, hl30, hx⟩ := readB_ok hr
      obtain ⟨m, hm⟩ : ∃ m : Nat, a0 = (m : Int) + 1 := ⟨(a0 - 1).toNat, by omega⟩
      have hm6 : m ≤ 6 := by omega
      have hz : Sq m (List.replicate m (zeros m)) := ⟨by simp, fun r h => by rw [List.eq_of_mem_replicate h]; simp [zeros]⟩
      have hM := fold_sq hm hm6 l1 _ hz hx
      obtain ⟨M, hMe⟩ : ∃ M : List (List Int), l1.foldl B.stepT (List.replicate m (zeros m)) = M := ⟨_, rfl⟩
      rw [hMe] at hM
      obtain ⟨cols, hce⟩ : ∃ cols, (List.range m).map (fun q : Nat => (q : Int)) = cols := ⟨_, rfl⟩
      have hcl : cols.length = m := by rw [← hce]; simp
      have hcm : ∀ c ∈ cols, 0 ≤ c ∧ c < (m : Int) := by
        intro c hc
        rw [← hce] at hc
        obtain ⟨q, hq, rfl⟩ := List.mem_map.1 hc
        have := List.mem_range.1 hq
        omega
      obtain ⟨K1, h1⟩ := law_det M m hM.1 (by omega) hM.2 M cols (by rw [hM.1, hcl]) (by rw [hcl, Nat.sub_self, List.drop_zero]) (by omega) hcm
      obtain ⟨K2, h2⟩ := code_det M cols (by rw [hM.1, hcl]) (by omega)
      have hself := rows_self hM
      rw [hce] at hself
      rw [hself] at h2
      have hcount : ∀ k, K2 + l1.length + m + 2 ≤ k → branch_Count.f k a0 l1 = some (detW M cols, 0) := by
        intro k hk
        unfold branch_Count.f branch_read.f
        rw [hr, Option.bind_some, if_pos rfl, wrap_n hm hm6, if_pos (by omega), if_pos (by simp only [Int.toNat_natCast]; omega), Option.bind_some]
        have c0 := count_l0 (l := l1) hm hm6 m 0 (k - m - 1) (by omega)
        rw [show k - m - 1 + m + 1 = k from by omega, Nat.sub_zero, List.replicate_zero, List.nil_append] at c0
        have c1 := count_l1 hm hm6 hl30 hx l1.length 0 (k - m - 1 - l1.length - 1) (List.replicate m (zeros m)) (by omega) hz
        rw [show k - m - 1 - l1.length - 1 + l1.length + 1 = k - m - 1 from by omega, List.drop_zero, hMe, h2 _ (by omega), Option.bind_some] at c1
        rw [List.length_replicate, Int.toNat_natCast]
        exact c0.trans c1
      obtain ⟨q, hq⟩ : ∃ q, q = K1 + K2 + l1.length + m + 100 := ⟨_, rfl⟩
      refine ⟨q + l1.length + 1 + m + 1 + 1, ?_⟩
      have t0 := law_l0 (l := l1) hm hm6 m 0 (q + l1.length + 1) (by omega)
      rw [List.replicate_zero, List.range_zero, List.map_nil, hce] at t0
      have t1 := law_l1 hm hm6 hl30 hx cols l1.length 0 q (List.replicate m (zeros m)) (by omega) hz
      rw [List.drop_zero, hMe, hcount q (by omega), Option.bind_some, h1 q (by omega), Option.bind_some, alive_from q (by omega)] at t1
      unfold trishawlaw03_BranchTutte.f
      rw [hfew, Option.bind_some, if_pos rfl, town_eq a0 l1 _ (.inr (by omega)), hr, Option.bind_some]
      simp only [trishawlaw03_BranchTutte.j0]
      rw [if_neg (by decide)]
      refine t0.trans (t1.trans ?_)
      simp
    · refine ⟨100, ?_⟩
      unfold trishawlaw03_BranchTutte.f
      rw [hfew, Option.bind_some, if_pos rfl, town_eq a0 l1 _ (.inr (by omega)), Option.bind_some, show (readB a0 l1 != 0) = true from bne_iff_ne.mpr hr]
      exact tutte_alive 100 (by omega) a0 l1
  · refine ⟨100, ?_⟩
    unfold trishawlaw03_BranchTutte.f trishawlaw03_few.f
    rw [if_neg h60, Option.bind_some, if_neg (by decide)]
    exact tutte_alive 100 (by omega) a0 l1

end Go.Proofs.Ytpmadffgdfholaa.Pure
