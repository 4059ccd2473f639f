/- What the reference's Town and the code's read answer: the same number. -/
import Derived.Test.YtpmadffgdfholaaDBH4
import Derived.Test.YtpmadffgdfholaaDBA0
import Derived.Test.YtpmadffgdfholaaDBA1
import Derived.Test.YtpmadffgdfholaaDBA2
import Derived.Test.YtpmadffgdfholaaDBA3
import Derived.Test.YtpmadffgdfholaaDBA4
import Derived.Test.YtpmadffgdfholaaDBA10
import Derived.Test.YtpmadffgdfholaaDBA11
namespace Go.Proofs.Ytpmadffgdfholaa.B
open Go.RowKit Go.Proofs.YtpmadffgdfholaaW.PrintWords Go.Proofs.YtpmadffgdfholaaW.PrintLast Go.Proofs.YtpmadffgdfholaaW.PrintMore

theorem wrap_nat (i : Nat) (h : i < 4611686018427387904) : wrap64 ((i : Int) + 1) = ((i + 1 : Nat) : Int) := by unfold wrap64; omega
theorem drop_rd30 (l : List S30) (i : Nat) (h : i < l.length) : l.drop i = rd_T30 l (i : Int) :: l.drop (i + 1) := by
  rw [List.drop_eq_getElem_cons h]
  simp [rd_T30, List.getD, List.getElem?_eq_getElem h]
theorem wayOk_iff (n : Int) (x : S30) : wayOk n x = true ↔ 0 ≤ x.f0 ∧ x.f0 < n ∧ 0 ≤ x.f1 ∧ x.f1 < n ∧ x.f0 ≠ x.f1 ∧ 0 ≤ x.f2 ∧ x.f2 ≤ 1000 := by
  unfold wayOk mn mx
  simp only [Bool.not_eq_true', Bool.or_eq_false_iff, decide_eq_false_iff_not, beq_eq_false_iff_ne]
  constructor
  · rintro ⟨⟨⟨⟨h1, h2⟩, h3⟩, h4⟩, h5⟩
    split at h1 <;> split at h2 <;> refine ⟨?_, ?_, ?_, ?_, h3, ?_, ?_⟩ <;> omega
  · rintro ⟨h1, h2, h3, h4, h5, h6, h7⟩
    refine ⟨⟨⟨⟨?_, ?_⟩, h5⟩, ?_⟩, ?_⟩
    · split <;> omega
    · split <;> omega
    · omega
    · omega
theorem town_l0 (n : Int) (l : List S30) (hl : l.length < 1000000) : ∀ d i k : Nat, i + d = l.length → trishawref03_Town.l0 (k + 2 * d + 1) n l (i : Int) = some (if (l.drop i).all (wayOk n) then 0 else 2)
  | 0, i, k, h => by
    simp only [trishawref03_Town.l0]
    rw [if_neg (by omega), List.drop_eq_nil_of_le (by omega)]
    simp
  | d + 1, i, k, h => by
    have hi : i < l.length := by omega
    rw [show k + 2 * (d + 1) + 1 = (k + 2 * d + 1 + 1) + 1 from by omega, drop_rd30 l i hi]
    simp only [trishawref03_Town.l0, List.all_cons]
    rw [if_pos (by omega), if_pos (by omega)]
    have ih := town_l0 n l hl d (i + 1) k (by omega)
    have hw := wrap_nat i (by omega)
    have j2t : trishawref03_Town.j2 (k + 2 * d + 1 + 1) n l (i : Int) true = some 2 := by simp [trishawref03_Town.j2]
    have j2f : trishawref03_Town.j2 (k + 2 * d + 1 + 1) n l (i : Int) false = some (if (l.drop (i + 1)).all (wayOk n) then 0 else 2) := by
      simp only [trishawref03_Town.j2, Bool.false_eq_true, if_false, hw]
      exact ih
    generalize rd_T30 l (i : Int) = x
    have hx := wayOk_iff n x
    by_cases hok : wayOk n x = true
    · obtain ⟨h1, h2, h3, h4, h5, h6, h7⟩ := hx.1 hok
      rw [if_neg (by omega), if_neg (by omega), if_neg (by omega), if_neg (by omega), if_neg h5, if_neg (by omega), show decide (x.f2 > 1000) = false from decide_eq_false (by omega), j2f]
      simp [hok]
    · have hb : wayOk n x = false := Bool.eq_false_iff.mpr hok
      simp only [hb, Bool.false_and, Bool.false_eq_true, if_false]
      by_cases t1 : x.f0 < 0
      · rw [if_pos t1, j2t]
      rw [if_neg t1]
      by_cases t2 : x.f0 ≥ n
      · rw [if_pos t2, j2t]
      rw [if_neg t2]
      by_cases t3 : x.f1 < 0
      · rw [if_pos t3, j2t]
      rw [if_neg t3]
      by_cases t4 : x.f1 ≥ n
      · rw [if_pos t4, j2t]
      rw [if_neg t4]
      by_cases t5 : x.f0 = x.f1
      · rw [if_pos t5, j2t]
      rw [if_neg t5]
      by_cases t6 : x.f2 < 0
      · rw [if_pos t6, j2t]
      rw [if_neg t6]
      by_cases t7 : x.f2 > 1000
      · rw [show decide (x.f2 > 1000) = true from decide_eq_true t7, j2t]
      · exact absurd (hx.2 ⟨by omega, by omega, by omega, by omega, t5, by omega, by omega⟩) hok
theorem town_eq (n : Int) (l : List S30) (k : Nat) (hk : 2 * l.length + 2 ≤ k ∨ 62 ≤ k) : trishawref03_Town.f k n l = some (readB n l) := by
  have key : ∀ k, (2 * l.length + 2 ≤ k ∨ 62 ≤ k) → ∀ b : Bool, trishawref03_Town.j0 k n l b = some (if b = true then 2 else if 30 < l.length then 3 else if l.all (wayOk n) then 0 else 2) := by
    intro k hk b
    obtain ⟨k, rfl⟩ : ∃ k', k = k' + 1 := ⟨k - 1, by omega⟩
    simp only [trishawref03_Town.j0]
    cases b with
    | true => simp
    | false =>
      simp only [Bool.false_eq_true, if_false]
      by_cases h3 : 30 < l.length
      · rw [if_pos (by omega), if_pos h3]
      · rw [if_neg (by omega), if_neg h3]
        have := town_l0 n l (by omega) l.length 0 (k - 2 * l.length - 1) (by omega)
        rw [show k - 2 * l.length - 1 + 2 * l.length + 1 = k from by omega] at this
        simpa using this
  unfold trishawref03_Town.f readB
  by_cases h1 : n < 2
  · rw [if_pos h1, key k hk, if_pos rfl, if_pos (Or.inl h1)]
  · rw [if_neg h1, key k hk]
    by_cases h2 : n > 7
    · rw [show decide (n > 7) = true from decide_eq_true h2, if_pos rfl, if_pos (Or.inr h2)]
    · rw [show decide (n > 7) = false from decide_eq_false h2, if_neg (show ¬ (false = true) by decide), if_neg (show ¬ (n < 2 ∨ 7 < n) by omega)]
/-- A town that is taken. -/
theorem readB_ok {n : Int} {l : List S30} (h : readB n l = 0) : 2 ≤ n ∧ n ≤ 7 ∧ l.length ≤ 30 ∧ ∀ x ∈ l, wayOk n x = true := by
  unfold readB at h
  split at h
  · exact absurd h (by decide)
  split at h
  · exact absurd h (by decide)
  split at h
  · rename_i h1 h2 h3
    exact ⟨by omega, by omega, by omega, List.all_eq_true.1 h3⟩
  · exact absurd h (by decide)
end Go.Proofs.Ytpmadffgdfholaa.B
