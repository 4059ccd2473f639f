/- The table that Count makes, and the one that the statement makes, are one table. -/
import Derived.Test.YtpmadffgdfholaaCBP2
import Derived.Test.YtpmadffgdfholaaCBE2
import Derived.Test.YtpmadffgdfholaaCBT2
import Derived.KernelRfl
namespace Go.Proofs.Ytpmadffgdfholaa.B
open Go.RowKit Go.Proofs.YtpmadffgdfholaaW.PrintWords Go.Proofs.YtpmadffgdfholaaW.PrintLast Go.Proofs.YtpmadffgdfholaaW.PrintMore

def Sq (m : Nat) (X : List (List Int)) : Prop := X.length = m ∧ ∀ r ∈ X, r.length = m
theorem sq_row {m : Nat} {X : List (List Int)} (h : Sq m X) (w : Int) (h0 : 0 ≤ w) (h1 : w < (m : Int)) : (rd_L12 X w).length = m := by
  obtain ⟨j, rfl⟩ := Int.eq_ofNat_of_zero_le h0
  have hj : j < X.length := by have := h.1; omega
  rw [rd_L12_at X j hj]
  exact h.2 _ (List.getElem_mem hj)
theorem sq_set {m : Nat} {X : List (List Int)} (h : Sq m X) (j : Nat) (r : List Int) (hr : r.length = m) : Sq m (X.set j r) := by
  refine ⟨by rw [List.length_set]; exact h.1, fun y hy => ?_⟩
  rcases List.mem_or_eq_of_mem_set hy with hy | rfl
  · exact h.2 y hy
  · exact hr
/-- What a street does to the table. -/
def stepA (X : List (List Int)) (x : S30) : List (List Int) :=
  X.set ((wrap64 (x.f1 - 1)) : Int).toNat ((rd_L12 X (wrap64 (x.f1 - 1))).set ((wrap64 (x.f1 - 1)) : Int).toNat (wrap64 ((rd (rd_L12 X (wrap64 (x.f1 - 1))) (wrap64 (x.f1 - 1))) + 1)))
def stepB (Y : List (List Int)) (x : S30) : List (List Int) :=
  Y.set ((wrap64 (x.f0 - 1)) : Int).toNat ((rd_L12 Y (wrap64 (x.f0 - 1))).set ((wrap64 (x.f1 - 1)) : Int).toNat (wrap64 ((rd (rd_L12 Y (wrap64 (x.f0 - 1))) (wrap64 (x.f1 - 1))) - 1)))
def stepT (X : List (List Int)) (x : S30) : List (List Int) := if x.f1 > 0 then (if x.f0 > 0 then stepB (stepA X x) x else stepA X x) else X
theorem wrap_pred (a : Int) (h0 : 0 < a) (h1 : a ≤ 7) : wrap64 (a - 1) = a - 1 := by unfold wrap64; omega
theorem stepA_sq {m : Nat} {X : List (List Int)} {x : S30} (h : Sq m X) (h0 : 0 < x.f1) (h1 : x.f1 ≤ (m : Int)) (hm : m ≤ 6) : Sq m (stepA X x) := by
  have e := wrap_pred x.f1 h0 (by omega)
  refine sq_set h _ _ ?_
  rw [List.length_set]
  exact sq_row h _ (by omega) (by omega)
theorem stepB_sq {m : Nat} {X : List (List Int)} {x : S30} (h : Sq m X) (h0 : 0 < x.f0) (h1 : x.f0 ≤ (m : Int)) (hm : m ≤ 6) : Sq m (stepB X x) := by
  have e := wrap_pred x.f0 h0 (by omega)
  refine sq_set h _ _ ?_
  rw [List.length_set]
  exact sq_row h _ (by omega) (by omega)
theorem stepT_sq {m : Nat} {X : List (List Int)} {x : S30} {n : Int} (h : Sq m X) (hn : n = (m : Int) + 1) (hm : m ≤ 6) (hx : wayOk n x = true) : Sq m (stepT X x) := by
  obtain ⟨h1, h2, h3, h4, _⟩ := (wayOk_iff n x).1 hx
  unfold stepT
  split
  · split
    · exact stepB_sq (stepA_sq h (by omega) (by omega) hm) (by omega) (by omega) hm
    · exact stepA_sq h (by omega) (by omega) hm
  · exact h
theorem fold_sq {m : Nat} {n : Int} (hn : n = (m : Int) + 1) (hm : m ≤ 6) : ∀ (l : List S30) (X : List (List Int)), Sq m X → (∀ x ∈ l, wayOk n x = true) → Sq m (l.foldl stepT X)
  | [], _, h, _ => h
  | x :: l, X, h, hx => fold_sq hn hm l (stepT X x) (stepT_sq h hn hm (hx x List.mem_cons_self)) (fun y hy => hx y (List.mem_cons_of_mem _ hy))

section
variable {n : Int} {l : List S30} {m : Nat}
theorem law_l1 (hn : n = (m : Int) + 1) (hm : m ≤ 6) (hl : l.length ≤ 30) (hx : ∀ x ∈ l, wayOk n x = true) (cols : List Int) : ∀ d i k X, i + d = l.length → Sq m X →
    trishawlaw03_BranchTutte.l1 (k + d + 1) n l X cols (i : Int) = (branch_Count.f k n l).bind fun bt145 => (if bt145.2 = 0 then ((trishawlaw03_determinant.f k ((l.drop i).foldl stepT X) cols).bind fun t147 => (if bt145.1 = t147 then ((trishawlaw03_alive.f k).bind fun t148 => (some t148)) else (some false))) else (some false))
  | 0, i, k, X, h, _ => by
    simp only [trishawlaw03_BranchTutte.l1]
    rw [if_neg (by omega), List.drop_eq_nil_of_le (by omega)]
    rfl
  | d + 1, i, k, X, h, hs => by
    have hi : i < l.length := by omega
    have hw := wrap_nat i (by omega)
    have hok : wayOk n (rd_T30 l (i : Int)) = true := hx _ (by
      simp [rd_T30, List.getD, List.getElem?_eq_getElem hi])
    have ih := law_l1 hn hm hl hx cols d (i + 1) k (stepT X (rd_T30 l (i : Int))) (by omega) (stepT_sq hs hn hm hok)
    rw [drop_rd30 l i hi, List.foldl_cons, ← ih, show k + (d + 1) + 1 = (k + d + 1) + 1 from by omega]
    clear ih
    generalize k + d + 1 = q
    simp only [trishawlaw03_BranchTutte.l1, hw]
    rw [if_pos (by omega), if_pos (by omega)]
    generalize rd_T30 l (i : Int) = x at hok
    obtain ⟨h1, h2, h3, h4, _⟩ := (wayOk_iff n x).1 hok
    unfold stepT
    by_cases t1 : x.f1 > 0
    · have e1 := wrap_pred x.f1 (by omega) (by omega)
      have r1 := sq_row hs (wrap64 (x.f1 - 1)) (by omega) (by omega)
      have hA := stepA_sq hs (x := x) (by omega) (by omega) hm
      have hXl := hs.1
      rw [if_pos t1, if_pos t1, if_pos (by omega), if_pos (by omega), if_pos (by omega), Option.bind_some]
      by_cases t0 : x.f0 > 0
      · have e0 := wrap_pred x.f0 (by omega) (by omega)
        have r0 := sq_row hA (wrap64 (x.f0 - 1)) (by omega) (by omega)
        unfold stepA at r0
        rw [if_pos t0, if_pos t0, if_pos (by omega), if_pos (by omega), if_pos (by rw [r0]; omega)]
        rfl
      · rw [if_neg t0, if_neg t0]
        rfl
    · rw [if_neg t1, if_neg t1]
theorem count_l1 (hn : n = (m : Int) + 1) (hm : m ≤ 6) (hl : l.length ≤ 30) (hx : ∀ x ∈ l, wayOk n x = true) : ∀ d i k X, i + d = l.length → Sq m X →
    branch_Count.l1 (k + d + 1) X l (l.length : Int) (i : Int) = (branch_determinant.f k ((l.drop i).foldl stepT X)).bind fun t126 => some (t126, 0)
  | 0, i, k, X, h, _ => by
    simp only [branch_Count.l1]
    rw [if_neg (by omega), List.drop_eq_nil_of_le (by omega)]
    rfl
  | d + 1, i, k, X, h, hs => by
    have hi : i < l.length := by omega
    have hw := wrap_nat i (by omega)
    have hok : wayOk n (rd_T30 l (i : Int)) = true := hx _ (by
      simp [rd_T30, List.getD, List.getElem?_eq_getElem hi])
    have ih := count_l1 hn hm hl hx d (i + 1) k (stepT X (rd_T30 l (i : Int))) (by omega) (stepT_sq hs hn hm hok)
    rw [drop_rd30 l i hi, List.foldl_cons, ← ih, show k + (d + 1) + 1 = (k + d + 1) + 1 from by omega]
    clear ih
    generalize k + d + 1 = q
    simp only [branch_Count.l1, hw]
    rw [if_pos (by omega), if_pos (by omega), if_pos (by omega)]
    generalize rd_T30 l (i : Int) = x at hok
    obtain ⟨h1, h2, h3, h4, _⟩ := (wayOk_iff n x).1 hok
    unfold stepT
    by_cases t1 : x.f1 > 0
    · have e1 := wrap_pred x.f1 (by omega) (by omega)
      have r1 := sq_row hs (wrap64 (x.f1 - 1)) (by omega) (by omega)
      have hA := stepA_sq hs (x := x) (by omega) (by omega) hm
      have hXl := hs.1
      rw [if_pos t1, if_pos t1, if_pos (by omega), if_pos (by omega), if_pos (by omega), Option.bind_some]
      by_cases t0 : x.f0 > 0
      · have e0 := wrap_pred x.f0 (by omega) (by omega)
        have r0 := sq_row hA (wrap64 (x.f0 - 1)) (by omega) (by omega)
        unfold stepA at r0
        rw [if_pos t0, if_pos t0, if_pos (by omega), if_pos (by omega), if_pos (by rw [r0]; omega)]
        rfl
      · rw [if_neg t0, if_neg t0]
        rfl
    · rw [if_neg t1, if_neg t1]
/-- The empty table. -/
def zeros (m : Nat) : List Int := List.replicate m 0
theorem wrap_n (hn : n = (m : Int) + 1) (hm : m ≤ 6) : wrap64 (n - 1) = (m : Int) := by unfold wrap64; omega
theorem law_l0 (hn : n = (m : Int) + 1) (hm : m ≤ 6) : ∀ d j k, j + d = m → trishawlaw03_BranchTutte.l0 (k + d + 1) n l (List.replicate j (zeros m)) ((List.range j).map fun q : Nat => (q : Int)) ((j + 1 : Nat) : Int) =
    trishawlaw03_BranchTutte.l1 k n l (List.replicate m (zeros m)) ((List.range m).map fun q : Nat => (q : Int)) 0
  | 0, j, k, h => by
    obtain rfl : j = m := by omega
    simp only [trishawlaw03_BranchTutte.l0]
    rw [if_neg (by omega)]
  | d + 1, j, k, h => by
    have ih := law_l0 hn hm d (j + 1) k (by omega)
    have hw : wrap64 (((j + 1 : Nat) : Int) + 1) = ((j + 1 + 1 : Nat) : Int) := wrap_nat (j + 1) (by omega)
    have hw2 : wrap64 (((j + 1 : Nat) : Int) - 1) = (j : Int) := by unfold wrap64; omega
    rw [← ih, show k + (d + 1) + 1 = (k + d + 1) + 1 from by omega]
    clear ih
    generalize k + d + 1 = q
    simp only [trishawlaw03_BranchTutte.l0, wrap_n hn hm, hw, hw2, Int.toNat_natCast]
    rw [if_pos (by omega), if_pos (by omega), if_pos (by omega), if_pos (by simp; omega), if_pos (by simp; omega)]
    rw [List.replicate_succ' (n := j), List.range_succ, List.map_append]
    rfl
theorem count_l0 (hn : n = (m : Int) + 1) (hm : m ≤ 6) : ∀ d j k, j + d = m → branch_Count.l0 (k + d + 1) n (List.replicate j (zeros m) ++ List.replicate (m - j) []) (m : Int) (j : Int) n l =
    branch_Count.l1 k (List.replicate m (zeros m)) l (l.length : Int) 0
  | 0, j, k, h => by
    obtain rfl : j = m := by omega
    simp only [branch_Count.l0]
    rw [if_neg (by omega), Nat.sub_self]
    simp
  | d + 1, j, k, h => by
    have ih := count_l0 hn hm d (j + 1) k (by omega)
    have hw := wrap_nat j (by omega)
    rw [← ih, show k + (d + 1) + 1 = (k + d + 1) + 1 from by omega]
    clear ih
    generalize k + d + 1 = q
    simp only [branch_Count.l0, wrap_n hn hm, hw, Int.toNat_natCast]
    rw [if_pos (by omega), if_pos (by omega), if_pos (by omega), if_pos (by omega), if_pos (by simp; omega)]
    congr 1
    rw [List.set_append_right _ _ (by simp), List.length_replicate, Nat.sub_self, show m - j = (m - (j + 1)) + 1 from by omega, List.replicate_succ, List.set_cons_zero, List.replicate_succ' (n := j), List.append_assoc]
    rfl
theorem rows_self {M : List (List Int)} (h : Sq m M) : sub1 M ((List.range m).map fun q : Nat => (q : Int)) = M := by
  unfold sub1
  refine (List.map_congr_left fun r hr => ?_).trans (List.map_id _)
  have hl := h.2 r hr
  apply List.ext_getElem?
  intro j
  rw [List.map_map, List.getElem?_map]
  by_cases hj : j < m
  · rw [List.getElem?_range hj]
    simp [rd, List.getD, List.getElem?_eq_getElem (show j < r.length by omega)]
  · rw [List.getElem?_eq_none (by simp; omega), List.getElem?_eq_none (by simp; omega)]
    rfl
end
end Go.Proofs.Ytpmadffgdfholaa.B
