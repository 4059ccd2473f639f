/- Reach and Entering: the code's answer and the reference's, for every list of streets. -/
import Derived.Test.YtpmadffgdfholaaDBP4
import Derived.Test.YtpmadffgdfholaaDBE1
namespace Go.Proofs.Ytpmadffgdfholaa.B
open Go.RowKit Go.Proofs.YtpmadffgdfholaaW.PrintWords Go.Proofs.YtpmadffgdfholaaW.PrintLast Go.Proofs.YtpmadffgdfholaaW.PrintMore

def idx (l : List S30) : List Int := (List.range l.length).map fun q : Nat => (q : Int)
theorem idx_length (l : List S30) : (idx l).length = l.length := by simp [idx]
theorem all_code (l : List S30) (hl : l.length < 1000) : ∀ (d i k : Nat), i + d = l.length → branch_town_all.l0 (k + d + 1) ((List.range i).map fun q : Nat => (q : Int)) (l.length : Int) (i : Int) = some (idx l)
  | 0, i, k, h => by
    obtain rfl : i = l.length := by omega
    simp only [branch_town_all.l0]
    rw [if_neg (by omega)]
    rfl
  | d + 1, i, k, h => by
    have ih := all_code l hl d (i + 1) k (by omega)
    have hw := wrap_nat i (by omega)
    rw [← ih, show k + (d + 1) + 1 = (k + d + 1) + 1 from by omega]
    clear ih
    generalize k + d + 1 = qq
    simp only [branch_town_all.l0, hw]
    rw [if_pos (by omega), if_pos (by simp; omega), List.range_succ, List.map_append]
    rfl
theorem all_ref (l : List S30) (hl : l.length < 1000) : ∀ (d i k : Nat), i + d = l.length → trishawref03_all.l0 (k + d + 1) l ((List.range i).map fun q : Nat => (q : Int)) (i : Int) = some (idx l)
  | 0, i, k, h => by
    obtain rfl : i = l.length := by omega
    simp only [trishawref03_all.l0]
    rw [if_neg (by omega)]
    rfl
  | d + 1, i, k, h => by
    have ih := all_ref l hl d (i + 1) k (by omega)
    have hw := wrap_nat i (by omega)
    rw [← ih, show k + (d + 1) + 1 = (k + d + 1) + 1 from by omega]
    clear ih
    generalize k + d + 1 = qq
    simp only [trishawref03_all.l0, hw]
    rw [if_pos (by omega), if_pos (by simp; omega), List.range_succ, List.map_append]
    rfl
theorem rd_T30_mem (l : List S30) (i : Nat) (h : i < l.length) : rd_T30 l (i : Int) ∈ l := by
  simp [rd_T30, List.getD, List.getElem?_eq_getElem h]
theorem idx_in {n : Nat} {l : List S30} (hx : ∀ x ∈ l, wayOk n x = true) : InL n l (idx l) := by
  intro i hi
  obtain ⟨q, hq, rfl⟩ := List.mem_map.1 hi
  have := List.mem_range.1 hq
  exact ⟨by omega, by omega, hx _ (rd_T30_mem l q this)⟩
theorem reach_eq (n : Int) (l : List S30) : ∃ r t : Int, ∃ K, ∀ k, K ≤ k → branch_Reach.f k n l = some (r, t) ∧ trishawref03_Reach.f k n l = some (r, t) := by
  by_cases hr : readB n l = 0
  · obtain ⟨h2, h7, h30, hx⟩ := readB_ok hr
    obtain ⟨m, rfl⟩ := Int.eq_ofNat_of_zero_le (show 0 ≤ n by omega)
    obtain ⟨r, _, K, hK⟩ := reach_both (n := m) (l := l) (L := idx l) (by omega) (by omega) (idx_in hx) (by rw [idx_length]; omega)
    refine ⟨r, 0, K + l.length + 100, fun k hk => ?_⟩
    obtain ⟨a, b⟩ := hK k (by omega)
    have c1 := all_code l (by omega) l.length 0 (k - l.length - 1) (by omega)
    have c2 := all_ref l (by omega) l.length 0 (k - l.length - 1) (by omega)
    rw [show k - l.length - 1 + l.length + 1 = k from by omega] at c1 c2
    replace c1 : branch_town_all.l0 k [] (l.length : Int) 0 = some (idx l) := c1
    replace c2 : trishawref03_all.l0 k l [] 0 = some (idx l) := c2
    unfold branch_Reach.f trishawref03_Reach.f branch_read.f branch_town_all.f trishawref03_all.f
    rw [town_eq _ _ k (.inr (by omega)), hr]
    simp only [Option.bind_some, if_true]
    rw [c1, c2, Option.bind_some, Option.bind_some, a, b]
    exact ⟨rfl, rfl⟩
  · refine ⟨0, readB n l, 100, fun k hk => ?_⟩
    unfold branch_Reach.f trishawref03_Reach.f branch_read.f
    rw [town_eq _ _ k (.inr (by omega)), Option.bind_some, Option.bind_some]
    exact ⟨by rw [if_neg hr], by rw [if_neg hr]⟩

/-! ### sets -/
theorem fin_par : ∀ s : Fin 128, (Go.bits .and .i64 ((s.val : Nat) : Int) 1 == 0) = (Int.tmod ((s.val : Nat) : Int) 2 == 0) := by decide +kernel
theorem fin_and0 : ∀ s : Fin 128, ∀ a : Fin 7, (Go.bits .and .i64 (shr .i64 ((s.val : Nat) : Int) ((a.val : Nat) : Int)) 1 = 0) ↔ s.val.testBit a.val = false := by decide +kernel
theorem fin_shl : ∀ n : Fin 8, shl .i64 1 ((n.val : Nat) : Int) = ((2 ^ n.val : Nat) : Int) := by decide +kernel
theorem isSet_eq {m : Nat} (hm : m ≤ 7) (l : List S30) (s : Int) : branch_town_isSet.f (m : Int) l s = trishawref03_IsSet.f (m : Int) s ∧ ∃ b, trishawref03_IsSet.f (m : Int) s = some b ∧ (b = true → 0 < s ∧ s < 128) := by
  have e1 := fin_shl ⟨m, by omega⟩
  simp only [] at e1
  have hp : 2 ^ m ≤ 2 ^ 7 := Nat.pow_le_pow_right (by decide) hm
  have hp1 : 1 ≤ 2 ^ m := Nat.one_le_two_pow
  unfold branch_town_isSet.f trishawref03_IsSet.f branch_town_everybody.f
  rw [e1]
  generalize 2 ^ m = p at hp hp1
  have e2 : wrap64 (((p : Nat) : Int) - 1) = (p : Int) - 1 := by unfold wrap64; omega
  rw [e2]
  by_cases h0 : s > 0
  · rw [if_pos h0, if_pos h0, if_pos (by omega), if_pos (by omega), Option.bind_some]
    by_cases h1 : s < (p : Int)
    · rw [if_pos (by omega), if_pos h1]
      have := fin_par ⟨s.toNat, by omega⟩
      simp only [← int_nat (show 0 ≤ s by omega)] at this
      exact ⟨by rw [this], _, rfl, fun _ => ⟨by omega, by omega⟩⟩
    · rw [if_neg (by omega), if_neg h1]
      exact ⟨rfl, false, rfl, fun h => absurd h (by decide)⟩
  · rw [if_neg h0, if_neg h0]
    exact ⟨rfl, false, rfl, fun h => absurd h (by decide)⟩

/-- The streets that enter, from street i on. -/
def entR (l : List S30) (s : Nat) : Nat → Nat → List Int → List Int
  | 0, _, acc => acc
  | d + 1, i, acc => entR l s d (i + 1) (if s.testBit (rd_T30 l (i : Int)).f0.toNat = false ∧ s.testBit (rd_T30 l (i : Int)).f1.toNat = true then acc ++ [(i : Int)] else acc)
section
variable {n : Int} {l : List S30} {s : Nat}
theorem ent_code (hn : n ≤ 7) (hl : l.length < 1000) (hx : ∀ x ∈ l, wayOk n x = true) (hs : s < 128) : ∀ (d i k : Nat) (acc : List Int), i + d = l.length → acc.length ≤ i →
    branch_town_entering.l0 (k + d + 1) (s : Int) acc l (l.length : Int) (i : Int) = some (entR l s d i acc)
  | 0, i, k, acc, h, _ => by
    simp only [branch_town_entering.l0]
    rw [if_neg (by omega)]
    rfl
  | d + 1, i, k, acc, h, ha => by
    have hi : i < l.length := by omega
    have hw := wrap_nat i (by omega)
    have hok := hx _ (rd_T30_mem l i hi)
    have ih := fun acc ha => ent_code hn hl hx hs d (i + 1) k acc (by omega) ha
    rw [show k + (d + 1) + 1 = (k + d + 1) + 1 from by omega]
    generalize k + d + 1 = qq at ih
    simp only [branch_town_entering.l0, hw, entR]
    rw [if_pos (by omega), if_pos (by omega), if_pos (by omega)]
    generalize rd_T30 l (i : Int) = x at hok
    obtain ⟨h1, h2, h3, h4, _⟩ := (wayOk_iff n x).1 hok
    have f1 := fin_and0 ⟨s, hs⟩ ⟨x.f0.toNat, by omega⟩
    have f2 := fin_and ⟨s, hs⟩ ⟨x.f1.toNat, by omega⟩
    simp only [← int_nat h1, ← int_nat h3] at f1 f2
    rw [if_pos h1]
    by_cases t0 : s.testBit x.f0.toNat = false
    · rw [if_pos (f1.2 t0), if_pos h3]
      by_cases t1 : s.testBit x.f1.toNat = true
      · rw [if_pos (f2.2 t1), if_pos (by omega), if_pos ⟨t0, t1⟩]
        exact ih _ (by simp; omega)
      · rw [if_neg (fun hh => t1 (f2.1 hh)), if_neg (fun hh => t1 hh.2)]
        exact ih _ (by omega)
    · rw [if_neg (fun hh => t0 (f1.1 hh)), if_neg (fun hh => t0 hh.1)]
      exact ih _ (by omega)
theorem ent_ref (hn : n ≤ 7) (hl : l.length < 1000) (hx : ∀ x ∈ l, wayOk n x = true) (hs : s < 128) : ∀ (d i k : Nat) (acc : List Int), i + d = l.length → acc.length ≤ i →
    trishawref03_entering.l0 (k + d + 1) l (s : Int) acc (i : Int) = some (entR l s d i acc)
  | 0, i, k, acc, h, _ => by
    simp only [trishawref03_entering.l0]
    rw [if_neg (by omega)]
    rfl
  | d + 1, i, k, acc, h, ha => by
    have hi : i < l.length := by omega
    have hw := wrap_nat i (by omega)
    have hok := hx _ (rd_T30_mem l i hi)
    have ih := fun acc ha => ent_ref hn hl hx hs d (i + 1) k acc (by omega) ha
    rw [show k + (d + 1) + 1 = (k + d + 1) + 1 from by omega]
    generalize k + d + 1 = qq at ih
    simp only [trishawref03_entering.l0, hw, entR, trishawref03_Enters.f]
    rw [if_pos (by omega), if_pos (by omega)]
    generalize rd_T30 l (i : Int) = x at hok
    obtain ⟨h1, h2, h3, h4, _⟩ := (wayOk_iff n x).1 hok
    have f1 := fin_mod ⟨s, hs⟩ ⟨x.f0.toNat, by omega⟩
    have f2 := fin_mod ⟨s, hs⟩ ⟨x.f1.toNat, by omega⟩
    simp only [← int_nat h1, ← int_nat h3] at f1 f2
    rw [if_pos h1, f1, f2]
    cases t0 : s.testBit x.f0.toNat with
    | false =>
      rw [if_pos (by decide), if_pos h3, Option.bind_some]
      cases t1 : s.testBit x.f1.toNat with
      | true =>
        rw [if_pos (by decide), if_pos (by omega), if_pos ⟨rfl, rfl⟩]
        exact ih _ (by simp; omega)
      | false =>
        rw [if_neg (by decide), if_neg (by simp)]
        exact ih _ (by omega)
    | true =>
      rw [if_neg (by decide), Option.bind_some, if_neg (by decide), if_neg (by simp)]
      exact ih _ (by omega)
end
theorem entR_length (l : List S30) (s : Nat) : ∀ (d i : Nat) (acc : List Int), (entR l s d i acc).length ≤ acc.length + d
  | 0, _, _ => by simp [entR]
  | d + 1, i, acc => by
    rw [entR]
    refine Nat.le_trans (entR_length l s d (i + 1) _) ?_
    split <;> simp <;> omega
theorem entering_eq (n : Int) (l : List S30) (s : Int) : ∃ E : List Int, E.length ≤ 1000 ∧ ∃ t : Int, ∃ K, ∀ k, K ≤ k → branch_Entering.f k n l s = some (E, t) ∧ trishawref03_Entering.f k n l s = some (E, t) := by
  by_cases hr : readB n l = 0
  · obtain ⟨h2, h7, h30, hx⟩ := readB_ok hr
    obtain ⟨m, rfl⟩ := Int.eq_ofNat_of_zero_le (show 0 ≤ n by omega)
    obtain ⟨e1, b, e2, hb⟩ := isSet_eq (m := m) (by omega) l s
    cases b with
    | false =>
      refine ⟨[], by simp, 2, 100, fun k hk => ?_⟩
      unfold branch_Entering.f trishawref03_Entering.f branch_read.f
      rw [town_eq _ _ k (.inr (by omega)), hr, e1, e2]
      exact ⟨rfl, rfl⟩
    | true =>
      obtain ⟨s0, s1⟩ := hb rfl
      obtain ⟨q, rfl⟩ := Int.eq_ofNat_of_zero_le (show 0 ≤ s by omega)
      refine ⟨entR l q l.length 0 [], Nat.le_trans (entR_length l q _ _ _) (by simp; omega), 0, l.length + 100, fun k hk => ?_⟩
      have c1 := ent_code (l := l) (s := q) h7 (by omega) hx (by omega) l.length 0 (k - l.length - 1) [] (by omega) (by simp)
      have c2 := ent_ref (l := l) (s := q) h7 (by omega) hx (by omega) l.length 0 (k - l.length - 1) [] (by omega) (by simp)
      rw [show k - l.length - 1 + l.length + 1 = k from by omega] at c1 c2
      replace c1 : branch_town_entering.l0 k (q : Int) [] l (l.length : Int) 0 = some (entR l q l.length 0 []) := c1
      replace c2 : trishawref03_entering.l0 k l (q : Int) [] 0 = some (entR l q l.length 0 []) := c2
      unfold branch_Entering.f trishawref03_Entering.f branch_read.f branch_town_entering.f trishawref03_entering.f
      rw [town_eq _ _ k (.inr (by omega)), hr, e1, e2]
      simp only [Option.bind_some, if_true]
      rw [c1, c2]
      exact ⟨rfl, rfl⟩
  · refine ⟨[], by simp, readB n l, 100, fun k hk => ?_⟩
    unfold branch_Entering.f trishawref03_Entering.f branch_read.f
    rw [town_eq _ _ k (.inr (by omega)), Option.bind_some, Option.bind_some]
    exact ⟨by rw [if_neg hr], by rw [if_neg hr]⟩
theorem same_self (E : List Int) (hE : E.length ≤ 1000) : ∀ (d i k : Nat), i + d = E.length → trishawlaw03_same.l0 (k + d + 1) E E (i : Int) = some true
  | 0, i, k, h => by
    simp only [trishawlaw03_same.l0]
    rw [if_neg (by omega)]
  | d + 1, i, k, h => by
    have hw := wrap_nat i (by omega)
    have ih := same_self E hE d (i + 1) k (by omega)
    rw [show k + (d + 1) + 1 = (k + d + 1) + 1 from by omega]
    generalize k + d + 1 = qq at ih
    simp only [trishawlaw03_same.l0, hw]
    rw [if_pos (by omega), if_pos (by omega), if_pos (by omega)]
    simpa using ih
end Go.Proofs.Ytpmadffgdfholaa.B
