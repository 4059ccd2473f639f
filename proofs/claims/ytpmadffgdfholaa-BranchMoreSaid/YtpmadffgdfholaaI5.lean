/- Texts behind the row of BranchMore, part 5: contracts of the functions it reaches, words that their walks use, and lemmas in plain Lean. -/
import Derived.Below
import Derived.Deep.Draws
import Derived.Deep.AppendLies
import Derived.Maps.AppendAt
import Derived.OwnWalk
import Derived.Laws.BytesArg
import Derived.Laws.MakeOwn
import Derived.Laws.OwnMore
import Derived.Deep.OwnRows
import Derived.Tactics
import Derived.Lib.ConvBytes
import Derived.Laws.Slices
import Derived.WalkKit
import Derived.KernelRfl
import Derived.RowKit3
import Derived.Deep.LoopGhost
import Derived.Deep.QuietTactic
import Derived.BigQuiet
import Derived.WideLaws
import Derived.Deep.DeepCutAuto
import Derived.Deep.CutBlock
import Derived.Deep.RegionHeld3
import Derived.Laws.Rows
import Derived.Lib.AppendStr
import Derived.ArgAppend
import Derived.Laws.IdiomCopy
import Derived.RowKit
import Derived.OrdersHeld
import Derived.Laws.BitsLemmas
import Derived.Test.YtpmadffgdfholaaProg
import Derived.Laws.StructEq
import Derived.WalkSpells
import Derived.MapKept
import Derived.Deep.DrawnRows
import Derived.Maps.RangeWalk
import Derived.Laws.EntriesVeiled
import Derived.Deep.Slices
import Derived.Deep.Fields
import Derived.ChangeSame
import Derived.ChangeSlices
import Derived.SizedLaws
import Derived.Test.YtpmadffgdfholaaI1
import Derived.Test.YtpmadffgdfholaaI2
import Derived.Test.YtpmadffgdfholaaI3
import Derived.Test.YtpmadffgdfholaaI4
namespace Go.Proofs.Ytpmadffgdfholaa.B
open Go.RowKit Go.Proofs.YtpmadffgdfholaaW.PrintWords Go.Proofs.YtpmadffgdfholaaW.PrintLast Go.Proofs.YtpmadffgdfholaaW.PrintMore
def Sq (m : Nat) (X : List (List Int)) : Prop := X.length = m ∧ ∀ r ∈ X, r.length = m
theorem sq_row {m : Nat} {X : List (List Int)} (h : Sq m X) (w : Int) (h0 : 0 ≤ w) (h1 : w < (m : Int)) : (rd_L12 X w).length = m := by
  obtain ⟨j, rfl⟩ := Int.eq_ofNat_of_zero_le h0
  have hj : j < X.length := by have := h.1; omega
  rw [rd_L12_at X j hj]
  exact h.2 _ (List.getElem_mem hj)
theorem sq_set {m : Nat} {X : List (List Int)} (h : Sq m X) (j : Nat) (r : List Int) (hr : r.length = m) : Sq m (X.set j r) := by
  refine ⟨by rw [List.length_set]; exact h.1, fun y hy => ?_⟩
  rcases List.mem_or_eq_of_mem_set hy with hy | rfl
  · exact h.2 y hy
  · exact hr
/-- What a street does to the table. -/
def stepA (X : List (List Int)) (x : S30) : List (List Int) :=
  X.set ((wrap64 (x.f1 - 1)) : Int).toNat ((rd_L12 X (wrap64 (x.f1 - 1))).set ((wrap64 (x.f1 - 1)) : Int).toNat (wrap64 ((rd (rd_L12 X (wrap64 (x.f1 - 1))) (wrap64 (x.f1 - 1))) + 1)))
def stepB (Y : List (List Int)) (x : S30) : List (List Int) :=
  Y.set ((wrap64 (x.f0 - 1)) : Int).toNat ((rd_L12 Y (wrap64 (x.f0 - 1))).set ((wrap64 (x.f1 - 1)) : Int).toNat (wrap64 ((rd (rd_L12 Y (wrap64 (x.f0 - 1))) (wrap64 (x.f1 - 1))) - 1)))
def stepT (X : List (List Int)) (x : S30) : List (List Int) := if x.f1 > 0 then (if x.f0 > 0 then stepB (stepA X x) x else stepA X x) else X
theorem wrap_pred (a : Int) (h0 : 0 < a) (h1 : a ≤ 7) : wrap64 (a - 1) = a - 1 := by unfold wrap64; omega
theorem stepA_sq {m : Nat} {X : List (List Int)} {x : S30} (h : Sq m X) (h0 : 0 < x.f1) (h1 : x.f1 ≤ (m : Int)) (hm : m ≤ 6) : Sq m (stepA X x) := by
  have e := wrap_pred x.f1 h0 (by omega)
  refine sq_set h _ _ ?_
  rw [List.length_set]
  exact sq_row h _ (by omega) (by omega)
theorem stepB_sq {m : Nat} {X : List (List Int)} {x : S30} (h : Sq m X) (h0 : 0 < x.f0) (h1 : x.f0 ≤ (m : Int)) (hm : m ≤ 6) : Sq m (stepB X x) := by
  have e := wrap_pred x.f0 h0 (by omega)
  refine sq_set h _ _ ?_
  rw [List.length_set]
  exact sq_row h _ (by omega) (by omega)
theorem stepT_sq {m : Nat} {X : List (List Int)} {x : S30} {n : Int} (h : Sq m X) (hn : n = (m : Int) + 1) (hm : m ≤ 6) (hx : wayOk n x = true) : Sq m (stepT X x) := by
  obtain ⟨h1, h2, h3, h4, _⟩ := (wayOk_iff n x).1 hx
  unfold stepT
  split
  · split
    · exact stepB_sq (stepA_sq h (by omega) (by omega) hm) (by omega) (by omega) hm
    · exact stepA_sq h (by omega) (by omega) hm
  · exact h
theorem fold_sq {m : Nat} {n : Int} (hn : n = (m : Int) + 1) (hm : m ≤ 6) : ∀ (l : List S30) (X : List (List Int)), Sq m X → (∀ x ∈ l, wayOk n x = true) → Sq m (l.foldl stepT X)
  | [], _, h, _ => h
  | x :: l, X, h, hx => fold_sq hn hm l (stepT X x) (stepT_sq h hn hm (hx x List.mem_cons_self)) (fun y hy => hx y (List.mem_cons_of_mem _ hy))
section
variable {n : Int} {l : List S30} {m : Nat}
theorem count_l1 (hn : n = (m : Int) + 1) (hm : m ≤ 6) (hl : l.length ≤ 30) (hx : ∀ x ∈ l, wayOk n x = true) : ∀ d i k X, i + d = l.length → Sq m X →
    branch_Count.l1 (k + d + 1) X l (l.length : Int) (i : Int) = (branch_determinant.f k ((l.drop i).foldl stepT X)).bind fun t126 => some (t126, 0)
  | 0, i, k, X, h, _ => by
    simp only [branch_Count.l1]
    rw [if_neg (by omega), List.drop_eq_nil_of_le (by omega)]
    rfl
  | d + 1, i, k, X, h, hs => by
    have hi : i < l.length := by omega
    have hw := wrap_nat i (by omega)
    have hok : wayOk n (rd_T30 l (i : Int)) = true := hx _ (by
      simp [rd_T30, List.getD, List.getElem?_eq_getElem hi])
    have ih := count_l1 hn hm hl hx d (i + 1) k (stepT X (rd_T30 l (i : Int))) (by omega) (stepT_sq hs hn hm hok)
    rw [drop_rd30 l i hi, List.foldl_cons, ← ih, show k + (d + 1) + 1 = (k + d + 1) + 1 from by omega]
    clear ih
    generalize k + d + 1 = q
    simp only [branch_Count.l1, hw]
    rw [if_pos (by omega), if_pos (by omega), if_pos (by omega)]
    generalize rd_T30 l (i : Int) = x at hok
    obtain ⟨h1, h2, h3, h4, _⟩ := (wayOk_iff n x).1 hok
    unfold stepT
    by_cases t1 : x.f1 > 0
    · have e1 := wrap_pred x.f1 (by omega) (by omega)
      have r1 := sq_row hs (wrap64 (x.f1 - 1)) (by omega) (by omega)
      have hA := stepA_sq hs (x := x) (by omega) (by omega) hm
      have hXl := hs.1
      rw [if_pos t1, if_pos t1, if_pos (by omega), if_pos (by omega), if_pos (by omega), Option.bind_some]
      by_cases t0 : x.f0 > 0
      · have e0 := wrap_pred x.f0 (by omega) (by omega)
        have r0 := sq_row hA (wrap64 (x.f0 - 1)) (by omega) (by omega)
        unfold stepA at r0
        rw [if_pos t0, if_pos t0, if_pos (by omega), if_pos (by omega), if_pos (by rw [r0]; omega)]
        rfl
      · rw [if_neg t0, if_neg t0]
        rfl
    · rw [if_neg t1, if_neg t1]
/-- The empty table. -/
def zeros (m : Nat) : List Int := List.replicate m 0
theorem wrap_n (hn : n = (m : Int) + 1) (hm : m ≤ 6) : wrap64 (n - 1) = (m : Int) := by unfold wrap64; omega
theorem count_l0 (hn : n = (m : Int) + 1) (hm : m ≤ 6) : ∀ d j k, j + d = m → branch_Count.l0 (k + d + 1) n (List.replicate j (zeros m) ++ List.replicate (m - j) []) (m : Int) (j : Int) n l =
    branch_Count.l1 k (List.replicate m (zeros m)) l (l.length : Int) 0
  | 0, j, k, h => by
    obtain rfl : j = m := by omega
    simp only [branch_Count.l0]
    rw [if_neg (by omega), Nat.sub_self]
    simp
  | d + 1, j, k, h => by
    have ih := count_l0 hn hm d (j + 1) k (by omega)
    have hw := wrap_nat j (by omega)
    rw [← ih, show k + (d + 1) + 1 = (k + d + 1) + 1 from by omega]
    clear ih
    generalize k + d + 1 = q
    simp only [branch_Count.l0, wrap_n hn hm, hw, Int.toNat_natCast]
    rw [if_pos (by omega), if_pos (by omega), if_pos (by omega), if_pos (by omega), if_pos (by simp; omega)]
    congr 1
    rw [List.set_append_right _ _ (by simp), List.length_replicate, Nat.sub_self, show m - j = (m - (j + 1)) + 1 from by omega, List.replicate_succ, List.set_cons_zero, List.replicate_succ' (n := j), List.append_assoc]
    rfl
theorem rows_self {M : List (List Int)} (h : Sq m M) : sub1 M ((List.range m).map fun q : Nat => (q : Int)) = M := by
  unfold sub1
  refine (List.map_congr_left fun r hr => ?_).trans (List.map_id _)
  have hl := h.2 r hr
  apply List.ext_getElem?
  intro j
  rw [List.map_map, List.getElem?_map]
  by_cases hj : j < m
  · rw [List.getElem?_range hj]
    simp [rd, List.getD, List.getElem?_eq_getElem (show j < r.length by omega)]
  · rw [List.getElem?_eq_none (by simp; omega), List.getElem?_eq_none (by simp; omega)]
    rfl
end
end Go.Proofs.Ytpmadffgdfholaa.B
namespace Go.Proofs.Ytpmadffgdfholaa.B
set_option linter.unusedVariables false
open Go.RowKit Go.Proofs.YtpmadffgdfholaaW.PrintWords Go.Proofs.YtpmadffgdfholaaW.PrintLast Go.Proofs.YtpmadffgdfholaaW.PrintMore
/-- Street i enters the set q. -/
def entB (l : List S30) (q : Nat) (i : Nat) : Bool := !q.testBit (aW l i) && q.testBit (bW l i)
def entL (l : List S30) (q : Nat) : List Int := ((List.range l.length).filter (entB l q)).map fun i : Nat => (i : Int)
theorem entL_mem (l : List S30) (q i : Nat) : (i : Int) ∈ entL l q ↔ i < l.length ∧ entB l q i = true := by
  unfold entL
  simp only [List.mem_map, List.mem_filter, List.mem_range]
  constructor
  · rintro ⟨j, h, e⟩
    obtain rfl : j = i := by omega
    exact h
  · exact fun h => ⟨i, h, rfl⟩
theorem entL_nat (l : List S30) (q : Nat) : ∀ x ∈ entL l q, ∃ i : Nat, x = (i : Int) ∧ i < l.length := by
  intro x hx
  unfold entL at hx
  obtain ⟨i, hi, rfl⟩ := List.mem_map.1 hx
  exact ⟨i, rfl, by have := (List.mem_filter.1 hi).1; simpa using this⟩
theorem nodup_map_cast : ∀ {L : List Nat}, L.Nodup → (L.map fun i : Nat => (i : Int)).Nodup
  | [], _ => List.nodup_nil
  | x :: L, h => by
    rw [List.nodup_cons] at h
    rw [List.map_cons, List.nodup_cons]
    refine ⟨fun hm => ?_, nodup_map_cast h.2⟩
    obtain ⟨y, hy, e⟩ := List.mem_map.1 hm
    have e2 : y = x := by omega
    exact h.1 (e2 ▸ hy)
theorem entL_nodup (l : List S30) (q : Nat) : (entL l q).Nodup := nodup_map_cast (List.Pairwise.filter _ List.nodup_range)
theorem entL_length (l : List S30) (q : Nat) : (entL l q).length ≤ l.length := by
  unfold entL
  rw [List.length_map]
  exact Nat.le_trans (List.length_filter_le _ _) (by simp)
theorem entR_eq (l : List S30) (q : Nat) : ∀ (d i : Nat) (acc : List Int), i + d = l.length → acc = ((List.range i).filter (entB l q)).map (fun i : Nat => (i : Int)) → entR l q d i acc = entL l q
  | 0, i, acc, h, e => by
    obtain rfl : i = l.length := by omega
    exact e
  | d + 1, i, acc, h, e => by
    rw [entR]
    refine entR_eq l q d (i + 1) _ (by omega) ?_
    rw [List.range_succ, List.filter_append, List.map_append, ← e]
    have hb : (entB l q i = true) ↔ (q.testBit (rd_T30 l (i : Int)).f0.toNat = false ∧ q.testBit (rd_T30 l (i : Int)).f1.toNat = true) := by
      unfold entB aW bW
      rw [Bool.and_eq_true, Bool.not_eq_true']
    by_cases hc : entB l q i = true
    · rw [if_pos (hb.1 hc), List.filter_cons_of_pos hc]
      rfl
    · rw [if_neg (fun h => hc (hb.2 h)), List.filter_cons_of_neg hc]
      simp
theorem entering_f {n : Nat} {l : List S30} (hn : n ≤ 7) (hl : l.length ≤ 30) (hx : ∀ x ∈ l, wayOk n x = true) {q : Nat} (hq : q < 128) (k : Nat) (hk : 40 ≤ k) : branch_town_entering.f k (n : Int) l (q : Int) = some (entL l q) := by
  have c1 := ent_code (n := (n : Int)) (l := l) (s := q) (by omega) (by omega) hx hq l.length 0 (k - l.length - 1) [] (by omega) (by simp)
  rw [show k - l.length - 1 + l.length + 1 = k from by omega, entR_eq l q l.length 0 [] (by omega) (by simp)] at c1
  unfold branch_town_entering.f
  exact c1
def minL (left : List Int) (og : Int → Bool) : List Int → Int → Int
  | [], m => m
  | i :: E, m => minL left og E (if og i = true then m else if m < 0 then rd left i else if rd left i < m then rd left i else m)
theorem minL_spec (left : List Int) (og : Int → Bool) : ∀ (E : List Int) (m : Int), (∀ i ∈ E, og i = false → 0 ≤ rd left i) → -1 ≤ m →
    (minL left og E m = m ∨ ∃ i ∈ E, og i = false ∧ minL left og E m = rd left i) ∧ (0 ≤ m → minL left og E m ≤ m) ∧ (∀ i ∈ E, og i = false → 0 ≤ minL left og E m ∧ minL left og E m ≤ rd left i) ∧ -1 ≤ minL left og E m ∧ (0 ≤ m → 0 ≤ minL left og E m)
  | [], m, _, hm => ⟨.inl rfl, fun _ => Int.le_refl _, fun i hi => absurd hi (by simp), hm, fun h => h⟩
  | j :: E, m, h, hm => by
    have hj := h j List.mem_cons_self
    have hE : ∀ i ∈ E, og i = false → 0 ≤ rd left i := fun i hi => h i (List.mem_cons_of_mem _ hi)
    simp only [minL]
    cases hog : og j with
    | true =>
      obtain ⟨h1, h2, h3, h4, h5⟩ := minL_spec left og E m hE hm
      simp only [if_true]
      refine ⟨h1.imp id fun ⟨i, hi, e⟩ => ⟨i, List.mem_cons_of_mem _ hi, e⟩, h2, fun i hi ho => ?_, h4, h5⟩
      rcases List.mem_cons.1 hi with rfl | hi
      · rw [hog] at ho; exact absurd ho (by decide)
      · exact h3 i hi ho
    | false =>
      have hj0 := hj hog
      simp only [Bool.false_eq_true, if_false]
      generalize hm2 : (if m < 0 then rd left j else if rd left j < m then rd left j else m) = m2
      have e2 : (m2 = rd left j ∨ m2 = m) ∧ 0 ≤ m2 ∧ m2 ≤ rd left j ∧ (0 ≤ m → m2 ≤ m) := by
        rw [← hm2]
        split
        · exact ⟨.inl rfl, hj0, Int.le_refl _, fun h => by omega⟩
        · split
          · exact ⟨.inl rfl, hj0, Int.le_refl _, fun h => by omega⟩
          · exact ⟨.inr rfl, by omega, by omega, fun h => by omega⟩
      obtain ⟨h1, h2, h3, h4, h5⟩ := minL_spec left og E m2 hE (by omega)
      refine ⟨?_, fun h => by have := h2 e2.2.1; have := e2.2.2.2 h; omega, fun i hi ho => ?_, h4, fun _ => h5 e2.2.1⟩
      · rcases h1 with h1 | ⟨i, hi, e⟩
        · rcases e2.1 with e | e
          · exact .inr ⟨j, List.mem_cons_self, hog, h1.trans e⟩
          · exact .inl (h1.trans e)
        · exact .inr ⟨i, List.mem_cons_of_mem _ hi, e⟩
      · rcases List.mem_cons.1 hi with rfl | hi
        · exact ⟨h5 e2.2.1, by have := h2 e2.2.1; omega⟩
        · exact h3 i hi ho
def subL (m : Int) : List Int → List Int → List Int
  | left, [] => left
  | left, i :: E => subL m (left.set i.toNat (wrap64 (rd left i - m))) E
theorem subL_length (m : Int) : ∀ (E left : List Int), (subL m left E).length = left.length
  | [], _ => rfl
  | i :: E, left => by rw [subL, subL_length m E, List.length_set]
theorem rd_set (L : List Int) (i j : Nat) (x : Int) (h : i < L.length) : rd (L.set i x) (j : Int) = if j = i then x else rd L (j : Int) := by
  simp only [rd, Int.toNat_natCast, List.getD, List.getElem?_set]
  by_cases e : i = j
  · subst e; simp [h]
  · rw [if_neg e, if_neg (fun h => e h.symm)]
theorem subL_rd (m : Int) : ∀ (E left : List Int), (∀ x ∈ E, ∃ i : Nat, x = (i : Int) ∧ i < left.length) → E.Nodup → (∀ x ∈ E, wrap64 (rd left x - m) = rd left x - m) → ∀ j : Nat, rd (subL m left E) (j : Int) = if (j : Int) ∈ E then rd left (j : Int) - m else rd left (j : Int)
  | [], _, _, _, _, j => by simp [subL]
  | x :: E, left, hE, hd, hw, j => by
    obtain ⟨i, rfl, hi⟩ := hE x List.mem_cons_self
    rw [List.nodup_cons] at hd
    rw [subL, Int.toNat_natCast]
    have hr : ∀ j : Nat, rd (left.set i (wrap64 (rd left (i : Int) - m))) (j : Int) = if j = i then wrap64 (rd left (i : Int) - m) else rd left (j : Int) := fun j => rd_set left i j _ hi
    rw [subL_rd m E _ (fun y hy => by obtain ⟨t, e, ht⟩ := hE y (List.mem_cons_of_mem _ hy); exact ⟨t, e, by rw [List.length_set]; exact ht⟩) hd.2 (fun y hy => by
      obtain ⟨t, rfl, ht⟩ := hE y (List.mem_cons_of_mem _ hy)
      have hne : t ≠ i := fun e => hd.1 (e ▸ hy)
      rw [hr, if_neg hne]
      exact hw _ (List.mem_cons_of_mem _ hy)) j, hr]
    by_cases e : j = i
    · subst e
      rw [if_neg hd.1, if_pos rfl, if_pos List.mem_cons_self]
      exact hw _ List.mem_cons_self
    · rw [if_neg e]
      have : ((j : Int) ∈ (i : Int) :: E) ↔ (j : Int) ∈ E := by
        rw [List.mem_cons]
        exact ⟨fun h => h.resolve_left (by omega), .inr⟩
      by_cases hm : (j : Int) ∈ E
      · rw [if_pos hm, if_pos (this.2 hm)]
      · rw [if_neg hm, if_neg (fun h => hm (this.1 h))]
section
variable {n : Nat} {l : List S30}
def chEnd (n : Int) (l : List S30) (k : Nat) (o : Int → Option Bool) (left : List Int) (cost : Int) (proof : List S41) (t m : Int) : Option (Int × List S41 × Bool) :=
  if m < 0 then some (0, [], false) else (branch_town_entering.f k n l t).bind fun e => branch_town_cheapest.l2 k o left cost proof t m e (e.length : Int) 0 n l
theorem ch_l1 (o : Int → Option Bool) (og : Int → Bool) (left : List Int) (cost : Int) (proof : List S41) (t : Int) (E : List Int) (ho : ∀ x ∈ E, o x = some (og x)) (hE : ∀ x ∈ E, ∃ i : Nat, x = (i : Int) ∧ i < left.length) (hlen : E.length < 1000) :
    ∀ (d q k : Nat) (m : Int), q + d = E.length →
    branch_town_cheapest.l1 (k + d + 1) o left cost proof t m E (E.length : Int) (q : Int) (n : Int) l =
      chEnd (n : Int) l k o left cost proof t (minL left og (E.drop q) m)
  | 0, q, k, m, h => by
    simp only [branch_town_cheapest.l1]
    rw [if_neg (by omega), List.drop_eq_nil_of_le (by omega)]
    rfl
  | d + 1, q, k, m, h => by
    have hq : q < E.length := by omega
    have hw := wrap_nat q (by omega)
    have hm := rd_mem4 E q hq
    have hox := ho _ hm
    obtain ⟨i, hi, hil⟩ := hE _ hm
    have ih := fun m => ch_l1 o og left cost proof t E ho hE hlen d (q + 1) k m (by omega)
    rw [show k + (d + 1) + 1 = (k + d + 1) + 1 from by omega]
    rw [drop_rdI4 E q hq]
    simp only [minL]
    generalize k + d + 1 = qq at ih
    simp only [branch_town_cheapest.l1, hw]
    rw [if_pos (by omega), if_pos (by omega), if_pos (by omega), hox, Option.bind_some]
    generalize rd E (q : Int) = x at hi
    subst hi
    by_cases hog : og (i : Int) = true
    · rw [if_pos hog, if_pos hog]
      exact ih m
    · rw [if_neg hog, if_neg hog]
      by_cases h1 : m < 0
      · rw [if_pos h1, if_pos h1, if_pos (by omega), if_pos (by omega)]
        exact ih _
      · rw [if_neg h1, if_neg h1, if_pos (by omega), if_pos (by omega)]
        by_cases h2 : rd left (i : Int) < m
        · rw [if_pos h2, if_pos h2]; exact ih _
        · rw [if_neg h2, if_neg h2]; exact ih _
theorem ch_l2 (o : Int → Option Bool) (cost : Int) (proof : List S41) (t m : Int) (E : List Int) (hlen : E.length < 1000) :
    ∀ (d q k : Nat) (left : List Int), (∀ x ∈ E, ∃ i : Nat, x = (i : Int) ∧ i < left.length) → q + d = E.length →
    branch_town_cheapest.l2 (k + d + 1) o left cost proof t m E (E.length : Int) (q : Int) (n : Int) l =
      if m > 0 then (if proof.length < 8796093022208 then branch_town_cheapest.l0 k o (subL m left (E.drop q)) (wrap64 (cost + m)) (proof ++ [(⟨t, m⟩ : S41)]) (n : Int) l else none) else branch_town_cheapest.l0 k o (subL m left (E.drop q)) cost proof (n : Int) l
  | 0, q, k, left, _, h => by
    simp only [branch_town_cheapest.l2]
    rw [if_neg (by omega), List.drop_eq_nil_of_le (by omega)]
    rfl
  | d + 1, q, k, left, hE, h => by
    have hq : q < E.length := by omega
    have hw := wrap_nat q (by omega)
    have hm := rd_mem4 E q hq
    obtain ⟨i, hi, hil⟩ := hE _ hm
    have ih := ch_l2 o cost proof t m E hlen d (q + 1) k (left.set (rd E (q : Int)).toNat (wrap64 (rd left (rd E (q : Int)) - m))) (fun y hy => by obtain ⟨z, e, hz⟩ := hE y hy; exact ⟨z, e, by rw [List.length_set]; exact hz⟩) (by omega)
    rw [show k + (d + 1) + 1 = (k + d + 1) + 1 from by omega]
    rw [drop_rdI4 E q hq]
    simp only [subL]
    rw [← ih]
    clear ih
    generalize k + d + 1 = qq
    simp only [branch_town_cheapest.l2, hw]
    rw [if_pos (by omega), if_pos (by omega), if_pos (by omega), if_pos (by omega), if_pos (by omega)]
end
/-- The worth of the sets that street i enters. -/
def worthAt (l : List S30) (i : Nat) : List S41 → Int
  | [] => 0
  | p :: P => worthAt l i P + if entB l p.f0.toNat i = true then p.f1 else 0
def worthAll : List S41 → Int
  | [] => 0
  | p :: P => worthAll P + p.f1
theorem worthAt_app (l : List S30) (i : Nat) (p : S41) : ∀ P, worthAt l i (P ++ [p]) = worthAt l i P + if entB l p.f0.toNat i = true then p.f1 else 0
  | [] => by simp [worthAt]
  | x :: P => by
    simp only [List.cons_append, worthAt]
    rw [worthAt_app l i p P]
    omega
theorem worthAll_app (p : S41) : ∀ P, worthAll (P ++ [p]) = worthAll P + p.f1
  | [] => by simp [worthAll]
  | x :: P => by
    simp only [List.cons_append, worthAll]
    rw [worthAll_app p P]
    omega
/-- A set of corners, as_ a price names it. -/
def IsSetN (n : Nat) (s : Int) : Prop := 0 < s ∧ s < 2 ^ n ∧ s.toNat.testBit 0 = false
structure ProofOk (n : Nat) (l : List S30) (T : Nat → Prop) (price : List Int) (P : List S41) (v : Int) : Prop where
  sets : ∀ p ∈ P, IsSetN n p.f0 ∧ 1 ≤ p.f1 ∧ p.f1 ≤ 1000
  apart : (P.map fun p => p.f0).Nodup
  worth : worthAll P = v
  below : ∀ i, T i → worthAt l i P ≤ rd price (i : Int)
/-- What stands at each round. -/
structure ChInv (n : Nat) (l : List S30) (og : Int → Bool) (price left : List Int) (cost : Int) (P : List S41) : Prop where
  len : left.length = l.length
  low : ∀ i : Nat, i < l.length → -(1000 * (P.length : Int)) ≤ rd left (i : Int) ∧ rd left (i : Int) ≤ 1000
  pos : ∀ i, onT l og i → 0 ≤ rd left (i : Int)
  opt : ∀ v, Opt n (aW l) (bW l) (onT l og) (fun i => rd left (i : Int)) v → Opt n (aW l) (bW l) (onT l og) (fun i => rd price (i : Int)) (v + cost)
  sets : ∀ p ∈ P, IsSetN n p.f0 ∧ 1 ≤ p.f1 ∧ p.f1 ≤ 1000 ∧ ∃ i, onT l og i ∧ rd left (i : Int) = 0 ∧ entB l p.f0.toNat i = true
  apart : (P.map fun p => p.f0).Nodup
  worth : worthAll P = cost
  bal : ∀ i : Nat, i < l.length → worthAt l i P + rd left (i : Int) = rd price (i : Int)
  many : cost ≤ 1000 * (P.length : Int) ∧ 0 ≤ cost
def zerosB (l : List S30) (og : Int → Bool) (left : List Int) (i : Nat) : Bool := !og (i : Int) && decide (rd left (i : Int) = 0)
section
variable {n : Nat} {l : List S30}
theorem ch_loop (hn1 : 1 ≤ n) (hn : n ≤ 7) (hl : l.length ≤ 30) (hx : ∀ x ∈ l, wayOk n x = true) (o : Int → Option Bool) (og : Int → Bool) (ho : ∀ i : Nat, i < l.length → o (i : Int) = some (og (i : Int))) (price : List Int) (hpl : price.length = l.length) :
    ∀ (c : Nat) (left : List Int) (cost : Int) (P : List S41), ChInv n l og price left cost P → l.length ≤ cntN (zerosB l og left) l.length + c → P.length + c ≤ 31 →
    ∃ r : Int × List S41 × Bool, (∀ k, 400 + 70 * c ≤ k → branch_town_cheapest.l0 k o left cost P (n : Int) l = some r) ∧
      ((r.2.2 = true ∧ Opt n (aW l) (bW l) (onT l og) (fun i => rd price (i : Int)) r.1 ∧ ProofOk n l (onT l og) price r.2.1 r.1 ∧ r.2.1.length ≤ 31) ∨ (r = (0, [], false) ∧ ∀ f, ¬ IsB n (aW l) (bW l) (onT l og) f)) := by
  intro c
  induction c with
  | zero => ?_
  | succ c ih => ?_
  all_goals
    intro left cost P hI hc hc2
    obtain ⟨q, hq, hal, hz, hS⟩ := alone_spec hn1 hn hl hx left hI.len o og ho
    have hp7 : 2 ^ n ≤ 2 ^ 7 := Nat.pow_le_pow_right (by decide) hn
    have hq7 : q < 128 := Nat.lt_of_lt_of_le hq hp7
    by_cases hq0 : q = 0
    · refine ⟨(cost, P, true), fun k hk => ?_, .inl ⟨rfl, ?_, ⟨fun p hp => ⟨(hI.sets p hp).1, (hI.sets p hp).2.1, (hI.sets p hp).2.2.1⟩, hI.apart, hI.worth, fun i hi => ?_⟩, by show P.length ≤ 31; omega⟩⟩
      · obtain ⟨k, rfl⟩ : ∃ k', k = k' + 1 := ⟨k - 1, by omega⟩
        simp only [branch_town_cheapest.l0]
        rw [hal k (by omega), Option.bind_some, hq0, if_pos (by rfl)]
      · have := hI.opt 0 (Opt.nothing (fun i h => onT_lt hx i h) hI.pos (hz hq0))
        rwa [Int.zero_add] at this
      · have h1 := hI.bal i hi.1
        have h2 := hI.pos i hi
        show worthAt l i P ≤ _
        omega
    have hA := hS hq0
    have hzs : ∀ i, onT l og i → rd left (i : Int) = 0 → entB l q i = false := by
      intro i ht h0
      have := hA.out i ht h0
      unfold entB
      cases hb : q.testBit (bW l i) with
      | false => simp
      | true => rw [this hb]; rfl
    have hE := fun k (hk : 40 ≤ k) => entering_f (n := n) hn hl hx hq7 k hk
    have hEm := entL_mem l q
    have hEn := entL_nat l q
    have hEl := entL_length l q
    have hEpos : ∀ x ∈ entL l q, og x = false → 0 ≤ rd left x := by
      intro x hxE hox
      obtain ⟨i, rfl, hi⟩ := hEn x hxE
      exact hI.pos i ⟨hi, hox⟩
    obtain ⟨m1, m2, m3, m4, m5⟩ := minL_spec left og (entL l q) (-1) hEpos (by omega)
    have M1 := Aside0.mk m1
    clear m1
    have hl0 : ∀ k, 400 ≤ k → branch_town_cheapest.l0 k o left cost P (n : Int) l = if minL left og (entL l q) (-1) < 0 then some (0, [], false) else branch_town_cheapest.l2 (k - (entL l q).length - 2) o left cost P (q : Int) (minL left og (entL l q) (-1)) (entL l q) ((entL l q).length : Int) 0 (n : Int) l := by
      intro k hk
      obtain ⟨k, rfl⟩ : ∃ k', k = k' + 1 := ⟨k - 1, by omega⟩
      have h1 := ch_l1 (n := n) (l := l) o og left cost P (q : Int) (entL l q) (fun x hxE => by obtain ⟨i, rfl, hi⟩ := hEn x hxE; exact ho i hi) (fun x hxE => by obtain ⟨i, e, hi⟩ := hEn x hxE; exact ⟨i, e, by rw [hI.len]; exact hi⟩) (by omega) (entL l q).length 0 (k - (entL l q).length - 1) (-1) (by omega)
      rw [show k - (entL l q).length - 1 + (entL l q).length + 1 = k from by omega, List.drop_zero] at h1
      unfold chEnd at h1
      rw [hE _ (by omega), Option.bind_some] at h1
      simp only [branch_town_cheapest.l0]
      rw [hal k (by omega), Option.bind_some, if_neg (by omega), hE k (by omega), Option.bind_some]
      rw [show k + 1 - (entL l q).length - 2 = k - (entL l q).length - 1 from by omega]
      exact h1
    by_cases hm : minL left og (entL l q) (-1) < 0
    · refine ⟨(0, [], false), fun k hk => by rw [hl0 k (by omega), if_pos hm], .inr ⟨rfl, no_branching (S := fun c => q.testBit c = true) hA.h0 hA.ne fun i ht hb => ?_⟩⟩
      refine Classical.byContradiction fun hna => ?_
      have hent : entB l q i = true := by unfold entB; rw [hb, Bool.eq_false_iff.mpr hna]; rfl
      have := (m3 (i : Int) ((hEm i).2 ⟨ht.1, hent⟩) ht.2).1
      omega
    obtain ⟨j, hjE, hjo, hjm⟩ : ∃ i ∈ entL l q, og i = false ∧ minL left og (entL l q) (-1) = rd left i := by
      rcases M1.out with h | h
      · omega
      · exact h
    clear M1
    obtain ⟨j, rfl, hj⟩ := hEn j hjE
    generalize hmm : minL left og (entL l q) (-1) = m at *
    have hjent := ((hEm j).1 hjE).2
    have hm1 : 1 ≤ m := by
      have := hzs j ⟨hj, hjo⟩
      rw [hjent] at this
      have h0 : rd left (j : Int) ≠ 0 := fun e => absurd (this e) (by decide)
      omega
    have hm1000 : m ≤ 1000 := by have := (hI.low j hj).2; omega
    have hwr : ∀ x ∈ entL l q, wrap64 (rd left x - m) = rd left x - m := by
      intro x hxE
      obtain ⟨i, rfl, hi⟩ := hEn x hxE
      have := hI.low i hi
      unfold wrap64
      omega
    have hrd := subL_rd m (entL l q) left (fun x hxE => by obtain ⟨i, e, hi⟩ := hEn x hxE; exact ⟨i, e, by rw [hI.len]; exact hi⟩) (entL_nodup l q) hwr
    have hrd2 : ∀ i : Nat, i < l.length → rd (subL m left (entL l q)) (i : Int) = if entB l q i = true then rd left (i : Int) - m else rd left (i : Int) := by
      intro i hi
      rw [hrd i]
      by_cases he : entB l q i = true
      · rw [if_pos ((hEm i).2 ⟨hi, he⟩), if_pos he]
      · rw [if_neg (fun h => he ((hEm i).1 h).2), if_neg he]
    have hposT : ∀ i, onT l og i → 0 ≤ rd (subL m left (entL l q)) (i : Int) := by
      intro i ht
      rw [hrd2 i ht.1]
      have := hI.pos i ht
      split
      · rename_i he
        have := (m3 (i : Int) ((hEm i).2 ⟨ht.1, he⟩) ht.2).2
        omega
      · exact this
    have hzero : ∀ i, onT l og i → rd left (i : Int) = 0 → rd (subL m left (entL l q)) (i : Int) = 0 := by
      intro i ht h0
      rw [hrd2 i ht.1, if_neg (by rw [hzs i ht h0]; decide)]
      exact h0
    have hjz : rd (subL m left (entL l q)) (j : Int) = 0 := by
      rw [hrd2 j hj, if_pos hjent]; omega
    have hcl := hI.many
    have hwc : wrap64 (cost + m) = cost + m := by unfold wrap64; omega
    have hset : IsSetN n (q : Int) := by
      refine ⟨by omega, by exact_mod_cast hq, ?_⟩
      rw [Int.toNat_natCast]
      exact Bool.eq_false_iff.mpr hA.h0
    have hnew : ChInv n l og price (subL m left (entL l q)) (cost + m) (P ++ [(⟨(q : Int), m⟩ : S41)]) := by
      refine ⟨by rw [subL_length]; exact hI.len, fun i hi => ?_, hposT, fun v hv => ?_, fun p hp => ?_, ?_, ?_, fun i hi => ?_, ?_⟩
      · rw [hrd2 i hi, List.length_append, List.length_singleton]
        have := hI.low i hi
        split <;> omega
      · have h1 := Opt.priced (p := fun i => rd left (i : Int)) (q := fun i => rd (subL m left (entL l q)) (i : Int)) (S := fun c => q.testBit c = true) (mm := m) (fun i h => onT_lt hx i h) hA (by omega) hI.pos
          (fun i ht hb ha => (m3 (i : Int) ((hEm i).2 ⟨ht.1, by unfold entB; rw [hb, Bool.eq_false_iff.mpr ha]; rfl⟩) ht.2).2)
          (fun i ht hb ha => by show rd (subL m left (entL l q)) (i : Int) = _; rw [hrd2 i ht.1, if_pos (by unfold entB; rw [hb, Bool.eq_false_iff.mpr ha]; rfl)])
          (fun i ht hno => by
            show rd (subL m left (entL l q)) (i : Int) = _
            rw [hrd2 i ht.1, if_neg]
            intro he
            unfold entB at he
            rw [Bool.and_eq_true, Bool.not_eq_true'] at he
            exact hno ⟨he.2, fun h => by rw [he.1] at h; exact absurd h (by decide)⟩) hv
        have h2 := hI.opt _ h1
        rw [show v + (cost + m) = v + m + cost from by omega]
        exact h2
      · rcases List.mem_append.1 hp with hp | hp
        · obtain ⟨a1, a2, a3, i, a4, a5, a6⟩ := hI.sets p hp
          exact ⟨a1, a2, a3, i, a4, hzero i a4 a5, a6⟩
        · obtain rfl := List.mem_singleton.1 hp
          exact ⟨hset, hm1, hm1000, j, ⟨hj, hjo⟩, hjz, by rw [Int.toNat_natCast]; exact hjent⟩
      · rw [List.map_append, List.nodup_append]
        refine ⟨hI.apart, by simp, fun x hxm y hy e => ?_⟩
        obtain rfl : y = (q : Int) := by simpa using hy
        obtain ⟨p, hp, rfl⟩ := List.mem_map.1 hxm
        obtain ⟨_, _, _, i, a4, a5, a6⟩ := hI.sets p hp
        rw [e, Int.toNat_natCast, hzs i a4 a5] at a6
        exact absurd a6 (by decide)
      · rw [worthAll_app, hI.worth]
      · rw [worthAt_app, hrd2 i hi, Int.toNat_natCast]
        have := hI.bal i hi
        show worthAt l i P + (if entB l q i = true then m else 0) + _ = _
        split <;> omega
      · rw [List.length_append, List.length_singleton]
        omega
    have hmeas : cntN (zerosB l og left) l.length < cntN (zerosB l og (subL m left (entL l q))) l.length := by
      refine cntN_lt l.length (fun i hi h => ?_) j hj ?_ ?_
      · unfold zerosB at h ⊢
        rw [Bool.and_eq_true, Bool.not_eq_true', decide_eq_true_eq] at h ⊢
        exact ⟨h.1, hzero i ⟨hi, h.1⟩ h.2⟩
      · unfold zerosB
        rw [hjo, hjz]; rfl
      · unfold zerosB
        rw [decide_eq_false (by omega), Bool.and_false]
    have hcb := cntN_bound (zerosB l og (subL m left (entL l q))) l.length
  · omega
  · obtain ⟨r, hr1, hr2⟩ := ih (subL m left (entL l q)) (cost + m) (P ++ [(⟨(q : Int), m⟩ : S41)]) hnew (by omega) (by rw [List.length_append, List.length_singleton]; omega)
    refine ⟨r, fun k hk => ?_, hr2⟩
    rw [hl0 k (by omega), if_neg hm]
    have h2 := ch_l2 (n := n) (l := l) o cost P (q : Int) m (entL l q) (by omega) (entL l q).length 0 (k - (entL l q).length - 2 - (entL l q).length - 1) left (fun x hxE => by obtain ⟨i, e, hi⟩ := hEn x hxE; exact ⟨i, e, by rw [hI.len]; exact hi⟩) (by omega)
    rw [show k - (entL l q).length - 2 - (entL l q).length - 1 + (entL l q).length + 1 = k - (entL l q).length - 2 from by omega, List.drop_zero, if_pos (by omega), if_pos (by omega), hwc] at h2
    exact h2.trans (hr1 _ (by omega))
/-- cheapest's answer. -/
theorem cheapest_spec (hn1 : 1 ≤ n) (hn : n ≤ 7) (hl : l.length ≤ 30) (hx : ∀ x ∈ l, wayOk n x = true) (o : Int → Option Bool) (og : Int → Bool) (ho : ∀ i : Nat, i < l.length → o (i : Int) = some (og (i : Int))) (price : List Int) (hpl : price.length = l.length) (hp : ∀ i : Nat, i < l.length → 0 ≤ rd price (i : Int) ∧ rd price (i : Int) ≤ 1000) :
    ∃ r : Int × List S41 × Bool, (∀ k, 3000 ≤ k → branch_town_cheapest.f k (n : Int) l price o = some r) ∧
      ((r.2.2 = true ∧ Opt n (aW l) (bW l) (onT l og) (fun i => rd price (i : Int)) r.1 ∧ ProofOk n l (onT l og) price r.2.1 r.1 ∧ r.2.1.length ≤ 31) ∨ (r = (0, [], false) ∧ ∀ f, ¬ IsB n (aW l) (bW l) (onT l og) f)) := by
  have h0 : ChInv n l og price price 0 [] := by
    refine ⟨hpl, fun i hi => ⟨by have := (hp i hi).1; simpa using this, (hp i hi).2⟩, fun i hi => (hp i hi.1).1, fun v hv => by rwa [Int.add_zero], fun p hp => absurd hp (by simp), by simp, rfl, fun i hi => by simp [worthAt], by simp⟩
  obtain ⟨r, h1, h2⟩ := ch_loop hn1 hn hl hx o og ho price hpl l.length price 0 [] h0 (by omega) (by simp; omega)
  refine ⟨r, fun k hk => ?_, h2⟩
  unfold branch_town_cheapest.f slices_Clone.f
  rw [if_pos (by omega), Option.bind_some]
  exact h1 k (by omega)
end
end Go.Proofs.Ytpmadffgdfholaa.B
namespace Go.Proofs.Ytpmadffgdfholaa.B
set_option linter.unusedVariables false
open Go.RowKit Go.Proofs.YtpmadffgdfholaaW.PrintWords Go.Proofs.YtpmadffgdfholaaW.PrintLast Go.Proofs.YtpmadffgdfholaaW.PrintMore
/-- Is street j one of the branching's? -/
def useB (n : Nat) (b : Nat → Nat) (f : Nat → Nat) (j : Nat) : Bool := decide (0 < b j) && decide (b j < n) && decide (f (b j) = j)
theorem useB_iff {n : Nat} {b f : Nat → Nat} {j : Nat} : useB n b f j = true ↔ 0 < b j ∧ b j < n ∧ f (b j) = j := by
  unfold useB
  simp [and_assoc]
/-- The indices of a choice of streets, ascending. -/
def selL (X : Nat → Bool) (i : Nat) : List Int := ((List.range i).filter X).map fun j : Nat => (j : Int)
theorem selL_succ (X : Nat → Bool) (i : Nat) : selL X (i + 1) = if X i = true then selL X i ++ [(i : Int)] else selL X i := by
  unfold selL
  rw [List.range_succ, List.filter_append, List.map_append]
  by_cases h : X i = true
  · rw [if_pos h, List.filter_cons_of_pos h]; rfl
  · rw [if_neg h, List.filter_cons_of_neg h]; simp
theorem selL_congr {X Y : Nat → Bool} : ∀ i, (∀ j, j < i → X j = Y j) → selL X i = selL Y i
  | 0, _ => rfl
  | i + 1, h => by rw [selL_succ, selL_succ, selL_congr i (fun j hj => h j (by omega)), h i (by omega)]
theorem selL_mem (X : Nat → Bool) (i j : Nat) : (j : Int) ∈ selL X i ↔ j < i ∧ X j = true := by
  unfold selL
  simp only [List.mem_map, List.mem_filter, List.mem_range]
  constructor
  · rintro ⟨q, h, e⟩
    obtain rfl : q = j := by omega
    exact h
  · exact fun h => ⟨j, h, rfl⟩
theorem selL_nat (X : Nat → Bool) (i : Nat) : ∀ x ∈ selL X i, ∃ j : Nat, x = (j : Int) ∧ j < i ∧ X j = true := by
  intro x hx
  unfold selL at hx
  obtain ⟨j, hj, rfl⟩ := List.mem_map.1 hx
  have := List.mem_filter.1 hj
  exact ⟨j, rfl, List.mem_range.1 this.1, this.2⟩
theorem selL_length (X : Nat → Bool) (i : Nat) : (selL X i).length ≤ i := by
  unfold selL
  rw [List.length_map]
  exact Nat.le_trans (List.length_filter_le _ _) (by simp)
theorem contains_l0 (list : List Int) (o : Int → Option Bool) (P : Int → Bool) (ho : ∀ x ∈ list, o x = some (P x)) (hl : list.length < 1000) : ∀ (d q k : Nat), q + d = list.length →
    ∃ r : Int, slices_IndexFunc_int_int.l0 (k + d + 1) list o (list.length : Int) (q : Int) = some r ∧ (0 ≤ r ↔ ∃ x ∈ list.drop q, P x = true)
  | 0, q, k, h => by
    refine ⟨-1, ?_, fun h => absurd h (by decide), fun ⟨x, hx, _⟩ => ?_⟩
    · simp only [slices_IndexFunc_int_int.l0]
      rw [if_neg (by omega)]
    · rw [List.drop_eq_nil_of_le (by omega)] at hx
      exact absurd hx (by simp)
  | d + 1, q, k, h => by
    have hq : q < list.length := by omega
    have hw := wrap_nat q (by omega)
    have hox := ho _ (rd_mem4 list q hq)
    obtain ⟨r, h1, h2⟩ := contains_l0 list o P ho hl d (q + 1) k (by omega)
    rw [drop_rdI4 list q hq, show k + (d + 1) + 1 = (k + d + 1) + 1 from by omega]
    cases hP : P (rd list (q : Int)) with
    | true =>
      refine ⟨q, ?_, fun _ => ⟨_, List.mem_cons_self, hP⟩, fun _ => by omega⟩
      simp only [slices_IndexFunc_int_int.l0, hw]
      rw [if_pos (by omega), if_pos (by omega), if_pos (by omega), hox, Option.bind_some, hP, if_pos rfl]
    | false =>
      refine ⟨r, ?_, ?_⟩
      · rw [← h1]
        generalize k + d + 1 = qq
        simp only [slices_IndexFunc_int_int.l0, hw]
        rw [if_pos (by omega), if_pos (by omega), if_pos (by omega), hox, Option.bind_some, hP, if_neg (by decide)]
      · rw [h2]
        constructor
        · rintro ⟨x, hx, hp⟩; exact ⟨x, List.mem_cons_of_mem _ hx, hp⟩
        · rintro ⟨x, hx, hp⟩
          rcases List.mem_cons.1 hx with rfl | hx
          · rw [hP] at hp; exact absurd hp (by decide)
          · exact ⟨x, hx, hp⟩
theorem contains_f (list : List Int) (o : Int → Option Bool) (P : Int → Bool) (ho : ∀ x ∈ list, o x = some (P x)) (hl : list.length < 1000) : ∃ r : Bool, (∀ k, list.length + 1 ≤ k → slices_ContainsFunc_int_int.f k list o = some r) ∧ (r = true ↔ ∃ x ∈ list, P x = true) := by
  obtain ⟨r, h1, h2⟩ := contains_l0 list o P ho hl list.length 0 0 (by omega)
  refine ⟨decide (r ≥ 0), fun k hk => ?_, ?_⟩
  · obtain ⟨r', h1', h2'⟩ := contains_l0 list o P ho hl list.length 0 (k - list.length - 1) (by omega)
    rw [show k - list.length - 1 + list.length + 1 = k from by omega] at h1'
    unfold slices_ContainsFunc_int_int.f slices_IndexFunc_int_int.f
    rw [show ((0 : Nat) : Int) = 0 from rfl] at h1'
    rw [h1', Option.bind_some]
    refine congrArg some ?_
    rw [List.drop_zero] at h2 h2'
    by_cases hr : 0 ≤ r
    · rw [decide_eq_true (show r' ≥ 0 from h2'.2 (h2.1 hr)), decide_eq_true (show r ≥ 0 from hr)]
    · rw [decide_eq_false (show ¬ r' ≥ 0 from fun h => hr (h2.2 (h2'.1 h))), decide_eq_false (show ¬ r ≥ 0 from hr)]
  · rw [decide_eq_true_eq]
    rw [List.drop_zero] at h2
    exact h2
/-- Streets X come first before streets Y, up to i: they are the same, or where they differ for the first time, X has the street. -/
def Ahead (X Y : Nat → Bool) (i : Nat) : Prop := (∀ j, j < i → X j = Y j) ∨ ∃ j, j < i ∧ (∀ q, q < j → X q = Y q) ∧ X j = true ∧ Y j = false
/-- The first branching of the least cost. -/
structure FirstB (n : Nat) (l : List S30) (p : Nat → Int) (v : Int) (f : Nat → Nat) : Prop where
  is : IsB n (aW l) (bW l) (fun i => i < l.length) f
  cost : costF n p f = v
  least : ∀ g, IsB n (aW l) (bW l) (fun i => i < l.length) g → v ≤ costF n p g
  ahead : ∀ g, IsB n (aW l) (bW l) (fun i => i < l.length) g → costF n p g = v → Ahead (useB n (bW l) f) (useB n (bW l) g) l.length
/-- What stands ahead of street i. -/
structure FsInv (n : Nat) (l : List S30) (p : Nat → Int) (v : Int) (i : Nat) (X : Nat → Bool) (gone : Int → Bool) : Prop where
  some : ∃ f, IsB n (aW l) (bW l) (onT l gone) f ∧ costF n p f = v
  below : ∀ j, j < i → (X j = true ↔ gone (j : Int) = false)
  lone : ∀ j, j < i → X j = true → 0 < bW l j ∧ ∀ q, q < l.length → bW l q = bW l j → q ≠ j → gone (q : Int) = true
  why : ∀ q, i ≤ q → q < l.length → gone (q : Int) = true → ∃ j, j < i ∧ X j = true ∧ bW l q = bW l j
  first : ∀ g, IsB n (aW l) (bW l) (fun i => i < l.length) g → costF n p g = v → Ahead X (useB n (bW l) g) i
section
variable {n : Nat} {l : List S30} {p : Nat → Int} {v : Int}
theorem mem_toB (l : List S30) (b : Int) (i : Nat) : (i : Int) ∈ toB l l.length b ↔ i < l.length ∧ (rd_T30 l (i : Int)).f1 = b := by
  unfold toB
  simp only [List.mem_map, List.mem_filter, List.mem_range, beq_iff_eq]
  constructor
  · rintro ⟨q, h, e⟩
    obtain rfl : q = i := by omega
    exact h
  · exact fun h => ⟨i, h, rfl⟩
theorem bW_eq {n : Nat} (hx : ∀ x ∈ l, wayOk n x = true) (i : Nat) (h : i < l.length) : (rd_T30 l (i : Int)).f1 = (bW l i : Int) ∧ (rd_T30 l (i : Int)).f0 = (aW l i : Int) ∧ bW l i < n ∧ aW l i < n := by
  have := (wayOk_iff n _).1 (hx _ (rd_T30_mem l i h))
  unfold bW aW
  omega
/-- Streets that agree with the list up to i are not gone. -/
theorem FsInv.agree {i : Nat} {X : Nat → Bool} {gone : Int → Bool} (h : FsInv n l p v i X gone) {g : Nat → Nat} (hg : IsB n (aW l) (bW l) (fun i => i < l.length) g) (ha : ∀ j, j < i → X j = useB n (bW l) g j) : IsB n (aW l) (bW l) (onT l gone) g := by
  refine hg.within fun c c0 c1 => ⟨(hg.on c c0 c1).1, ?_⟩
  have hb := (hg.on c c0 c1).2
  have hu : useB n (bW l) g (g c) = true := useB_iff.2 ⟨by omega, by omega, by rw [hb]⟩
  by_cases hlt : g c < i
  · exact (h.below _ hlt).1 ((ha _ hlt).trans hu)
  · cases hgo : gone ((g c : Nat) : Int) with
    | false => rfl
    | true =>
      obtain ⟨j, hj, hX, hbj⟩ := h.why (g c) (by omega) (hg.on c c0 c1).1 hgo
      have h2 := useB_iff.1 ((ha j hj).symm.trans hX)
      rw [← hbj, hb] at h2
      omega
theorem FsInv.skip {i : Nat} {X : Nat → Bool} {gone : Int → Bool} (h : FsInv n l p v i X gone) (hX : X i = false) (hno : ∀ g, IsB n (aW l) (bW l) (onT l gone) g → costF n p g = v → useB n (bW l) g i = false) :
    FsInv n l p v (i + 1) X (fun j => decide (j = (i : Int)) || gone j) := by
  refine ⟨?_, fun j hj => ?_, fun j hj hXj => ?_, fun q hq hql hgo => ?_, fun g hg hc => ?_⟩
  · obtain ⟨f, hf, hc⟩ := h.some
    refine ⟨f, hf.within fun c c0 c1 => ⟨(hf.on c c0 c1).1.1, ?_⟩, hc⟩
    dsimp only
    rw [(hf.on c c0 c1).1.2, Bool.or_false, decide_eq_false_iff_not]
    intro e
    have e2 : f c = i := by omega
    have := hno f hf hc
    have hu : useB n (bW l) f (f c) = true := useB_iff.2 ⟨by rw [(hf.on c c0 c1).2]; omega, by rw [(hf.on c c0 c1).2]; omega, by rw [(hf.on c c0 c1).2]⟩
    rw [e2, this] at hu
    exact absurd hu (by decide)
  · by_cases e : j = i
    · subst e; simp [hX]
    · rw [h.below j (by omega), decide_eq_false (by omega), Bool.false_or]
  · have hne : j ≠ i := by rintro rfl; rw [hX] at hXj; exact absurd hXj (by decide)
    obtain ⟨h1, h2⟩ := h.lone j (by omega) hXj
    exact ⟨h1, fun q hq hb hqj => by rw [h2 q hq hb hqj, Bool.or_true]⟩
  · rw [decide_eq_false (by omega), Bool.false_or] at hgo
    obtain ⟨j, hj, h2⟩ := h.why q (by omega) hql hgo
    exact ⟨j, by omega, h2⟩
  · rcases h.first g hg hc with ha | ⟨j, hj, h2⟩
    · refine .inl fun j hj => ?_
      by_cases e : j = i
      · subst e; rw [hX, hno g (h.agree hg ha) hc]
      · exact ha j (by omega)
    · exact .inr ⟨j, by omega, h2⟩
theorem FsInv.take {i : Nat} {X : Nat → Bool} {gone : Int → Bool} (h : FsInv n l p v i X gone) (hX : X i = false) (hb0 : 0 < bW l i) (hil : i < l.length) (more : Int → Bool) (hmore : ∀ q : Nat, q < l.length → (more (q : Int) = true ↔ bW l q = bW l i ∧ q ≠ i)) (hgi : gone (i : Int) = false)
    (hyes : ∃ g, IsB n (aW l) (bW l) (onT l (fun j => gone j || more j)) g ∧ costF n p g = v) (hfree : ∀ j, j < i → X j = true → bW l j ≠ bW l i) :
    FsInv n l p v (i + 1) (fun j => X j || decide (j = i)) (fun j => gone j || more j) := by
  refine ⟨hyes, fun j hj => ?_, fun j hj hXj => ?_, fun q hq hql hgo => ?_, fun g hg hc => ?_⟩
  · by_cases e : j = i
    · subst e
      rw [hgi, Bool.false_or]
      simp only [decide_true, Bool.or_true, true_iff]
      refine Bool.eq_false_iff.mpr fun hm => ?_
      exact ((hmore j hil).1 hm).2 rfl
    · rw [decide_eq_false e, Bool.or_false, h.below j (by omega), Bool.or_eq_false_iff]
      constructor
      · intro hgj
        refine ⟨hgj, Bool.eq_false_iff.mpr fun hm => ?_⟩
        have hXj := (h.below j (by omega)).2 hgj
        exact hfree j (by omega) hXj ((hmore j (by omega)).1 hm).1
      · exact fun hh => hh.1
  · by_cases e : j = i
    · subst e
      exact ⟨hb0, fun q hq hb hqj => by rw [(hmore q hq).2 ⟨hb, hqj⟩, Bool.or_true]⟩
    · rw [decide_eq_false e, Bool.or_false] at hXj
      obtain ⟨h1, h2⟩ := h.lone j (by omega) hXj
      exact ⟨h1, fun q hq hb hqj => by rw [h2 q hq hb hqj, Bool.true_or]⟩
  · rcases Bool.or_eq_true_iff.1 hgo with hgo | hgo
    · obtain ⟨j, hj, hXj, hb⟩ := h.why q (by omega) hql hgo
      exact ⟨j, by omega, by rw [hXj, Bool.true_or], hb⟩
    · exact ⟨i, by omega, by simp, ((hmore q hql).1 hgo).1⟩
  · rcases h.first g hg hc with ha | ⟨j, hj, hq, h2⟩
    · cases hu : useB n (bW l) g i with
      | true =>
        refine .inl fun j hj => ?_
        by_cases e : j = i
        · subst e; rw [hu]; simp
        · dsimp only; rw [decide_eq_false e, Bool.or_false]; exact ha j (by omega)
      | false =>
        refine .inr ⟨i, by omega, fun q hq => ?_, by simp, hu⟩
        dsimp only
        rw [decide_eq_false (by omega), Bool.or_false]; exact ha q hq
    · refine .inr ⟨j, by omega, fun q hq2 => ?_, by dsimp only; rw [h2.1, Bool.true_or], h2.2⟩
      dsimp only
      rw [decide_eq_false (by omega), Bool.or_false]; exact hq q hq2
/-- At the end. -/
theorem FsInv.last (hx : ∀ x ∈ l, wayOk n x = true) {X : Nat → Bool} {gone : Int → Bool} (h : FsInv n l p v l.length X gone) (hmin : ∀ g, IsB n (aW l) (bW l) (fun i => i < l.length) g → v ≤ costF n p g) : ∃ f, FirstB n l p v f ∧ ∀ j, j < l.length → useB n (bW l) f j = X j := by
  obtain ⟨f, hf, hc⟩ := h.some
  have hu : ∀ j, j < l.length → useB n (bW l) f j = X j := by
    intro j hj
    cases hX : X j with
    | true =>
      obtain ⟨h1, h2⟩ := h.lone j hj hX
      have hbn : bW l j < n := (bW_eq hx j hj).2.2.1
      obtain ⟨t, tb⟩ := hf.on (bW l j) h1 hbn
      refine useB_iff.2 ⟨h1, hbn, Classical.byContradiction fun hne => ?_⟩
      have := h2 _ t.1 tb hne
      rw [t.2] at this
      exact absurd this (by decide)
    | false =>
      refine Bool.eq_false_iff.mpr fun hu => ?_
      obtain ⟨u1, u2, u3⟩ := useB_iff.1 hu
      have := (hf.on _ u1 u2).1.2
      rw [u3] at this
      have := (h.below j hj).2 this
      rw [hX] at this
      exact absurd this (by decide)
  refine ⟨f, ⟨hf.mono fun i hi => hi.1, hc, hmin, fun g hg hgc => ?_⟩, hu⟩
  rcases h.first g hg hgc with ha | ⟨j, hj, hq, h1, h2⟩
  · exact .inl fun j hj => (hu j hj).trans (ha j hj)
  · exact .inr ⟨j, hj, fun q hqj => (hu q (by omega)).trans (hq q hqj), (hu j hj).trans h1, h2⟩
theorem first_loop (hn1 : 1 ≤ n) (hn : n ≤ 7) (hl : l.length ≤ 30) (hx : ∀ x ∈ l, wayOk n x = true) (price : List Int) (hpl : price.length = l.length) (hp : ∀ i : Nat, i < l.length → 0 ≤ rd price (i : Int) ∧ rd price (i : Int) ≤ 1000)
    (hmin : ∀ g, IsB n (aW l) (bW l) (fun i => i < l.length) g → v ≤ costF n (fun i => rd price (i : Int)) g) :
    ∀ (c i : Nat) (X : Nat → Bool) (gone : Int → Bool), i + c = l.length → FsInv n l (fun i => rd price (i : Int)) v i X gone → (∀ j, i ≤ j → X j = false) →
    ∃ f, FirstB n l (fun i => rd price (i : Int)) v f ∧ ∀ k, 3000 ≤ k → firstL k (n : Int) l price v c i (selL X i) gone = some (selL (useB n (bW l) f) l.length, v, 0)
  | 0, i, X, gone, h, hI, _ => by
    obtain rfl : i = l.length := by omega
    obtain ⟨f, hf, hu⟩ := hI.last hx hmin
    exact ⟨f, hf, fun k _ => by rw [firstL, selL_congr l.length hu]⟩
  | c + 1, i, X, gone, h, hI, hX => by
    have hi : i < l.length := by omega
    obtain ⟨e1, _, hbn, _⟩ := bW_eq hx i hi
    have hXi := hX i (Nat.le_refl _)
    have hlen := selL_length X i
    have hnat := selL_nat X i
    obtain ⟨sk, hsk, hskiff⟩ := contains_f (selL X i) (fun j => branch_town_first_2.f j (n : Int) l (bW l i : Int)) (fun j => (rd_T30 l j).f1 == (bW l i : Int)) (fun x hxm => by
      obtain ⟨j, rfl, hj, _⟩ := hnat x hxm
      unfold branch_town_first_2.f
      rw [if_pos (by omega), if_pos (by omega)]) (by omega)
    by_cases hskip : bW l i = 0 ∨ sk = true
    · have hno : ∀ g, IsB n (aW l) (bW l) (onT l gone) g → costF n (fun i => rd price (i : Int)) g = v → useB n (bW l) g i = false := by
        intro g hg _
        refine Bool.eq_false_iff.mpr fun hu => ?_
        obtain ⟨u1, u2, u3⟩ := useB_iff.1 hu
        rcases hskip with h0 | hs
        · omega
        · obtain ⟨x, hxm, hP⟩ := hskiff.1 hs
          obtain ⟨j, rfl, hj, hXj⟩ := hnat x hxm
          have hbj : bW l j = bW l i := by
            have := beq_iff_eq.mp hP
            rw [(bW_eq hx j (by omega)).1] at this
            omega
          have := (hI.lone j hj hXj).2 i hi hbj.symm (by omega)
          have h3 := (hg.on _ u1 u2).1.2
          rw [u3, this] at h3
          exact absurd h3 (by decide)
      obtain ⟨f, hf, hk⟩ := first_loop hn1 hn hl hx price hpl hp hmin c (i + 1) X _ (by omega) (hI.skip hXi hno) (fun j hj => hX j (by omega))
      refine ⟨f, hf, fun k hk3 => ?_⟩
      have := hk k hk3
      rw [selL_succ, if_neg (by rw [hXi]; decide)] at this
      rw [firstL, e1]
      rcases hskip with h0 | hs
      · rw [if_pos (by omega), Option.bind_some, if_pos rfl]
        exact this
      · by_cases h0 : bW l i = 0
        · rw [if_pos (by omega), Option.bind_some, if_pos rfl]
          exact this
        · rw [if_neg (by omega), hsk k (by omega), Option.bind_some, if_pos hs]
          exact this
    · have hb0 : 0 < bW l i := by omega
      have hs0 : sk = false := Bool.eq_false_iff.mpr fun h => hskip (.inr h)
      have hfree : ∀ j, j < i → X j = true → bW l j ≠ bW l i := by
        intro j hj hXj e
        have : sk = true := hskiff.2 ⟨(j : Int), (selL_mem X i j).2 ⟨hj, hXj⟩, by rw [(bW_eq hx j (by omega)).1, e]; exact beq_self_eq_true _⟩
        rw [hs0] at this
        exact absurd this (by decide)
      have hgi : gone (i : Int) = false := by
        refine Bool.eq_false_iff.mpr fun hg => ?_
        obtain ⟨j, hj, hXj, hb⟩ := hI.why i (Nat.le_refl _) hi hg
        exact hfree j hj hXj hb.symm
      have hmore : ∀ q : Nat, q < l.length → (moreL (i : Int) (toB l l.length (bW l i : Int)) (q : Int) = true ↔ bW l q = bW l i ∧ q ≠ i) := by
        intro q hq
        unfold moreL
        rw [Bool.and_eq_true, decide_eq_true_eq, decide_eq_true_eq, mem_toB, (bW_eq hx q hq).1]
        constructor
        · rintro ⟨⟨_, h1⟩, h2⟩; exact ⟨by omega, by omega⟩
        · rintro ⟨h1, h2⟩; exact ⟨⟨hq, by omega⟩, by omega⟩
      obtain ⟨r, hr1, hr2⟩ := cheapest_spec hn1 hn hl hx (fun j => some (gone j || moreL (i : Int) (toB l l.length (bW l i : Int)) j)) (fun j => gone j || moreL (i : Int) (toB l l.length (bW l i : Int)) j) (fun _ _ => rfl) price hpl hp
      have hstep : ∀ k, 3000 ≤ k → firstL k (n : Int) l price v (c + 1) i (selL X i) gone = if (r.2.2 && (r.1 == v)) = true then firstL k n l price v c (i + 1) (selL X i ++ [(i : Int)]) (fun j => gone j || moreL (i : Int) (toB l l.length (bW l i : Int)) j) else firstL k n l price v c (i + 1) (selL X i) (fun j => decide (j = (i : Int)) || gone j) := by
        intro k hk
        rw [firstL, e1, if_neg (by omega), hsk k (by omega), Option.bind_some, hs0, if_neg (by decide), hr1 k hk, Option.bind_some]
        by_cases hy : (r.2.2 && (r.1 == v)) = true
        · rw [if_pos hy, if_pos (by omega), if_pos hy]
        · rw [if_neg hy, if_neg hy]
      by_cases hyes : (r.2.2 && (r.1 == v)) = true
      · rcases hr2 with ⟨_, hopt, _⟩ | ⟨e, _⟩
        · have hv : r.1 = v := beq_iff_eq.mp (Bool.and_eq_true _ _ |>.mp hyes).2
          obtain ⟨⟨g, hg, hgc⟩, _⟩ := hopt
          obtain ⟨f, hf, hk⟩ := first_loop hn1 hn hl hx price hpl hp hmin c (i + 1) (fun j => X j || decide (j = i)) _ (by omega) (hI.take hXi hb0 hi _ hmore hgi ⟨g, hg, hgc.trans hv⟩ hfree) (fun j hj => by rw [hX j (by omega), decide_eq_false (by omega)]; rfl)
          refine ⟨f, hf, fun k hk3 => ?_⟩
          have := hk k hk3
          rw [selL_succ, if_pos (by simp), selL_congr (Y := X) i (fun j hj => by rw [decide_eq_false (by omega), Bool.or_false])] at this
          rw [hstep k hk3, if_pos hyes]
          exact this
        · rw [e] at hyes
          exact absurd hyes (by simp)
      · have hno : ∀ g, IsB n (aW l) (bW l) (onT l gone) g → costF n (fun i => rd price (i : Int)) g = v → useB n (bW l) g i = false := by
          intro g hg hgc
          refine Bool.eq_false_iff.mpr fun hu => ?_
          obtain ⟨u1, u2, u3⟩ := useB_iff.1 hu
          have hg2 : IsB n (aW l) (bW l) (onT l (fun j => gone j || moreL (i : Int) (toB l l.length (bW l i : Int)) j)) g := hg.within fun c c0 c1 => by
            obtain ⟨t, tb⟩ := hg.on c c0 c1
            refine ⟨t.1, ?_⟩
            dsimp only
            rw [t.2, Bool.false_or]
            refine Bool.eq_false_iff.mpr fun hm => ?_
            obtain ⟨m1, m2⟩ := (hmore _ t.1).1 hm
            rw [tb] at m1
            rw [m1, u3] at m2
            exact m2 rfl
          rcases hr2 with ⟨h1, ⟨⟨g', hg', hgc'⟩, hlow⟩, _⟩ | ⟨_, hnone⟩
          · have h2 := hlow g hg2
            have h3 := hmin g' (hg'.mono fun i hi => hi.1)
            have : r.1 = v := by omega
            exact hyes (by rw [h1, this]; simp)
          · exact hnone g hg2
        obtain ⟨f, hf, hk⟩ := first_loop hn1 hn hl hx price hpl hp hmin c (i + 1) X _ (by omega) (hI.skip hXi hno) (fun j hj => hX j (by omega))
        refine ⟨f, hf, fun k hk3 => ?_⟩
        have := hk k hk3
        rw [selL_succ, if_neg (by rw [hXi]; decide)] at this
        rw [hstep k hk3, if_neg hyes]
        exact this
/-- first's answer. -/
theorem first_spec (hn1 : 1 ≤ n) (hn : n ≤ 7) (hl : l.length ≤ 30) (hx : ∀ x ∈ l, wayOk n x = true) (price : List Int) (hpl : price.length = l.length) (hp : ∀ i : Nat, i < l.length → 0 ≤ rd price (i : Int) ∧ rd price (i : Int) ≤ 1000) :
    (∃ f v, FirstB n l (fun i => rd price (i : Int)) v f ∧ ∀ k, 3000 ≤ k → branch_town_first.f k (n : Int) l price = some (selL (useB n (bW l) f) l.length, v, 0)) ∨
    ((∀ f, ¬ IsB n (aW l) (bW l) (fun i => i < l.length) f) ∧ ∀ k, 3000 ≤ k → branch_town_first.f k (n : Int) l price = some ([], 0, 10)) := by
  have hon : ∀ i, onT l (fun _ => false) i ↔ i < l.length := fun i => ⟨fun h => h.1, fun h => ⟨h, rfl⟩⟩
  obtain ⟨r, hr1, hr2⟩ := cheapest_spec hn1 hn hl hx (fun i => branch_town_first_1.f i) (fun _ => false) (fun _ _ => rfl) price hpl hp
  have hstep : ∀ k, 3000 ≤ k → branch_town_first.f k (n : Int) l price = if r.2.2 = true then firstL k (n : Int) l price r.1 l.length 0 [] (fun _ => false) else some ([], 0, 10) := by
    intro k hk
    unfold branch_town_first.f
    rw [if_pos (by omega), hr1 k hk, Option.bind_some]
  rcases hr2 with ⟨h1, ⟨⟨g, hg, hgc⟩, hlow⟩, _⟩ | ⟨e, hnone⟩
  · left
    have hmin : ∀ g, IsB n (aW l) (bW l) (fun i => i < l.length) g → r.1 ≤ costF n (fun i => rd price (i : Int)) g := fun g hg => hlow g (hg.mono fun i hi => (hon i).2 hi)
    obtain ⟨f, hf, hk⟩ := first_loop (v := r.1) hn1 hn hl hx price hpl hp hmin l.length 0 (fun _ => false) (fun _ => false) (by omega)
      ⟨⟨g, hg, hgc⟩, fun j hj => absurd hj (by omega), fun j hj => absurd hj (by omega), fun q _ _ h => absurd h (by decide), fun g _ _ => .inl fun j hj => absurd hj (by omega)⟩ (fun _ _ => rfl)
    refine ⟨f, r.1, hf, fun k hk3 => ?_⟩
    rw [hstep k hk3, if_pos h1]
    exact hk k hk3
  · right
    refine ⟨fun f hf => hnone f (hf.mono fun i hi => (hon i).2 hi), fun k hk => ?_⟩
    rw [hstep k hk, e]
    rfl
end
end Go.Proofs.Ytpmadffgdfholaa.B
namespace Go.Proofs.Ytpmadffgdfholaa.B
set_option linter.unusedVariables false
open Go.RowKit Go.Proofs.YtpmadffgdfholaaW.PrintWords Go.Proofs.YtpmadffgdfholaaW.PrintLast Go.Proofs.YtpmadffgdfholaaW.PrintMore
def costW (l : List S30) (i : Nat) : Int := (rd_T30 l (i : Int)).f2
section
variable {n : Nat} {l : List S30} {f : Nat → Nat}
structure PreOk (l : List S30) (L : List Int) (q : Nat) : Prop where
  rng : ∀ j : Nat, j < q → 0 ≤ rd L (j : Int) ∧ rd L (j : Int) < (l.length : Int)
  asc : ∀ j : Nat, j + 1 < q → rd L (j : Int) < rd L ((j + 1 : Nat) : Int)
  far : ∀ i j : Nat, i < j → j < q → bW l (rd L (i : Int)).toNat ≠ bW l (rd L (j : Int)).toNat
  pos : ∀ j : Nat, j < q → bW l (rd L (j : Int)).toNat ≠ 0
def metN (l : List S30) (L : List Int) : Nat → Nat
  | 0 => 1
  | q + 1 => metN l L q ||| 1 <<< bW l (rd L (q : Int)).toNat
theorem metN_bit (l : List S30) (L : List Int) (c : Nat) : ∀ q, (metN l L q).testBit c = true ↔ c = 0 ∨ ∃ j, j < q ∧ bW l (rd L (j : Int)).toNat = c
  | 0 => by
    rw [metN, show (1 : Nat) = 1 <<< 0 from rfl, tb_one, decide_eq_true_eq]
    exact ⟨.inl, fun h => h.resolve_right (fun ⟨j, hj, _⟩ => by omega)⟩
  | q + 1 => by
    rw [metN, tb_or, Bool.or_eq_true, metN_bit l L c q, decide_eq_true_eq]
    constructor
    · rintro ((h | ⟨j, hj, h⟩) | h)
      · exact .inl h
      · exact .inr ⟨j, by omega, h⟩
      · exact .inr ⟨q, by omega, h.symm⟩
    · rintro (h | ⟨j, hj, h⟩)
      · exact .inl (.inl h)
      · by_cases e : j = q
        · subst e; exact .inr h.symm
        · exact .inl (.inr ⟨j, by omega, h⟩)
/-- What stops at street q. -/
theorem PreOk.next {L : List Int} {q : Nat} (h : PreOk l L q) (h0 : 0 ≤ rd L (q : Int)) (h1 : rd L (q : Int) < (l.length : Int)) (h2 : 0 < q → rd L ((q - 1 : Nat) : Int) < rd L (q : Int)) (h3 : (metN l L q).testBit (bW l (rd L (q : Int)).toNat) = false) : PreOk l L (q + 1) := by
  have hm : ¬ (bW l (rd L (q : Int)).toNat = 0 ∨ ∃ j, j < q ∧ bW l (rd L (j : Int)).toNat = bW l (rd L (q : Int)).toNat) := fun hh => by
    rw [(metN_bit l L _ q).2 hh] at h3; exact absurd h3 (by decide)
  refine ⟨fun j hj => ?_, fun j hj => ?_, fun i j hi hj => ?_, fun j hj => ?_⟩
  · by_cases e : j = q
    · subst e; exact ⟨h0, h1⟩
    · exact h.rng j (by omega)
  · by_cases e : j + 1 = q
    · have := h2 (by omega)
      rw [show q - 1 = j by omega] at this
      rw [e]; exact this
    · exact h.asc j (by omega)
  · by_cases e : j = q
    · subst e; exact fun hh => hm (.inr ⟨i, hi, hh⟩)
    · exact h.far i j hi (by omega)
  · by_cases e : j = q
    · subst e; exact fun hh => hm (.inl hh)
    · exact h.pos j (by omega)
end
end Go.Proofs.Ytpmadffgdfholaa.B
namespace Go.Proofs.Ytpmadffgdfholaa.B
set_option linter.unusedVariables false
open Go.RowKit Go.Proofs.YtpmadffgdfholaaW.PrintWords Go.Proofs.YtpmadffgdfholaaW.PrintLast Go.Proofs.YtpmadffgdfholaaW.PrintMore
section
variable {n : Nat} {l : List S30} {f : Nat → Nat}
/-- The list of the streets of a branching. -/
def listB (n : Nat) (l : List S30) (f : Nat → Nat) : List Int := selL (useB n (bW l) f) l.length
abbrev BrB (n : Nat) (l : List S30) (f : Nat → Nat) : Prop := IsB n (aW l) (bW l) (fun i => i < l.length) f
theorem everybody_f (hn : n ≤ 7) (l : List S30) : branch_town_everybody.f (n : Int) l = some ((2 : Int) ^ n - 1) := by
  have e1 := fin_shl ⟨n, by omega⟩
  simp only [] at e1
  have hp : 2 ^ n ≤ 2 ^ 7 := Nat.pow_le_pow_right (by decide) hn
  have hp1 : 1 ≤ 2 ^ n := Nat.one_le_two_pow
  have h2 : ((2 : Int) ^ n) = ((2 ^ n : Nat) : Int) := by norm_cast
  unfold branch_town_everybody.f
  rw [e1, if_pos (by omega), h2]
  generalize 2 ^ n = p at hp hp1
  refine congrArg some ?_
  unfold wrap64; omega
end
end Go.Proofs.Ytpmadffgdfholaa.B
namespace Go.Proofs.Ytpmadffgdfholaa.B
set_option linter.unusedVariables false
open Go.RowKit Go.Proofs.YtpmadffgdfholaaW.PrintWords Go.Proofs.YtpmadffgdfholaaW.PrintLast Go.Proofs.YtpmadffgdfholaaW.PrintMore
section
variable {n : Nat} {l : List S30} {f : Nat → Nat}
def costL (l : List S30) : List Int := l.map fun x => x.f2
theorem costL_length (l : List S30) : (costL l).length = l.length := by simp [costL]
theorem costL_rd (l : List S30) (i : Nat) (h : i < l.length) : rd (costL l) (i : Int) = costW l i := by
  simp [rd, costL, costW, rd_T30, List.getD, List.getElem?_eq_getElem h]
theorem costs_l0 (l : List S30) (hl : l.length < 1000) : ∀ (d q k : Nat), q + d = l.length → branch_town_costs.l0 (k + d + 1) ((costL l).take q) l (l.length : Int) (q : Int) = some (costL l)
  | 0, q, k, h => by
    rw [show k + 0 + 1 = k + 1 from rfl, branch_town_costs.l0, if_neg (by omega), List.take_of_length_le (by rw [costL_length]; omega)]
  | d + 1, q, k, h => by
    have hq : q < l.length := by omega
    have hw := wrap_nat q (by omega)
    have ih := costs_l0 l hl d (q + 1) k (by omega)
    rw [take_rdI (costL l) q (by rw [costL_length]; exact hq), costL_rd l q hq] at ih
    rw [show k + (d + 1) + 1 = (k + d + 1) + 1 from by omega, branch_town_costs.l0, if_pos (by omega), if_pos (by omega), if_pos (by omega), if_pos (by rw [List.length_take]; omega), hw]
    exact ih
theorem costs_f (n : Int) (l : List S30) (hl : l.length ≤ 30) (k : Nat) (hk : 40 ≤ k) : branch_town_costs.f k n l = some (costL l) := by
  have := costs_l0 l (by omega) l.length 0 (k - l.length - 1) (by omega)
  rw [show k - l.length - 1 + l.length + 1 = k from by omega] at this
  exact this
theorem cost_low (hx : ∀ x ∈ l, wayOk n x = true) (i : Nat) (h : i < l.length) : 0 ≤ costW l i ∧ costW l i ≤ 1000 := by
  have := (wayOk_iff n _).1 (hx _ (rd_T30_mem l i h))
  unfold costW
  omega
theorem FirstB.congr {p q : Nat → Int} {v : Int} (h : FirstB n l p v f) (e : ∀ i, i < l.length → p i = q i) : FirstB n l q v f := by
  have hc : ∀ g, BrB n l g → costF n p g = costF n q g := fun g hg => costF_congr fun c c0 c1 => e _ (hg.on c c0 c1).1
  exact ⟨h.is, (hc f h.is) ▸ h.cost, fun g hg => (hc g hg) ▸ h.least g hg, fun g hg hv => h.ahead g hg ((hc g hg).trans hv)⟩
/-- Branching. -/
theorem branching_spec (hr : readB (n : Int) l = 0) :
    (∃ f v, FirstB n l (costW l) v f ∧ ∀ k, 3000 ≤ k → branch_Branching.f k (n : Int) l = some (listB n l f, v, 0)) ∨
    ((∀ f, ¬ BrB n l f) ∧ ∀ k, 3000 ≤ k → branch_Branching.f k (n : Int) l = some ([], 0, 10)) := by
  obtain ⟨h2, h7, h30, hx⟩ := readB_ok hr
  have hstep : ∀ k, 3000 ≤ k → branch_Branching.f k (n : Int) l = branch_town_first.f k (n : Int) l (costL l) := by
    intro k hk
    unfold branch_Branching.f branch_read.f
    rw [hr, Option.bind_some, if_pos rfl, costs_f _ l h30 k (by omega), Option.bind_some]
  have hp : ∀ i : Nat, i < l.length → 0 ≤ rd (costL l) (i : Int) ∧ rd (costL l) (i : Int) ≤ 1000 := fun i hi => by rw [costL_rd l i hi]; exact cost_low hx i hi
  rcases first_spec (n := n) (by omega) (by omega) h30 hx (costL l) (costL_length l) hp with ⟨f, v, hf, hk⟩ | ⟨hno, hk⟩
  · exact .inl ⟨f, v, hf.congr fun i hi => costL_rd l i hi, fun k h => (hstep k h).trans (hk k h)⟩
  · exact .inr ⟨hno, fun k h => (hstep k h).trans (hk k h)⟩
theorem costF_neg (hn : 1 ≤ n) (M : Int) (p : Nat → Int) (f : Nat → Nat) : costF n (fun i => M - p i) f = ((n : Int) - 1) * M - costF n p f := by
  unfold costF
  have key : ∀ m, 1 ≤ m → sumZ (fun c => if c = 0 then 0 else M - p (f c)) m = ((m : Int) - 1) * M - sumZ (fun c => if c = 0 then 0 else p (f c)) m := by
    intro m
    induction m with
    | zero => intro h; omega
    | succ m ih =>
      intro _
      simp only [sumZ]
      by_cases e : m = 0
      · subst e; simp [sumZ]
      · rw [ih (by omega), if_neg e, if_neg e]
        have : (((m + 1 : Nat) : Int) - 1) * M = ((m : Int) - 1) * M + M := by
          rw [show ((m + 1 : Nat) : Int) - 1 = ((m : Int) - 1) + 1 by omega, Int.add_mul, Int.one_mul]
        omega
  exact key n hn
theorem costF_low (hn1 : 1 ≤ n) (hn : n ≤ 7) {p : Nat → Int} (hp : ∀ i, i < l.length → 0 ≤ p i ∧ p i ≤ 1000) (hf : BrB n l f) : 0 ≤ costF n p f ∧ costF n p f ≤ 6000 := by
  refine ⟨costF_nonneg fun c c0 c1 => (hp _ (hf.on c c0 c1).1).1, ?_⟩
  have h2 := costF_nonneg (n := n) (p := fun i => 1000 - p i) (f := f) fun c c0 c1 => by have := (hp _ (hf.on c c0 c1).1).2; omega
  rw [costF_neg hn1] at h2
  omega
/-- Dear: the first branching of the least sum of what lacks to 1000. -/
theorem dear_spec (hr : readB (n : Int) l = 0) :
    (∃ f v, FirstB n l (fun i => 1000 - costW l i) (((n : Int) - 1) * 1000 - v) f ∧ ∀ k, 3000 ≤ k → branch_Dear.f k (n : Int) l = some (listB n l f, v, 0)) ∨
    ((∀ f, ¬ BrB n l f) ∧ ∀ k, 3000 ≤ k → branch_Dear.f k (n : Int) l = some ([], 0, 10)) := by
  obtain ⟨h2, h7, h30, hx⟩ := readB_ok hr
  have hw : wrap64 ((n : Int) - 1) = (n : Int) - 1 := by unfold wrap64; omega
  have hstep : ∀ k, 3000 ≤ k → branch_Dear.f k (n : Int) l = (branch_town_first.f k (n : Int) l (dearB (costL l))).bind fun r => if r.2.2 = 0 then some (r.1, wrap64 (wrap64 (((n : Int) - 1) * 1000) - r.2.1), 0) else some ([], 0, r.2.2) := by
    intro k hk
    unfold branch_Dear.f branch_read.f
    rw [hr, Option.bind_some, if_pos rfl, costs_f _ l h30 k (by omega), Option.bind_some, if_pos (by rw [costL_length]; omega), hw]
  have hrd : ∀ i : Nat, i < l.length → rd (dearB (costL l)) (i : Int) = 1000 - costW l i := by
    intro i hi
    have h1 := cost_low hx i hi
    have h2 := costL_rd l i hi
    have h3 : rd (dearB (costL l)) (i : Int) = wrap64 (1000 - rd (costL l) (i : Int)) := by
      have hl : i < (costL l).length := by rw [costL_length]; exact hi
      simp [rd, dearB, List.getD, List.getElem?_eq_getElem hl]
    rw [h3, h2]
    unfold wrap64; omega
  have hp : ∀ i : Nat, i < l.length → 0 ≤ rd (dearB (costL l)) (i : Int) ∧ rd (dearB (costL l)) (i : Int) ≤ 1000 := fun i hi => by
    rw [hrd i hi]; have := cost_low hx i hi; omega
  rcases first_spec (n := n) (by omega) (by omega) h30 hx (dearB (costL l)) (by rw [dearB_length, costL_length]) hp with ⟨f, v, hf, hk⟩ | ⟨hno, hk⟩
  · have hf2 := hf.congr (q := fun i => 1000 - costW l i) fun i hi => hrd i hi
    refine .inl ⟨f, ((n : Int) - 1) * 1000 - v, ?_, fun k h => ?_⟩
    · rw [show ((n : Int) - 1) * 1000 - (((n : Int) - 1) * 1000 - v) = v by omega]
      exact hf2
    · have hb := costF_low (n := n) (p := fun i => 1000 - costW l i) (by omega) (by omega) (fun i hi => by have := cost_low hx i hi; omega) hf2.is
      rw [hf2.cost] at hb
      rw [hstep k h, hk k h, Option.bind_some, if_pos rfl]
      refine congrArg some (Prod.ext rfl (Prod.ext ?_ rfl))
      show wrap64 (wrap64 (((n : Int) - 1) * 1000) - v) = ((n : Int) - 1) * 1000 - v
      unfold wrap64; omega
  · refine .inr ⟨hno, fun k h => ?_⟩
    rw [hstep k h, hk k h]
    rfl
end
end Go.Proofs.Ytpmadffgdfholaa.B
namespace Go.Proofs.Ytpmadffgdfholaa.B
set_option linter.unusedVariables false
open Go.RowKit Go.Proofs.YtpmadffgdfholaaW.PrintWords Go.Proofs.YtpmadffgdfholaaW.PrintLast Go.Proofs.YtpmadffgdfholaaW.PrintMore
theorem wrap_shift (x k : Int) : wrap64 (x + k * 18446744073709551616) = wrap64 x := by unfold wrap64; omega
theorem wrap_form (x : Int) : ∃ k, wrap64 x = x + k * 18446744073709551616 := ⟨-((x + 9223372036854775808) / 18446744073709551616), by unfold wrap64; omega⟩
theorem wrap_mul (a b : Int) : wrap64 (wrap64 a * b) = wrap64 (a * b) := by
  obtain ⟨k, hk⟩ := wrap_form a
  rw [hk, Int.add_mul, show k * 18446744073709551616 * b = (k * b) * 18446744073709551616 by rw [Int.mul_assoc, Int.mul_assoc, Int.mul_comm 18446744073709551616 b], wrap_shift]
theorem wrap_mul2 (a b : Int) : wrap64 (a * wrap64 b) = wrap64 (a * b) := by rw [Int.mul_comm, wrap_mul, Int.mul_comm]
theorem wrap_add (a b : Int) : wrap64 (a + wrap64 b) = wrap64 (a + b) := by
  obtain ⟨k, hk⟩ := wrap_form b
  rw [hk, ← Int.add_assoc, wrap_shift]
theorem wrap_wrap (a : Int) : wrap64 (wrap64 a) = wrap64 a := by
  have := wrap_add 0 a
  rwa [Int.zero_add, Int.zero_add] at this
def colsOf (cols : List Int) : List (List Int → Int) := cols.map fun c r => rd r c
theorem loop_wrap (r cols : List Int) (D : Nat → Int) (E : List (List Int → Int) → Int) (hD : ∀ p, p < cols.length → D p = wrap64 (E (colsOf (cut1 cols p)))) : ∀ (d p : Nat) (s g : Int), p + d = cols.length → (g = 1 ∨ g = -1) → wrap64 s = s →
    loopD r cols D d p s g = wrap64 (s + g * exD r E (colsOf (cols.take p)) (colsOf (cols.drop p)))
  | 0, p, s, g, h, _, hs => by
    rw [loopD, List.drop_eq_nil_of_le (by omega)]
    simp [colsOf, exD, hs]
  | d + 1, p, s, g, h, hg, hs => by
    have hp : p < cols.length := by omega
    have hng : wrap64 (-g) = -g := by rcases hg with rfl | rfl <;> decide +kernel
    have ih := fun s hs => loop_wrap r cols D E hD d (p + 1) s (-g) (by omega) (by omega) hs
    have hdrop : cols.drop p = rd cols (p : Int) :: cols.drop (p + 1) := drop_rdI4 cols p hp
    have htake : cols.take (p + 1) = cols.take p ++ [rd cols (p : Int)] := by
      rw [List.take_add_one, List.getElem?_eq_getElem hp]
      simp [rd, List.getD, List.getElem?_eq_getElem hp]
    have e1 : exD r E (colsOf (cols.take p)) (colsOf (cols.drop p)) = rd r (rd cols (p : Int)) * E (colsOf (cut1 cols p)) - exD r E (colsOf (cols.take (p + 1))) (colsOf (cols.drop (p + 1))) := by
      rw [hdrop, htake]
      simp only [colsOf, List.map_cons, List.map_append, exD, List.map_nil, cut1]
    rw [loopD, hng, e1]
    generalize exD r E (colsOf (cols.take (p + 1))) (colsOf (cols.drop (p + 1))) = z at ih
    by_cases h0 : rd r (rd cols (p : Int)) = 0
    · rw [if_pos h0, ih s hs, h0, Int.zero_mul]
      congr 1
      rw [Int.mul_sub, Int.mul_zero, Int.neg_mul]
      omega
    · rw [if_neg h0, ih _ (wrap_wrap _), hD p hp, wrap_mul2, wrap_mul, wrap_add, Int.add_comm (wrap64 _), wrap_add]
      congr 1
      rw [Int.mul_sub, Int.neg_mul, Int.mul_assoc]
      omega
theorem detW_wrap : ∀ (rows : List (List Int)) (cols : List Int), rows.length = cols.length → detW rows cols = wrap64 (detC rows (colsOf cols))
  | [], cols, h => by
    obtain rfl : cols = [] := by cases cols with | nil => rfl | cons _ _ => exact absurd h (by simp)
    show (1 : Int) = wrap64 1
    decide +kernel
  | r :: rows, cols, h => by
    rw [detW, loop_wrap r cols _ (detC rows) (fun p hp => detW_wrap rows (cut1 cols p) (by rw [cut1_length cols p hp]; simp at h; omega)) cols.length 0 0 1 (by omega) (.inl rfl) (by decide +kernel)]
    rw [List.take_zero, List.drop_zero, Int.zero_add, Int.one_mul]
    rfl
def entT (X : List (List Int)) (r c : Nat) : Int := rd (rd_L12 X ((r - 1 : Nat) : Int)) ((c - 1 : Nat) : Int)
theorem rd_L12_set (X : List (List Int)) (R : List Int) (i j : Nat) (h : j < X.length) : rd_L12 (X.set j R) (i : Int) = if i = j then R else rd_L12 X (i : Int) := by
  simp only [rd_L12, Int.toNat_natCast, List.getD, List.getElem?_set]
  by_cases e : j = i
  · subst e; simp [h]
  · rw [if_neg e, if_neg (fun h => e h.symm)]
theorem entT_put {m : Nat} {X : List (List Int)} (hX : Sq m X) (p q : Nat) (hp : 1 ≤ p ∧ p ≤ m) (hq : 1 ≤ q ∧ q ≤ m) (v : Int) (r c : Nat) (hr : 1 ≤ r ∧ r ≤ m) (hc : 1 ≤ c ∧ c ≤ m) :
    entT (X.set (p - 1) ((rd_L12 X ((p - 1 : Nat) : Int)).set (q - 1) v)) r c = if r = p ∧ c = q then v else entT X r c := by
  unfold entT
  rw [rd_L12_set X _ (r - 1) (p - 1) (by rw [hX.1]; omega)]
  by_cases e : r = p
  · subst e
    rw [if_pos rfl, rd_set _ (q - 1) (c - 1) v (by rw [sq_row hX _ (by omega) (by omega)]; omega)]
    by_cases e2 : c = q
    · subst e2; rw [if_pos rfl, if_pos ⟨rfl, rfl⟩]
    · rw [if_neg (by omega), if_neg (fun h => e2 h.2)]
  · rw [if_neg (by omega), if_neg (fun h => e h.1)]
section
variable {n m : Nat} {l : List S30}
theorem entT_step (hm : m ≤ 6) (hn : n = m + 1) {X : List (List Int)} (hX : Sq m X) {x : S30} (hx : wayOk n x = true) (hb : ∀ r c, 1 ≤ r → r ≤ m → 1 ≤ c → c ≤ m → -1000 ≤ entT X r c ∧ entT X r c ≤ 1000) (r c : Nat) (hr : 1 ≤ r ∧ r ≤ m) (hc : 1 ≤ c ∧ c ≤ m) :
    entT (stepT X x) r c = entT X r c + if x.f1.toNat = c then unitC c r - unitC x.f0.toNat r else 0 := by
  obtain ⟨h1, h2, h3, h4, h5, _⟩ := (wayOk_iff n x).1 hx
  unfold stepT
  by_cases t1 : x.f1 > 0
  · rw [if_pos t1]
    have e1 : wrap64 (x.f1 - 1) = ((x.f1.toNat - 1 : Nat) : Int) := by unfold wrap64; omega
    have hA : stepA X x = X.set (x.f1.toNat - 1) ((rd_L12 X ((x.f1.toNat - 1 : Nat) : Int)).set (x.f1.toNat - 1) (wrap64 (entT X x.f1.toNat x.f1.toNat + 1))) := by
      unfold stepA entT
      rw [e1, Int.toNat_natCast]
    have hSA : Sq m (stepA X x) := stepA_sq hX t1 (by omega) hm
    have hbb := hb x.f1.toNat x.f1.toNat (by omega) (by omega) (by omega) (by omega)
    have hwA : wrap64 (entT X x.f1.toNat x.f1.toNat + 1) = entT X x.f1.toNat x.f1.toNat + 1 := by unfold wrap64; omega
    have hentA : ∀ r c, 1 ≤ r ∧ r ≤ m → 1 ≤ c ∧ c ≤ m → entT (stepA X x) r c = entT X r c + if x.f1.toNat = c then unitC c r else 0 := by
      intro r c hr hc
      rw [hA, entT_put hX _ _ (by omega) (by omega) _ r c hr hc, hwA]
      unfold unitC
      by_cases e : r = x.f1.toNat ∧ c = x.f1.toNat
      · rw [if_pos e, e.1, e.2, if_pos rfl, if_pos rfl]
      · rw [if_neg e]
        by_cases e2 : x.f1.toNat = c
        · rw [if_pos e2, if_neg (by omega)]; omega
        · rw [if_neg e2]; omega
    by_cases t0 : x.f0 > 0
    · rw [if_pos t0]
      have e0 : wrap64 (x.f0 - 1) = ((x.f0.toNat - 1 : Nat) : Int) := by unfold wrap64; omega
      have hB : stepB (stepA X x) x = (stepA X x).set (x.f0.toNat - 1) ((rd_L12 (stepA X x) ((x.f0.toNat - 1 : Nat) : Int)).set (x.f1.toNat - 1) (wrap64 (entT (stepA X x) x.f0.toNat x.f1.toNat - 1))) := by
        unfold stepB entT
        rw [e1, e0, Int.toNat_natCast, Int.toNat_natCast]
      have hv := hentA x.f0.toNat x.f1.toNat (by omega) (by omega)
      have hub : unitC x.f1.toNat x.f0.toNat = 0 := if_neg (by omega)
      rw [if_pos rfl, hub] at hv
      have hbv := hb x.f0.toNat x.f1.toNat (by omega) (by omega) (by omega) (by omega)
      have hwB : wrap64 (entT (stepA X x) x.f0.toNat x.f1.toNat - 1) = entT X x.f0.toNat x.f1.toNat - 1 := by rw [hv]; unfold wrap64; omega
      rw [hB, entT_put hSA _ _ (by omega) (by omega) _ r c hr hc, hwB]
      by_cases e : r = x.f0.toNat ∧ c = x.f1.toNat
      · rw [if_pos e, if_pos e.2.symm, e.1, e.2, hub]
        unfold unitC
        rw [if_pos rfl]; omega
      · rw [if_neg e, hentA r c hr hc]
        by_cases e2 : x.f1.toNat = c
        · rw [if_pos e2, if_pos e2]
          have : unitC x.f0.toNat r = 0 := if_neg (fun h => e ⟨h, e2.symm⟩)
          rw [this]; omega
        · rw [if_neg e2, if_neg e2]
    · rw [if_neg t0, hentA r c hr hc]
      by_cases e2 : x.f1.toNat = c
      · rw [if_pos e2, if_pos e2]
        have : unitC x.f0.toNat r = 0 := if_neg (by omega)
        rw [this]; omega
      · rw [if_neg e2, if_neg e2]
  · rw [if_neg t1, if_neg (by omega)]; omega
theorem fullC_bound (a b : Nat → Nat) (c r : Nat) : ∀ i : Nat, -(i : Int) ≤ fullC a b i c r ∧ fullC a b i c r ≤ i
  | 0 => by simp [fullC, sumZ]
  | i + 1 => by
    have ih := fullC_bound a b c r i
    unfold fullC at ih ⊢
    simp only [sumZ]
    have : ∀ d, unitC d r = 0 ∨ unitC d r = 1 := fun d => by unfold unitC; split <;> simp
    have h1 := this c
    have h2 := this (a i)
    split <;> omega
theorem entT_fold (hm : m ≤ 6) (hn : n = m + 1) (hl : l.length ≤ 30) (hx : ∀ x ∈ l, wayOk n x = true) : ∀ i, i ≤ l.length → Sq m ((l.take i).foldl stepT (List.replicate m (zeros m))) ∧ ∀ r c, 1 ≤ r → r ≤ m → 1 ≤ c → c ≤ m → entT ((l.take i).foldl stepT (List.replicate m (zeros m))) r c = fullC (aW l) (bW l) i c r
  | 0, _ => by
    have hz : Sq m (List.replicate m (zeros m)) := ⟨by simp, fun r h => by rw [List.eq_of_mem_replicate h]; simp [zeros]⟩
    refine ⟨hz, fun r c r1 r2 c1 c2 => ?_⟩
    rw [List.take_zero, List.foldl_nil]
    have : rd_L12 (List.replicate m (zeros m)) ((r - 1 : Nat) : Int) = zeros m := by
      simp [rd_L12, List.getD, show r - 1 < m by omega]
    unfold entT
    rw [this]
    simp [zeros, rd, List.getD, fullC, sumZ, show c - 1 < m by omega]
  | i + 1, hi => by
    obtain ⟨h1, h2⟩ := entT_fold hm hn hl hx i (by omega)
    have hok := hx _ (rd_T30_mem l i (by omega))
    have hlt : i < l.length := by omega
    have htake : l.take (i + 1) = l.take i ++ [rd_T30 l (i : Int)] := by
      rw [List.take_add_one, List.getElem?_eq_getElem hlt]
      simp [rd_T30, List.getD, List.getElem?_eq_getElem hlt]
    rw [htake, List.foldl_append, List.foldl_cons, List.foldl_nil]
    refine ⟨stepT_sq h1 (n := (n : Int)) (by omega) hm hok, fun r c r1 r2 c1 c2 => ?_⟩
    rw [entT_step hm hn h1 hok (fun r c r1 r2 c1 c2 => by rw [h2 r c r1 r2 c1 c2]; have := fullC_bound (aW l) (bW l) c r i; omega) r c ⟨r1, r2⟩ ⟨c1, c2⟩, h2 r c r1 r2 c1 c2]
    rfl
theorem det_table (hm : m ≤ 6) (hn : n = m + 1) (hl : l.length ≤ 30) (hx : ∀ x ∈ l, wayOk n x = true) : detC (l.foldl stepT (List.replicate m (zeros m))) (colsOf ((List.range m).map fun q : Nat => (q : Int))) = detN m (fullC (aW l) (bW l) l.length) := by
  obtain ⟨h1, h2⟩ := entT_fold hm hn hl hx l.length (Nat.le_refl _)
  rw [List.take_length] at h1 h2
  generalize l.foldl stepT (List.replicate m (zeros m)) = M at h1 h2
  have hM : M = ((List.range m).map fun j => j + 1).map fun r => rd_L12 M ((r - 1 : Nat) : Int) := by
    refine List.ext_getElem (by simp [h1.1]) fun i g1 g2 => ?_
    simp only [List.getElem_map, List.getElem_range, Nat.add_sub_cancel]
    exact (rd_L12_at M i g1).symm
  have hcols : ((colsOf ((List.range m).map fun q : Nat => (q : Int))).map fun u => u ∘ fun r : Nat => rd_L12 M ((r - 1 : Nat) : Int)) = (List.range m).map fun (q r : Nat) => rd (rd_L12 M ((r - 1 : Nat) : Int)) (q : Int) := by
    unfold colsOf
    rw [List.map_map, List.map_map]
    rfl
  have h3 := detC_map (fun r : Nat => rd_L12 M ((r - 1 : Nat) : Int)) ((List.range m).map fun j => j + 1) (colsOf ((List.range m).map fun q : Nat => (q : Int)))
  rw [hcols, ← hM] at h3
  rw [h3]
  unfold detN
  refine detC_same _ _ _ (by simp) fun i g1 g2 r hr => ?_
  obtain ⟨j, hj, rfl⟩ := List.mem_map.1 hr
  have hj := List.mem_range.1 hj
  simp at g1
  simp only [List.getElem_map, List.getElem_range]
  have := h2 (j + 1) (i + 1) (by omega) (by omega) (by omega) (by omega)
  unfold entT at this
  rw [Nat.add_sub_cancel] at this
  rw [Nat.add_sub_cancel] at this
  rw [Nat.add_sub_cancel]
  exact this
/-- One branching counts 1, and what is none 0. -/
def leafB (n : Nat) (l : List S30) (f : Nat → Nat) : Int := detN (n - 1) (colP fun c => aW l (f c))
theorem aW_small (hn : 1 ≤ n) (hx : ∀ x ∈ l, wayOk n x = true) (i : Nat) : aW l i < n := by
  by_cases h : i < l.length
  · exact (bW_eq hx i h).2.2.2
  · have : rd_T30 l (i : Int) = z30 := by simp [rd_T30, List.getD, List.getElem?_eq_none (show l.length ≤ i by omega)]
    unfold aW
    rw [this]
    exact hn
theorem leafB_cases (hn : 1 ≤ n) (hx : ∀ x ∈ l, wayOk n x = true) (f : Nat → Nat) : (leafB n l f = 1 ∧ ∀ c, 0 < c → c < n → ∃ k, itP (fun c => aW l (f c)) k c = 0) ∨ (leafB n l f = 0 ∧ ¬ ∀ c, 0 < c → c < n → ∃ k, itP (fun c => aW l (f c)) k c = 0) := by
  have hπ : ∀ c, 1 ≤ c → c ≤ n - 1 → aW l (f c) ≤ n - 1 := fun c _ _ => by have := aW_small hn hx (f c); omega
  by_cases h : ∀ c, 0 < c → c < n → ∃ k, itP (fun c => aW l (f c)) k c = 0
  · exact .inl ⟨det_hung hπ fun c c1 c2 => h c (by omega) (by omega), h⟩
  · refine .inr ⟨?_, h⟩
    obtain ⟨c, c0, c1, hc⟩ : ∃ c, 0 < c ∧ c < n ∧ ∀ k, itP (fun c => aW l (f c)) k c ≠ 0 := by
      refine Classical.byContradiction fun hno => h fun c c0 c1 => ?_
      refine Classical.byContradiction fun h2 => hno ⟨c, c0, c1, fun k hk => h2 ⟨k, hk⟩⟩
    exact det_ring hπ (c := c) (by omega) (by omega) hc
/-- The number of the branchings. -/
def cntL (n : Nat) (l : List S30) : Int := cntB (leafB n l) (bW l) l.length (n - 1) 1 (fun _ => 0)
theorem leafB_01 (hn : 1 ≤ n) (hx : ∀ x ∈ l, wayOk n x = true) (f : Nat → Nat) : 0 ≤ leafB n l f ∧ leafB n l f ≤ 1 := by
  rcases leafB_cases hn hx f with ⟨h, _⟩ | ⟨h, _⟩ <;> rw [h] <;> decide
/-- Count. -/
theorem count_spec (hr : readB (n : Int) l = 0) : 0 ≤ cntL n l ∧ ∃ K, ∀ k, K ≤ k → branch_Count.f k (n : Int) l = some (cntL n l, 0) := by
  obtain ⟨h2, h7, h30, hx⟩ := readB_ok hr
  obtain ⟨m, rfl⟩ : ∃ m, n = m + 1 := ⟨n - 1, by omega⟩
  have hm : m ≤ 6 := by omega
  have hni : ((m + 1 : Nat) : Int) = (m : Int) + 1 := rfl
  have h0 := cntB_nonneg (b := bW l) (fun f => (leafB_01 (by omega) hx f).1) l.length (m + 1 - 1) 1 (fun _ => 0)
  have h1 := cntB_bound (b := bW l) (fun f => (leafB_01 (by omega) hx f).2) l.length (m + 1 - 1) 1 (fun _ => 0)
  refine ⟨h0, ?_⟩
  have hz : Sq m (List.replicate m (zeros m)) := ⟨by simp, fun r h => by rw [List.eq_of_mem_replicate h]; simp [zeros]⟩
  have hM := fold_sq (n := ((m + 1 : Nat) : Int)) hni hm l _ hz hx
  have hdet := det_table (l := l) hm rfl h30 hx
  have hcl : ((List.range m).map fun q : Nat => (q : Int)).length = m := by simp
  obtain ⟨K2, hk2⟩ := code_det (l.foldl stepT (List.replicate m (zeros m))) ((List.range m).map fun q : Nat => (q : Int)) (by rw [hM.1, hcl]) (by omega)
  rw [rows_self hM] at hk2
  have hcount : detN m (fullC (aW l) (bW l) l.length) = cntL (m + 1) l := by
    have h3 := det_count (a := aW l) (b := bW l) l.length m m 1 (fun _ => 0) (by omega) (by omega)
    have h4 : partC (aW l) (bW l) l.length (fun _ => 0) 1 = partC (aW l) (bW l) l.length (fun _ => 0) 1 := rfl
    unfold cntL leafB
    rw [Nat.add_sub_cancel, ← h3]
    refine detN_congr m fun c r c1 _ _ _ => ?_
    unfold partC
    rw [if_neg (by omega)]
  have hb : (l.length : Int) ^ (m + 1 - 1) ≤ 1000000000 := by
    have h5 : l.length ^ m ≤ 30 ^ 6 := Nat.le_trans (Nat.pow_le_pow_left h30 m) (Nat.pow_le_pow_right (by decide) hm)
    have h6 : ((l.length : Int) ^ m) = ((l.length ^ m : Nat) : Int) := by norm_cast
    rw [Nat.add_sub_cancel, h6]
    omega
  have hval : detW (l.foldl stepT (List.replicate m (zeros m))) ((List.range m).map fun q : Nat => (q : Int)) = cntL (m + 1) l := by
    rw [detW_wrap _ _ (by rw [hM.1, hcl]), hdet, hcount]
    unfold cntL at h0 h1 ⊢
    unfold wrap64
    omega
  refine ⟨K2 + l.length + m + 2, fun k hk => ?_⟩
  unfold branch_Count.f branch_read.f
  rw [hr, Option.bind_some, if_pos rfl, wrap_n hni hm, if_pos (by omega), if_pos (by simp only [Int.toNat_natCast]; omega), Option.bind_some]
  have c0 := count_l0 (l := l) hni hm m 0 (k - m - 1) (by omega)
  rw [show k - m - 1 + m + 1 = k from by omega, Nat.sub_zero, List.replicate_zero, List.nil_append] at c0
  have c1 := count_l1 hni hm h30 hx l.length 0 (k - m - 1 - l.length - 1) (List.replicate m (zeros m)) (by omega) hz
  rw [show k - m - 1 - l.length - 1 + l.length + 1 = k - m - 1 from by omega, List.drop_zero, hk2 _ (by omega), Option.bind_some] at c1
  rw [List.length_replicate, Int.toNat_natCast, ← hval]
  exact c0.trans c1
end
end Go.Proofs.Ytpmadffgdfholaa.B
namespace Go.Proofs.Ytpmadffgdfholaa.B
set_option linter.unusedVariables false
open Go.RowKit Go.Proofs.YtpmadffgdfholaaW.PrintWords Go.Proofs.YtpmadffgdfholaaW.PrintLast Go.Proofs.YtpmadffgdfholaaW.PrintMore
/-- How many of a list are not gone. -/
def keptL (g : Int → Bool) (E : List Int) : Nat := (E.filter fun i => !g i).length
/-- How many streets, not gone, enter the set s. -/
def entN (l : List S30) (g : Int → Bool) (s : Nat) : Nat := keptL g (entL l s)
theorem keptL_le (g : Int → Bool) (E : List Int) : keptL g E ≤ E.length := List.length_filter_le _ _
section
variable {n : Nat} {l : List S30}
def nrEnd (n : Int) (l : List S30) (k : Nat) (o : Int → Option Bool) (x6 x7 x8 m : Int) : Option (Int × Int) :=
  if x6 < 0 then branch_town_narrow.l0 k o m x8 (wrap64 (x8 + 2)) n l else if m < x6 then branch_town_narrow.l0 k o m x8 (wrap64 (x8 + 2)) n l else branch_town_narrow.l0 k o x6 x7 (wrap64 (x8 + 2)) n l
theorem nr_l1 (o : Int → Option Bool) (g : Int → Bool) (x6 x7 x8 : Int) (E : List Int) (ho : ∀ x ∈ E, o x = some (g x)) (hE : E.length < 1000) : ∀ (d q k acc : Nat), q + d = E.length → acc ≤ q →
    branch_town_narrow.l1 (k + d + 1) o x6 x7 x8 (acc : Int) E (E.length : Int) (q : Int) (n : Int) l = nrEnd (n : Int) l k o x6 x7 x8 ((acc + keptL g (E.drop q) : Nat) : Int)
  | 0, q, k, acc, h, _ => by
    rw [show k + 0 + 1 = k + 1 from rfl, branch_town_narrow.l1, if_neg (by omega), List.drop_eq_nil_of_le (by omega)]
    rfl
  | d + 1, q, k, acc, h, ha => by
    have hq : q < E.length := by omega
    have hw := wrap_nat q (by omega)
    have hw2 := wrap_nat acc (by omega)
    have hox := ho _ (rd_mem4 E q hq)
    rw [show k + (d + 1) + 1 = (k + d + 1) + 1 from by omega, branch_town_narrow.l1, if_pos (by omega), if_pos (by omega), if_pos (by omega), hox, Option.bind_some, drop_rdI4 E q hq, hw, hw2]
    unfold keptL
    by_cases hg : g (rd E (q : Int)) = true
    · rw [if_pos hg, List.filter_cons_of_neg (by rw [hg]; decide)]
      exact nr_l1 o g x6 x7 x8 E ho hE d (q + 1) k acc (by omega) (by omega)
    · rw [if_neg hg, List.filter_cons_of_pos (by rw [Bool.not_eq_true] at hg; rw [hg]; rfl), List.length_cons]
      have := nr_l1 o g x6 x7 x8 E ho hE d (q + 1) k (acc + 1) (by omega) (by omega)
      rw [this]
      unfold keptL
      rw [show acc + 1 + ((E.drop (q + 1)).filter fun i => !g i).length = acc + (((E.drop (q + 1)).filter fun i => !g i).length + 1) by omega]
/-- The least of the sets 2, 4, .., 2 j. -/
structure LeastS (l : List S30) (g : Int → Bool) (j : Nat) (x6 x7 : Int) : Prop where
  pos : 1 ≤ j
  set : ∃ t, 1 ≤ t ∧ t ≤ j ∧ x7 = ((2 * t : Nat) : Int) ∧ x6 = ((entN l g (2 * t) : Nat) : Int) ∧ ∀ u, 1 ≤ u → u < t → entN l g (2 * t) < entN l g (2 * u)
  low : ∀ u, 1 ≤ u → u ≤ j → x6 ≤ ((entN l g (2 * u) : Nat) : Int)
theorem nr_l0 (hn1 : 2 ≤ n) (hn : n ≤ 7) (hl : l.length ≤ 30) (hx : ∀ x ∈ l, wayOk n x = true) (o : Int → Option Bool) (g : Int → Bool) (ho : ∀ i : Nat, i < l.length → o (i : Int) = some (g (i : Int))) (p : Nat) (hp : 2 ^ n = 2 * p) : ∀ (d j : Nat) (x6 x7 : Int), j + d = p - 1 → (j = 0 ∧ x6 = -1 ∧ x7 = 0 ∨ LeastS l g j x6 x7) →
    ∃ y6 y7, LeastS l g (p - 1) y6 y7 ∧ ∀ k, 100 + 40 * d ≤ k → branch_town_narrow.l0 k o x6 x7 ((2 * (j + 1) : Nat) : Int) (n : Int) l = some (y6, y7)
  | 0, j, x6, x7, h, hI => by
    have hp2 : 2 ≤ p := by
      have : 2 ^ 2 ≤ 2 ^ n := Nat.pow_le_pow_right (by decide) hn1
      omega
    have hp7 : 2 ^ n ≤ 2 ^ 7 := Nat.pow_le_pow_right (by decide) hn
    have hL : LeastS l g j x6 x7 := by
      rcases hI with ⟨h0, _⟩ | h
      · omega
      · exact h
    refine ⟨x6, x7, by rw [show p - 1 = j by omega]; exact hL, fun k hk => ?_⟩
    obtain ⟨k, rfl⟩ : ∃ k', k = k' + 1 := ⟨k - 1, by omega⟩
    have hz : ((2 : Int) ^ n) = ((2 ^ n : Nat) : Int) := by norm_cast
    rw [branch_town_narrow.l0, everybody_f hn, Option.bind_some, if_neg (by rw [hz]; omega)]
  | d + 1, j, x6, x7, h, hI => by
    have hp7 : 2 ^ n ≤ 2 ^ 7 := Nat.pow_le_pow_right (by decide) hn
    have hz : ((2 : Int) ^ n) = ((2 ^ n : Nat) : Int) := by norm_cast
    have hs7 : 2 * (j + 1) < 128 := by omega
    have hE := fun k (hk : 40 ≤ k) => entering_f (n := n) hn hl hx hs7 k hk
    have hEl := entL_length l (2 * (j + 1))
    have hEn := entL_nat l (2 * (j + 1))
    have hw : wrap64 (((2 * (j + 1) : Nat) : Int) + 2) = ((2 * (j + 1 + 1) : Nat) : Int) := by unfold wrap64; omega
    have hstep : ∀ k, 100 ≤ k → branch_town_narrow.l0 k o x6 x7 ((2 * (j + 1) : Nat) : Int) (n : Int) l = nrEnd (n : Int) l (k - (entL l (2 * (j + 1))).length - 2) o x6 x7 ((2 * (j + 1) : Nat) : Int) ((entN l g (2 * (j + 1)) : Nat) : Int) := by
      intro k hk
      obtain ⟨k, rfl⟩ : ∃ k', k = k' + 1 := ⟨k - 1, by omega⟩
      have h1 := nr_l1 (n := n) (l := l) o g x6 x7 ((2 * (j + 1) : Nat) : Int) (entL l (2 * (j + 1))) (fun x hxE => by obtain ⟨i, rfl, hi⟩ := hEn x hxE; exact ho i hi) (by omega) (entL l (2 * (j + 1))).length 0 (k - (entL l (2 * (j + 1))).length - 1) 0 (by omega) (by omega)
      rw [show k - (entL l (2 * (j + 1))).length - 1 + (entL l (2 * (j + 1))).length + 1 = k from by omega, List.drop_zero, Nat.zero_add] at h1
      rw [branch_town_narrow.l0, everybody_f hn, Option.bind_some, if_pos (by rw [hz]; omega), hE k (by omega), Option.bind_some]
      rw [show k + 1 - (entL l (2 * (j + 1))).length - 2 = k - (entL l (2 * (j + 1))).length - 1 from by omega]
      exact h1
    by_cases hless : x6 < 0 ∨ ((entN l g (2 * (j + 1)) : Nat) : Int) < x6
    · have hL : LeastS l g (j + 1) ((entN l g (2 * (j + 1)) : Nat) : Int) ((2 * (j + 1) : Nat) : Int) := by
        rcases hI with ⟨h0, h6, _⟩ | hI
        · subst h0
          refine ⟨by omega, ⟨1, by omega, by omega, rfl, rfl, fun u h1 h2 => by omega⟩, fun u h1 h2 => ?_⟩
          obtain rfl : u = 1 := by omega
          exact Int.le_refl _
        · obtain ⟨t, t1, t2, t3, t4, t5⟩ := hI.set
          refine ⟨by omega, ⟨j + 1, by omega, by omega, rfl, rfl, fun u h1 h2 => ?_⟩, fun u h1 h2 => ?_⟩
          · have := hI.low u h1 (by omega); omega
          · by_cases e : u = j + 1
            · subst e; exact Int.le_refl _
            · have := hI.low u h1 (by omega); omega
      obtain ⟨y6, y7, hy, hk⟩ := nr_l0 hn1 hn hl hx o g ho p hp d (j + 1) _ _ (by omega) (.inr hL)
      refine ⟨y6, y7, hy, fun k hk2 => ?_⟩
      rw [hstep k (by omega)]
      unfold nrEnd
      rw [hw]
      by_cases h0 : x6 < 0
      · rw [if_pos h0]; exact hk _ (by omega)
      · rw [if_neg h0, if_pos (by omega)]; exact hk _ (by omega)
    · have hI : LeastS l g j x6 x7 := by
        rcases hI with ⟨_, h6, _⟩ | hI
        · omega
        · exact hI
      have hL : LeastS l g (j + 1) x6 x7 := by
        obtain ⟨t, t1, t2, t3, t4, t5⟩ := hI.set
        refine ⟨by omega, ⟨t, t1, by omega, t3, t4, t5⟩, fun u h1 h2 => ?_⟩
        by_cases e : u = j + 1
        · subst e; omega
        · exact hI.low u h1 (by omega)
      obtain ⟨y6, y7, hy, hk⟩ := nr_l0 hn1 hn hl hx o g ho p hp d (j + 1) _ _ (by omega) (.inr hL)
      refine ⟨y6, y7, hy, fun k hk2 => ?_⟩
      rw [hstep k (by omega)]
      unfold nrEnd
      rw [hw, if_neg (by omega), if_neg (by omega)]
      exact hk _ (by omega)
/-- The least number of streets that enter a set. -/
structure NarrowS (n : Nat) (l : List S30) (g : Int → Bool) (least at_ : Nat) : Prop where
  set : IsSetN n (at_ : Int)
  val : entN l g at_ = least
  low : ∀ s : Nat, IsSetN n (s : Int) → least ≤ entN l g s
  first : ∀ s : Nat, IsSetN n (s : Int) → entN l g s = least → at_ ≤ s
theorem narrow_spec (hn1 : 2 ≤ n) (hn : n ≤ 7) (hl : l.length ≤ 30) (hx : ∀ x ∈ l, wayOk n x = true) (o : Int → Option Bool) (g : Int → Bool) (ho : ∀ i : Nat, i < l.length → o (i : Int) = some (g (i : Int))) :
    ∃ least at_ : Nat, NarrowS n l g least at_ ∧ ∀ k, 3000 ≤ k → branch_town_narrow.f k (n : Int) l o = some ((least : Int), (at_ : Int)) := by
  obtain ⟨p, hp⟩ : ∃ p, 2 ^ n = 2 * p := ⟨2 ^ (n - 1), by rw [← Nat.pow_succ']; congr 1; omega⟩
  have hp2 : 2 ≤ p := by
    have : 2 ^ 2 ≤ 2 ^ n := Nat.pow_le_pow_right (by decide) hn1
    omega
  have hp7 : 2 ^ n ≤ 2 ^ 7 := Nat.pow_le_pow_right (by decide) hn
  have hz : ((2 : Int) ^ n) = ((2 ^ n : Nat) : Int) := by norm_cast
  obtain ⟨y6, y7, hL, hk⟩ := nr_l0 hn1 hn hl hx o g ho p hp (p - 1) 0 (-1) 0 (by omega) (.inl ⟨rfl, rfl, rfl⟩)
  obtain ⟨t, t1, t2, rfl, rfl, t5⟩ := hL.set
  have hset : ∀ s : Nat, IsSetN n (s : Int) ↔ ∃ u, 1 ≤ u ∧ u ≤ p - 1 ∧ s = 2 * u := by
    intro s
    unfold IsSetN
    rw [hz, Int.toNat_natCast]
    constructor
    · rintro ⟨h0, h1, h2⟩
      refine ⟨s / 2, ?_⟩
      rw [Nat.testBit_zero] at h2
      have := of_decide_eq_false h2
      omega
    · rintro ⟨u, u1, u2, rfl⟩
      refine ⟨by omega, by omega, ?_⟩
      rw [Nat.testBit_zero]
      exact decide_eq_false (by omega)
  refine ⟨entN l g (2 * t), 2 * t, ⟨(hset _).2 ⟨t, t1, t2, rfl⟩, rfl, fun s hs => ?_, fun s hs he => ?_⟩, fun k hk2 => ?_⟩
  · obtain ⟨u, u1, u2, rfl⟩ := (hset s).1 hs
    have := hL.low u u1 u2; omega
  · obtain ⟨u, u1, u2, rfl⟩ := (hset s).1 hs
    have := t5 u u1
    omega
  · unfold branch_town_narrow.f
    exact hk k (by omega)
theorem branchNarrow_spec (hr : readB (n : Int) l = 0) : ∃ least at_ : Nat, NarrowS n l (fun _ => false) least at_ ∧ ∀ k, 3000 ≤ k → branch_Narrow.f k (n : Int) l = some ((least : Int), (at_ : Int), 0) := by
  obtain ⟨h2, h7, h30, hx⟩ := readB_ok hr
  obtain ⟨least, at_, h1, hk⟩ := narrow_spec (n := n) (by omega) (by omega) h30 hx (fun _ => some false) (fun _ => false) (fun _ _ => rfl)
  refine ⟨least, at_, h1, fun k hk2 => ?_⟩
  unfold branch_Narrow.f branch_read.f
  rw [hr, Option.bind_some, if_pos rfl, hk k hk2, Option.bind_some]
end
end Go.Proofs.Ytpmadffgdfholaa.B
namespace Go.Proofs.Ytpmadffgdfholaa.B
set_option linter.unusedVariables false
open Go.RowKit Go.Proofs.YtpmadffgdfholaaW.PrintWords Go.Proofs.YtpmadffgdfholaaW.PrintLast Go.Proofs.YtpmadffgdfholaaW.PrintMore
section
variable {n : Nat} {l : List S30} {x : S30} {f : Nat → Nat}
theorem rd_more (l : List S30) (x : S30) (i : Nat) (h : i < l.length) : rd_T30 (l ++ [x]) (i : Int) = rd_T30 l (i : Int) := by
  simp only [rd_T30, Int.toNat_natCast, List.getD]
  rw [List.getElem?_append_left h]
theorem aW_more (l : List S30) (x : S30) (i : Nat) (h : i < l.length) : aW (l ++ [x]) i = aW l i := by unfold aW; rw [rd_more l x i h]
theorem bW_more (l : List S30) (x : S30) (i : Nat) (h : i < l.length) : bW (l ++ [x]) i = bW l i := by unfold bW; rw [rd_more l x i h]
theorem costW_more (l : List S30) (x : S30) (i : Nat) (h : i < l.length) : costW (l ++ [x]) i = costW l i := by unfold costW; rw [rd_more l x i h]
theorem BrB.ends {l l' : List S30} (hl : l.length ≤ l'.length) (ha : ∀ i, i < l.length → aW l' i = aW l i) (hb : ∀ i, i < l.length → bW l' i = bW l i) (h : BrB n l f) : BrB n l' f := by
  refine ⟨fun c c0 c1 => ?_, fun c hc => ?_⟩
  · obtain ⟨t, tb⟩ := h.on c c0 c1
    exact ⟨by omega, (hb _ t).trans tb⟩
  · have := h.all c hc
    clear hc
    induction this with
    | refl => exact .refl
    | @step i t _ ih =>
      obtain ⟨e, e0, e1, rfl⟩ := t
      have hlt := (h.on e e0 e1).1
      rw [← ha _ hlt] at ih
      have := Rc.step (a := aW l') (b := bW l') (T := fun i => ∃ c, 0 < c ∧ c < n ∧ i = f c) (i := f e) ⟨e, e0, e1, rfl⟩ ih
      rwa [hb _ hlt] at this
theorem BrB.more (h : BrB n l f) : BrB n (l ++ [x]) f := h.ends (by simp) (aW_more l x) (bW_more l x)
theorem entL_more (l : List S30) (x : S30) (s : Nat) : entL (l ++ [x]) s = entL l s ++ (if entB (l ++ [x]) s l.length = true then [(l.length : Int)] else []) := by
  unfold entL
  rw [List.length_append, List.length_singleton, List.range_succ, List.filter_append, List.map_append]
  congr 1
  · congr 1
    refine List.filter_congr fun i hi => ?_
    have := List.mem_range.1 hi
    unfold entB
    rw [aW_more l x i this, bW_more l x i this]
  · by_cases h : entB (l ++ [x]) s l.length = true
    · rw [if_pos h, List.filter_cons_of_pos h]; rfl
    · rw [if_neg h, List.filter_cons_of_neg h]; rfl
theorem entN_more (l : List S30) (x : S30) (s : Nat) : entN l (fun _ => false) s ≤ entN (l ++ [x]) (fun _ => false) s ∧ entN (l ++ [x]) (fun _ => false) s ≤ entN l (fun _ => false) s + 1 := by
  unfold entN keptL
  rw [entL_more, List.filter_append, List.length_append]
  split
  · simp
  · simp
theorem narrow_more {least at_ least' at' : Nat} (h : NarrowS n l (fun _ => false) least at_) (h' : NarrowS n (l ++ [x]) (fun _ => false) least' at') : least ≤ least' ∧ least' ≤ least + 1 := by
  have h1 := h.low at' h'.set
  have h2 := h'.low at_ h.set
  have e1 := entN_more l x at'
  have e2 := entN_more l x at_
  rw [h'.val] at e1
  rw [h.val] at e2
  omega
theorem cntL_more (hn : 1 ≤ n) (hx : ∀ y ∈ l, wayOk n y = true) (hx' : ∀ y ∈ l ++ [x], wayOk n y = true) : cntL n l ≤ cntL n (l ++ [x]) := by
  unfold cntL
  refine cntB_le (fun f => (leafB_01 hn hx f).1) (by simp) (bW_more l x) (fun f => (leafB_01 hn hx' f).1) _ _ _ fun g _ g2 => ?_
  refine Int.le_of_eq ?_
  unfold leafB
  refine detN_congr _ fun c r c1 c2 _ _ => ?_
  unfold colP
  dsimp only
  rw [aW_more l x _ (g2 c c1 (by omega))]
end
end Go.Proofs.Ytpmadffgdfholaa.B
namespace Go.Proofs.Ytpmadffgdfholaa.Pure
set_option linter.unusedVariables false
open Go.RowKit Go.Proofs.Ytpmadffgdfholaa.B Go.Proofs.YtpmadffgdfholaaW.PrintWords Go.Proofs.YtpmadffgdfholaaW.PrintLast Go.Proofs.YtpmadffgdfholaaW.PrintMore
theorem BranchMore : trishawlaw03_BranchMore.Pure := by
  intro a0 l1 x _ _ hmax _ _
  have al := fun k hk => alive_from k hk
  have hj : ∀ q, 60 ≤ q → ∀ L, trishawlaw03_BranchMore.j0 (q + 1) a0 l1 L true = some true := by
    intro q hq L
    rw [trishawlaw03_BranchMore.j0, if_pos rfl, al _ (by omega)]; rfl
  have hmax' : l1.length < 5864062014800 := by omega
  have hstart : ∀ k, trishawlaw03_BranchMore.f k a0 l1 x.f0 x.f1 x.f2 = (trishawlaw03_few.f l1 []).bind fun t114 => (if t114 = true then ((trishawref03_Town.f k a0 l1).bind fun t115 => (if t115 = 0 then ((trishawref03_Town.f k a0 (l1 ++ [x])).bind fun t116 => (trishawlaw03_BranchMore.j0 k a0 l1 (l1 ++ [x]) (t116 != 0))) else (trishawlaw03_BranchMore.j0 k a0 l1 (l1 ++ [x]) true))) else (trishawlaw03_BranchMore.j0 k a0 l1 (l1 ++ [x]) true)) := by
    intro k
    unfold trishawlaw03_BranchMore.f
    rw [Option.bind_some, if_pos (by simp; omega), Option.bind_some, Option.bind_some, if_pos (by simp; omega), Option.bind_some, List.nil_append]
  clear hmax hmax'
  by_cases hf : (l1.length : Int) ≤ 60
  case neg =>
    refine ⟨100 + 1, ?_⟩
    rw [hstart]
    unfold trishawlaw03_few.f
    rw [if_neg hf, Option.bind_some, if_neg (by decide)]; exact hj 100 (by omega) _
  have hfew : trishawlaw03_few.f l1 [] = some true := by unfold trishawlaw03_few.f; rw [if_pos hf]; rfl
  by_cases hr : readB a0 l1 = 0
  case neg =>
    refine ⟨200 + 1, ?_⟩
    rw [hstart, hfew, Option.bind_some, if_pos rfl, town_eq a0 l1 _ (.inr (by omega)), Option.bind_some, if_neg hr]
    exact hj 200 (by omega) _
  by_cases hr' : readB a0 (l1 ++ [x]) = 0
  case neg =>
    refine ⟨200 + 1, ?_⟩
    rw [hstart, hfew, Option.bind_some, if_pos rfl, town_eq a0 l1 _ (.inr (by omega)), Option.bind_some, if_pos hr, town_eq a0 _ _ (.inr (by omega)), Option.bind_some, show (readB a0 (l1 ++ [x]) != 0) = true from bne_iff_ne.mpr hr']
    exact hj 200 (by omega) _
  obtain ⟨h2, h7, h30, hx⟩ := readB_ok hr
  obtain ⟨_, _, h30', hx'⟩ := readB_ok hr'
  obtain ⟨n, rfl⟩ := Int.eq_ofNat_of_zero_le (show 0 ≤ a0 by omega)
  obtain ⟨_, K, hc⟩ := count_spec hr
  obtain ⟨_, K', hc'⟩ := count_spec hr'
  have h3 := cntL_more (n := n) (show 1 ≤ n by omega) hx hx'
  generalize cntL n l1 = C at hc h3
  generalize cntL n (l1 ++ [x]) = C' at hc' h3
  obtain ⟨least, at_, hN, hn⟩ := branchNarrow_spec hr
  obtain ⟨least', at', hN', hn'⟩ := branchNarrow_spec hr'
  obtain ⟨q, hq1, hq2, hq3⟩ : ∃ q, K ≤ q ∧ K' ≤ q ∧ 4000 ≤ q := ⟨K + K' + 4000, by omega, by omega, by omega⟩
  have h62 : 62 ≤ q + 2 := Nat.le_trans (by decide : 62 ≤ 4000) (Nat.le_trans hq3 (Nat.le_add_right q 2))
  refine ⟨q + 2, ?_⟩
  have hj1 : trishawlaw03_BranchMore.j1 (q + 1) (n : Int) l1 (l1 ++ [x]) false = some true := by
    have h1 := narrow_more hN hN'
    have hlb : least ≤ 100 := by
      have := hN.val
      have h4 := entL_length l1 at_
      have h5 := keptL_le (fun _ => false) (entL l1 at_)
      unfold entN at this
      omega
    have g1 : (least' : Int) ≥ (least : Int) := Int.ofNat_le.2 h1.1
    have g2 : (least' : Int) ≤ (least : Int) + 1 := Int.ofNat_le.2 h1.2
    have hw : wrap64 ((least : Int) + 1) = (least : Int) + 1 := by unfold wrap64; omega
    rw [trishawlaw03_BranchMore.j1, if_neg (by decide), hn _ (by omega), Option.bind_some, hn' _ (by omega), Option.bind_some, hc _ (by omega), Option.bind_some, hc' _ (by omega), Option.bind_some]
    rw [if_pos rfl, if_pos rfl, if_pos rfl, if_pos rfl, if_pos g1, hw, if_pos g2, if_pos (show C' ≥ C from h3), al _ (by omega)]; rfl
  rw [hstart, hfew, Option.bind_some, if_pos rfl, town_eq _ l1 _ (.inr h62), Option.bind_some, if_pos hr, town_eq _ _ _ (.inr h62), Option.bind_some, hr', show ((0 : Int) != 0) = false from rfl, trishawlaw03_BranchMore.j0, if_neg (by decide)]
  have hcost : ∀ f, BrB n l1 f → ∀ p : Int → Int, costF n (fun i => p (costW (l1 ++ [x]) i)) f = costF n (fun i => p (costW l1 i)) f := fun f hf p => costF_congr fun c c0 c1 => by rw [costW_more l1 x _ (hf.on c c0 c1).1]
  rcases branching_spec hr with ⟨f, v, hfb, hk⟩ | ⟨hno, hk⟩
  · rcases branching_spec hr' with ⟨f', v', hfb', hk'⟩ | ⟨hno', _⟩
    · rcases dear_spec hr with ⟨g, w, hgb, hk2⟩ | ⟨hno, _⟩
      · rcases dear_spec hr' with ⟨g', w', hgb', hk2'⟩ | ⟨hno', _⟩
        · rw [hk _ (by omega), Option.bind_some, hk' _ (by omega), Option.bind_some, hk2 _ (by omega), Option.bind_some, hk2' _ (by omega), Option.bind_some]
          have e1 := hfb'.least f (BrB.more hfb.is)
          have e2 : costF n (costW (l1 ++ [x])) f = costF n (costW l1) f := hcost f hfb.is (fun y => y)
          have e3 := hfb.cost
          have e4 := hgb'.least g (BrB.more hgb.is)
          have e5 : costF n (fun i => 1000 - costW (l1 ++ [x]) i) g = costF n (fun i => 1000 - costW l1 i) g := hcost g hgb.is (fun y => 1000 - y)
          have e6 := hgb.cost
          rw [if_pos rfl, if_pos rfl, if_pos rfl, if_pos rfl, if_neg (show ¬ v' > v by omega)]
          have : decide (w' < w) = false := decide_eq_false (by omega)
          show trishawlaw03_BranchMore.j1 (q + 1) (n : Int) l1 (l1 ++ [x]) (decide (w' < w)) = some true
          rw [this]
          exact hj1
        · exact absurd hfb'.is (hno' f')
      · exact absurd hfb.is (hno f)
    · exact absurd (BrB.more hfb.is) (hno' f)
  · have hb' : ∃ b3, branch_Branching.f (q + 1) (n : Int) (l1 ++ [x]) = some b3 := by
      rcases branching_spec hr' with ⟨f', v', _, hk'⟩ | ⟨_, hk'⟩
      · exact ⟨_, hk' _ (by omega)⟩
      · exact ⟨_, hk' _ (by omega)⟩
    have hd : ∃ b3, branch_Dear.f (q + 1) (n : Int) l1 = some b3 := by
      rcases dear_spec hr with ⟨f', v', _, hk'⟩ | ⟨_, hk'⟩
      · exact ⟨_, hk' _ (by omega)⟩
      · exact ⟨_, hk' _ (by omega)⟩
    have hd' : ∃ b3, branch_Dear.f (q + 1) (n : Int) (l1 ++ [x]) = some b3 := by
      rcases dear_spec hr' with ⟨f', v', _, hk'⟩ | ⟨_, hk'⟩
      · exact ⟨_, hk' _ (by omega)⟩
      · exact ⟨_, hk' _ (by omega)⟩
    obtain ⟨b1, e1⟩ := hb'
    obtain ⟨b2, e2⟩ := hd
    obtain ⟨b3, e3⟩ := hd'
    rw [hk _ (by omega), Option.bind_some, e1, Option.bind_some, e2, Option.bind_some, e3, Option.bind_some, if_neg (show ¬ (10 : Int) = 0 by decide)]
    exact hj1
end Go.Proofs.Ytpmadffgdfholaa.Pure
