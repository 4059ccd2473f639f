/- Texts behind the row of BranchCosts, part 5: contracts of the functions it reaches, words that their walks use, and lemmas in plain Lean. -/
import Derived.Below
import Derived.Deep.Draws
import Derived.Deep.AppendLies
import Derived.Maps.AppendAt
import Derived.OwnWalk
import Derived.Laws.BytesArg
import Derived.Laws.MakeOwn
import Derived.Laws.OwnMore
import Derived.Deep.OwnRows
import Derived.Tactics
import Derived.Lib.ConvBytes
import Derived.Laws.Slices
import Derived.WalkKit
import Derived.KernelRfl
import Derived.RowKit3
import Derived.Deep.LoopGhost
import Derived.Deep.QuietTactic
import Derived.BigQuiet
import Derived.WideLaws
import Derived.Deep.DeepCutAuto
import Derived.Deep.CutBlock
import Derived.Deep.RegionHeld3
import Derived.Laws.Rows
import Derived.Lib.AppendStr
import Derived.ArgAppend
import Derived.Laws.IdiomCopy
import Derived.RowKit
import Derived.OrdersHeld
import Derived.Laws.BitsLemmas
import Derived.Test.YtpmadffgdfholaaProg
import Derived.Laws.StructEq
import Derived.MapKept
import Derived.WalkSpells
import Derived.Deep.DrawnRows
import Derived.Maps.RangeWalk
import Derived.Laws.EntriesVeiled
import Derived.Deep.Slices
import Derived.Deep.Fields
import Derived.ChangeSame
import Derived.Test.YtpmadffgdfholaaJ1
import Derived.Test.YtpmadffgdfholaaJ2
import Derived.Test.YtpmadffgdfholaaJ3
import Derived.Test.YtpmadffgdfholaaJ4
namespace Go.Proofs.Ytpmadffgdfholaa.B
set_option linter.unusedVariables false
open Go.RowKit Go.Proofs.YtpmadffgdfholaaW.PrintWords Go.Proofs.YtpmadffgdfholaaW.PrintLast Go.Proofs.YtpmadffgdfholaaW.PrintMore
/-- Is street j one of the branching's? -/
def useB (n : Nat) (b : Nat → Nat) (f : Nat → Nat) (j : Nat) : Bool := decide (0 < b j) && decide (b j < n) && decide (f (b j) = j)
theorem useB_iff {n : Nat} {b f : Nat → Nat} {j : Nat} : useB n b f j = true ↔ 0 < b j ∧ b j < n ∧ f (b j) = j := by
  unfold useB
  simp [and_assoc]
/-- The indices of a choice of streets, ascending. -/
def selL (X : Nat → Bool) (i : Nat) : List Int := ((List.range i).filter X).map fun j : Nat => (j : Int)
theorem selL_succ (X : Nat → Bool) (i : Nat) : selL X (i + 1) = if X i = true then selL X i ++ [(i : Int)] else selL X i := by
  unfold selL
  rw [List.range_succ, List.filter_append, List.map_append]
  by_cases h : X i = true
  · rw [if_pos h, List.filter_cons_of_pos h]; rfl
  · rw [if_neg h, List.filter_cons_of_neg h]; simp
theorem selL_congr {X Y : Nat → Bool} : ∀ i, (∀ j, j < i → X j = Y j) → selL X i = selL Y i
  | 0, _ => rfl
  | i + 1, h => by rw [selL_succ, selL_succ, selL_congr i (fun j hj => h j (by omega)), h i (by omega)]
theorem selL_mem (X : Nat → Bool) (i j : Nat) : (j : Int) ∈ selL X i ↔ j < i ∧ X j = true := by
  unfold selL
  simp only [List.mem_map, List.mem_filter, List.mem_range]
  constructor
  · rintro ⟨q, h, e⟩
    obtain rfl : q = j := by omega
    exact h
  · exact fun h => ⟨j, h, rfl⟩
theorem selL_nat (X : Nat → Bool) (i : Nat) : ∀ x ∈ selL X i, ∃ j : Nat, x = (j : Int) ∧ j < i ∧ X j = true := by
  intro x hx
  unfold selL at hx
  obtain ⟨j, hj, rfl⟩ := List.mem_map.1 hx
  have := List.mem_filter.1 hj
  exact ⟨j, rfl, List.mem_range.1 this.1, this.2⟩
theorem selL_length (X : Nat → Bool) (i : Nat) : (selL X i).length ≤ i := by
  unfold selL
  rw [List.length_map]
  exact Nat.le_trans (List.length_filter_le _ _) (by simp)
theorem contains_l0 (list : List Int) (o : Int → Option Bool) (P : Int → Bool) (ho : ∀ x ∈ list, o x = some (P x)) (hl : list.length < 1000) : ∀ (d q k : Nat), q + d = list.length →
    ∃ r : Int, slices_IndexFunc_int_int.l0 (k + d + 1) list o (list.length : Int) (q : Int) = some r ∧ (0 ≤ r ↔ ∃ x ∈ list.drop q, P x = true)
  | 0, q, k, h => by
    refine ⟨-1, ?_, fun h => absurd h (by decide), fun ⟨x, hx, _⟩ => ?_⟩
    · simp only [slices_IndexFunc_int_int.l0]
      rw [if_neg (by omega)]
    · rw [List.drop_eq_nil_of_le (by omega)] at hx
      exact absurd hx (by simp)
  | d + 1, q, k, h => by
    have hq : q < list.length := by omega
    have hw := wrap_nat q (by omega)
    have hox := ho _ (rd_mem4 list q hq)
    obtain ⟨r, h1, h2⟩ := contains_l0 list o P ho hl d (q + 1) k (by omega)
    rw [drop_rdI4 list q hq, show k + (d + 1) + 1 = (k + d + 1) + 1 from by omega]
    cases hP : P (rd list (q : Int)) with
    | true =>
      refine ⟨q, ?_, fun _ => ⟨_, List.mem_cons_self, hP⟩, fun _ => by omega⟩
      simp only [slices_IndexFunc_int_int.l0, hw]
      rw [if_pos (by omega), if_pos (by omega), if_pos (by omega), hox, Option.bind_some, hP, if_pos rfl]
    | false =>
      refine ⟨r, ?_, ?_⟩
      · rw [← h1]
        generalize k + d + 1 = qq
        simp only [slices_IndexFunc_int_int.l0, hw]
        rw [if_pos (by omega), if_pos (by omega), if_pos (by omega), hox, Option.bind_some, hP, if_neg (by decide)]
      · rw [h2]
        constructor
        · rintro ⟨x, hx, hp⟩; exact ⟨x, List.mem_cons_of_mem _ hx, hp⟩
        · rintro ⟨x, hx, hp⟩
          rcases List.mem_cons.1 hx with rfl | hx
          · rw [hP] at hp; exact absurd hp (by decide)
          · exact ⟨x, hx, hp⟩
theorem contains_f (list : List Int) (o : Int → Option Bool) (P : Int → Bool) (ho : ∀ x ∈ list, o x = some (P x)) (hl : list.length < 1000) : ∃ r : Bool, (∀ k, list.length + 1 ≤ k → slices_ContainsFunc_int_int.f k list o = some r) ∧ (r = true ↔ ∃ x ∈ list, P x = true) := by
  obtain ⟨r, h1, h2⟩ := contains_l0 list o P ho hl list.length 0 0 (by omega)
  refine ⟨decide (r ≥ 0), fun k hk => ?_, ?_⟩
  · obtain ⟨r', h1', h2'⟩ := contains_l0 list o P ho hl list.length 0 (k - list.length - 1) (by omega)
    rw [show k - list.length - 1 + list.length + 1 = k from by omega] at h1'
    unfold slices_ContainsFunc_int_int.f slices_IndexFunc_int_int.f
    rw [show ((0 : Nat) : Int) = 0 from rfl] at h1'
    rw [h1', Option.bind_some]
    refine congrArg some ?_
    rw [List.drop_zero] at h2 h2'
    by_cases hr : 0 ≤ r
    · rw [decide_eq_true (show r' ≥ 0 from h2'.2 (h2.1 hr)), decide_eq_true (show r ≥ 0 from hr)]
    · rw [decide_eq_false (show ¬ r' ≥ 0 from fun h => hr (h2.2 (h2'.1 h))), decide_eq_false (show ¬ r ≥ 0 from hr)]
  · rw [decide_eq_true_eq]
    rw [List.drop_zero] at h2
    exact h2
/-- Streets X come first before streets Y, up to i: they are the same, or where they differ for the first time, X has the street. -/
def Ahead (X Y : Nat → Bool) (i : Nat) : Prop := (∀ j, j < i → X j = Y j) ∨ ∃ j, j < i ∧ (∀ q, q < j → X q = Y q) ∧ X j = true ∧ Y j = false
/-- The first branching of the least cost. -/
structure FirstB (n : Nat) (l : List S30) (p : Nat → Int) (v : Int) (f : Nat → Nat) : Prop where
  is : IsB n (aW l) (bW l) (fun i => i < l.length) f
  cost : costF n p f = v
  least : ∀ g, IsB n (aW l) (bW l) (fun i => i < l.length) g → v ≤ costF n p g
  ahead : ∀ g, IsB n (aW l) (bW l) (fun i => i < l.length) g → costF n p g = v → Ahead (useB n (bW l) f) (useB n (bW l) g) l.length
/-- What stands ahead of street i. -/
structure FsInv (n : Nat) (l : List S30) (p : Nat → Int) (v : Int) (i : Nat) (X : Nat → Bool) (gone : Int → Bool) : Prop where
  some : ∃ f, IsB n (aW l) (bW l) (onT l gone) f ∧ costF n p f = v
  below : ∀ j, j < i → (X j = true ↔ gone (j : Int) = false)
  lone : ∀ j, j < i → X j = true → 0 < bW l j ∧ ∀ q, q < l.length → bW l q = bW l j → q ≠ j → gone (q : Int) = true
  why : ∀ q, i ≤ q → q < l.length → gone (q : Int) = true → ∃ j, j < i ∧ X j = true ∧ bW l q = bW l j
  first : ∀ g, IsB n (aW l) (bW l) (fun i => i < l.length) g → costF n p g = v → Ahead X (useB n (bW l) g) i
section
variable {n : Nat} {l : List S30} {p : Nat → Int} {v : Int}
theorem mem_toB (l : List S30) (b : Int) (i : Nat) : (i : Int) ∈ toB l l.length b ↔ i < l.length ∧ (rd_T30 l (i : Int)).f1 = b := by
  unfold toB
  simp only [List.mem_map, List.mem_filter, List.mem_range, beq_iff_eq]
  constructor
  · rintro ⟨q, h, e⟩
    obtain rfl : q = i := by omega
    exact h
  · exact fun h => ⟨i, h, rfl⟩
theorem bW_eq {n : Nat} (hx : ∀ x ∈ l, wayOk n x = true) (i : Nat) (h : i < l.length) : (rd_T30 l (i : Int)).f1 = (bW l i : Int) ∧ (rd_T30 l (i : Int)).f0 = (aW l i : Int) ∧ bW l i < n ∧ aW l i < n := by
  have := (wayOk_iff n _).1 (hx _ (rd_T30_mem l i h))
  unfold bW aW
  omega
/-- Streets that agree with the list up to i are not gone. -/
theorem FsInv.agree {i : Nat} {X : Nat → Bool} {gone : Int → Bool} (h : FsInv n l p v i X gone) {g : Nat → Nat} (hg : IsB n (aW l) (bW l) (fun i => i < l.length) g) (ha : ∀ j, j < i → X j = useB n (bW l) g j) : IsB n (aW l) (bW l) (onT l gone) g := by
  refine hg.within fun c c0 c1 => ⟨(hg.on c c0 c1).1, ?_⟩
  have hb := (hg.on c c0 c1).2
  have hu : useB n (bW l) g (g c) = true := useB_iff.2 ⟨by omega, by omega, by rw [hb]⟩
  by_cases hlt : g c < i
  · exact (h.below _ hlt).1 ((ha _ hlt).trans hu)
  · cases hgo : gone ((g c : Nat) : Int) with
    | false => rfl
    | true =>
      obtain ⟨j, hj, hX, hbj⟩ := h.why (g c) (by omega) (hg.on c c0 c1).1 hgo
      have h2 := useB_iff.1 ((ha j hj).symm.trans hX)
      rw [← hbj, hb] at h2
      omega
theorem FsInv.skip {i : Nat} {X : Nat → Bool} {gone : Int → Bool} (h : FsInv n l p v i X gone) (hX : X i = false) (hno : ∀ g, IsB n (aW l) (bW l) (onT l gone) g → costF n p g = v → useB n (bW l) g i = false) :
    FsInv n l p v (i + 1) X (fun j => decide (j = (i : Int)) || gone j) := by
  refine ⟨?_, fun j hj => ?_, fun j hj hXj => ?_, fun q hq hql hgo => ?_, fun g hg hc => ?_⟩
  · obtain ⟨f, hf, hc⟩ := h.some
    refine ⟨f, hf.within fun c c0 c1 => ⟨(hf.on c c0 c1).1.1, ?_⟩, hc⟩
    dsimp only
    rw [(hf.on c c0 c1).1.2, Bool.or_false, decide_eq_false_iff_not]
    intro e
    have e2 : f c = i := by omega
    have := hno f hf hc
    have hu : useB n (bW l) f (f c) = true := useB_iff.2 ⟨by rw [(hf.on c c0 c1).2]; omega, by rw [(hf.on c c0 c1).2]; omega, by rw [(hf.on c c0 c1).2]⟩
    rw [e2, this] at hu
    exact absurd hu (by decide)
  · by_cases e : j = i
    · subst e; simp [hX]
    · rw [h.below j (by omega), decide_eq_false (by omega), Bool.false_or]
  · have hne : j ≠ i := by rintro rfl; rw [hX] at hXj; exact absurd hXj (by decide)
    obtain ⟨h1, h2⟩ := h.lone j (by omega) hXj
    exact ⟨h1, fun q hq hb hqj => by rw [h2 q hq hb hqj, Bool.or_true]⟩
  · rw [decide_eq_false (by omega), Bool.false_or] at hgo
    obtain ⟨j, hj, h2⟩ := h.why q (by omega) hql hgo
    exact ⟨j, by omega, h2⟩
  · rcases h.first g hg hc with ha | ⟨j, hj, h2⟩
    · refine .inl fun j hj => ?_
      by_cases e : j = i
      · subst e; rw [hX, hno g (h.agree hg ha) hc]
      · exact ha j (by omega)
    · exact .inr ⟨j, by omega, h2⟩
theorem FsInv.take {i : Nat} {X : Nat → Bool} {gone : Int → Bool} (h : FsInv n l p v i X gone) (hX : X i = false) (hb0 : 0 < bW l i) (hil : i < l.length) (more : Int → Bool) (hmore : ∀ q : Nat, q < l.length → (more (q : Int) = true ↔ bW l q = bW l i ∧ q ≠ i)) (hgi : gone (i : Int) = false)
    (hyes : ∃ g, IsB n (aW l) (bW l) (onT l (fun j => gone j || more j)) g ∧ costF n p g = v) (hfree : ∀ j, j < i → X j = true → bW l j ≠ bW l i) :
    FsInv n l p v (i + 1) (fun j => X j || decide (j = i)) (fun j => gone j || more j) := by
  refine ⟨hyes, fun j hj => ?_, fun j hj hXj => ?_, fun q hq hql hgo => ?_, fun g hg hc => ?_⟩
  · by_cases e : j = i
    · subst e
      rw [hgi, Bool.false_or]
      simp only [decide_true, Bool.or_true, true_iff]
      refine Bool.eq_false_iff.mpr fun hm => ?_
      exact ((hmore j hil).1 hm).2 rfl
    · rw [decide_eq_false e, Bool.or_false, h.below j (by omega), Bool.or_eq_false_iff]
      constructor
      · intro hgj
        refine ⟨hgj, Bool.eq_false_iff.mpr fun hm => ?_⟩
        have hXj := (h.below j (by omega)).2 hgj
        exact hfree j (by omega) hXj ((hmore j (by omega)).1 hm).1
      · exact fun hh => hh.1
  · by_cases e : j = i
    · subst e
      exact ⟨hb0, fun q hq hb hqj => by rw [(hmore q hq).2 ⟨hb, hqj⟩, Bool.or_true]⟩
    · rw [decide_eq_false e, Bool.or_false] at hXj
      obtain ⟨h1, h2⟩ := h.lone j (by omega) hXj
      exact ⟨h1, fun q hq hb hqj => by rw [h2 q hq hb hqj, Bool.true_or]⟩
  · rcases Bool.or_eq_true_iff.1 hgo with hgo | hgo
    · obtain ⟨j, hj, hXj, hb⟩ := h.why q (by omega) hql hgo
      exact ⟨j, by omega, by rw [hXj, Bool.true_or], hb⟩
    · exact ⟨i, by omega, by simp, ((hmore q hql).1 hgo).1⟩
  · rcases h.first g hg hc with ha | ⟨j, hj, hq, h2⟩
    · cases hu : useB n (bW l) g i with
      | true =>
        refine .inl fun j hj => ?_
        by_cases e : j = i
        · subst e; rw [hu]; simp
        · dsimp only; rw [decide_eq_false e, Bool.or_false]; exact ha j (by omega)
      | false =>
        refine .inr ⟨i, by omega, fun q hq => ?_, by simp, hu⟩
        dsimp only
        rw [decide_eq_false (by omega), Bool.or_false]; exact ha q hq
    · refine .inr ⟨j, by omega, fun q hq2 => ?_, by dsimp only; rw [h2.1, Bool.true_or], h2.2⟩
      dsimp only
      rw [decide_eq_false (by omega), Bool.or_false]; exact hq q hq2
/-- At the end. -/
theorem FsInv.last (hx : ∀ x ∈ l, wayOk n x = true) {X : Nat → Bool} {gone : Int → Bool} (h : FsInv n l p v l.length X gone) (hmin : ∀ g, IsB n (aW l) (bW l) (fun i => i < l.length) g → v ≤ costF n p g) : ∃ f, FirstB n l p v f ∧ ∀ j, j < l.length → useB n (bW l) f j = X j := by
  obtain ⟨f, hf, hc⟩ := h.some
  have hu : ∀ j, j < l.length → useB n (bW l) f j = X j := by
    intro j hj
    cases hX : X j with
    | true =>
      obtain ⟨h1, h2⟩ := h.lone j hj hX
      have hbn : bW l j < n := (bW_eq hx j hj).2.2.1
      obtain ⟨t, tb⟩ := hf.on (bW l j) h1 hbn
      refine useB_iff.2 ⟨h1, hbn, Classical.byContradiction fun hne => ?_⟩
      have := h2 _ t.1 tb hne
      rw [t.2] at this
      exact absurd this (by decide)
    | false =>
      refine Bool.eq_false_iff.mpr fun hu => ?_
      obtain ⟨u1, u2, u3⟩ := useB_iff.1 hu
      have := (hf.on _ u1 u2).1.2
      rw [u3] at this
      have := (h.below j hj).2 this
      rw [hX] at this
      exact absurd this (by decide)
  refine ⟨f, ⟨hf.mono fun i hi => hi.1, hc, hmin, fun g hg hgc => ?_⟩, hu⟩
  rcases h.first g hg hgc with ha | ⟨j, hj, hq, h1, h2⟩
  · exact .inl fun j hj => (hu j hj).trans (ha j hj)
  · exact .inr ⟨j, hj, fun q hqj => (hu q (by omega)).trans (hq q hqj), (hu j hj).trans h1, h2⟩
theorem first_loop (hn1 : 1 ≤ n) (hn : n ≤ 7) (hl : l.length ≤ 30) (hx : ∀ x ∈ l, wayOk n x = true) (price : List Int) (hpl : price.length = l.length) (hp : ∀ i : Nat, i < l.length → 0 ≤ rd price (i : Int) ∧ rd price (i : Int) ≤ 1000)
    (hmin : ∀ g, IsB n (aW l) (bW l) (fun i => i < l.length) g → v ≤ costF n (fun i => rd price (i : Int)) g) :
    ∀ (c i : Nat) (X : Nat → Bool) (gone : Int → Bool), i + c = l.length → FsInv n l (fun i => rd price (i : Int)) v i X gone → (∀ j, i ≤ j → X j = false) →
    ∃ f, FirstB n l (fun i => rd price (i : Int)) v f ∧ ∀ k, 3000 ≤ k → firstL k (n : Int) l price v c i (selL X i) gone = some (selL (useB n (bW l) f) l.length, v, 0)
  | 0, i, X, gone, h, hI, _ => by
    obtain rfl : i = l.length := by omega
    obtain ⟨f, hf, hu⟩ := hI.last hx hmin
    exact ⟨f, hf, fun k _ => by rw [firstL, selL_congr l.length hu]⟩
  | c + 1, i, X, gone, h, hI, hX => by
    have hi : i < l.length := by omega
    obtain ⟨e1, _, hbn, _⟩ := bW_eq hx i hi
    have hXi := hX i (Nat.le_refl _)
    have hlen := selL_length X i
    have hnat := selL_nat X i
    obtain ⟨sk, hsk, hskiff⟩ := contains_f (selL X i) (fun j => branch_town_first_2.f j (n : Int) l (bW l i : Int)) (fun j => (rd_T30 l j).f1 == (bW l i : Int)) (fun x hxm => by
      obtain ⟨j, rfl, hj, _⟩ := hnat x hxm
      unfold branch_town_first_2.f
      rw [if_pos (by omega), if_pos (by omega)]) (by omega)
    by_cases hskip : bW l i = 0 ∨ sk = true
    · have hno : ∀ g, IsB n (aW l) (bW l) (onT l gone) g → costF n (fun i => rd price (i : Int)) g = v → useB n (bW l) g i = false := by
        intro g hg _
        refine Bool.eq_false_iff.mpr fun hu => ?_
        obtain ⟨u1, u2, u3⟩ := useB_iff.1 hu
        rcases hskip with h0 | hs
        · omega
        · obtain ⟨x, hxm, hP⟩ := hskiff.1 hs
          obtain ⟨j, rfl, hj, hXj⟩ := hnat x hxm
          have hbj : bW l j = bW l i := by
            have := beq_iff_eq.mp hP
            rw [(bW_eq hx j (by omega)).1] at this
            omega
          have := (hI.lone j hj hXj).2 i hi hbj.symm (by omega)
          have h3 := (hg.on _ u1 u2).1.2
          rw [u3, this] at h3
          exact absurd h3 (by decide)
      obtain ⟨f, hf, hk⟩ := first_loop hn1 hn hl hx price hpl hp hmin c (i + 1) X _ (by omega) (hI.skip hXi hno) (fun j hj => hX j (by omega))
      refine ⟨f, hf, fun k hk3 => ?_⟩
      have := hk k hk3
      rw [selL_succ, if_neg (by rw [hXi]; decide)] at this
      rw [firstL, e1]
      rcases hskip with h0 | hs
      · rw [if_pos (by omega), Option.bind_some, if_pos rfl]
        exact this
      · by_cases h0 : bW l i = 0
        · rw [if_pos (by omega), Option.bind_some, if_pos rfl]
          exact this
        · rw [if_neg (by omega), hsk k (by omega), Option.bind_some, if_pos hs]
          exact this
    · have hb0 : 0 < bW l i := by omega
      have hs0 : sk = false := Bool.eq_false_iff.mpr fun h => hskip (.inr h)
      have hfree : ∀ j, j < i → X j = true → bW l j ≠ bW l i := by
        intro j hj hXj e
        have : sk = true := hskiff.2 ⟨(j : Int), (selL_mem X i j).2 ⟨hj, hXj⟩, by rw [(bW_eq hx j (by omega)).1, e]; exact beq_self_eq_true _⟩
        rw [hs0] at this
        exact absurd this (by decide)
      have hgi : gone (i : Int) = false := by
        refine Bool.eq_false_iff.mpr fun hg => ?_
        obtain ⟨j, hj, hXj, hb⟩ := hI.why i (Nat.le_refl _) hi hg
        exact hfree j hj hXj hb.symm
      have hmore : ∀ q : Nat, q < l.length → (moreL (i : Int) (toB l l.length (bW l i : Int)) (q : Int) = true ↔ bW l q = bW l i ∧ q ≠ i) := by
        intro q hq
        unfold moreL
        rw [Bool.and_eq_true, decide_eq_true_eq, decide_eq_true_eq, mem_toB, (bW_eq hx q hq).1]
        constructor
        · rintro ⟨⟨_, h1⟩, h2⟩; exact ⟨by omega, by omega⟩
        · rintro ⟨h1, h2⟩; exact ⟨⟨hq, by omega⟩, by omega⟩
      obtain ⟨r, hr1, hr2⟩ := cheapest_spec hn1 hn hl hx (fun j => some (gone j || moreL (i : Int) (toB l l.length (bW l i : Int)) j)) (fun j => gone j || moreL (i : Int) (toB l l.length (bW l i : Int)) j) (fun _ _ => rfl) price hpl hp
      have hstep : ∀ k, 3000 ≤ k → firstL k (n : Int) l price v (c + 1) i (selL X i) gone = if (r.2.2 && (r.1 == v)) = true then firstL k n l price v c (i + 1) (selL X i ++ [(i : Int)]) (fun j => gone j || moreL (i : Int) (toB l l.length (bW l i : Int)) j) else firstL k n l price v c (i + 1) (selL X i) (fun j => decide (j = (i : Int)) || gone j) := by
        intro k hk
        rw [firstL, e1, if_neg (by omega), hsk k (by omega), Option.bind_some, hs0, if_neg (by decide), hr1 k hk, Option.bind_some]
        by_cases hy : (r.2.2 && (r.1 == v)) = true
        · rw [if_pos hy, if_pos (by omega), if_pos hy]
        · rw [if_neg hy, if_neg hy]
      by_cases hyes : (r.2.2 && (r.1 == v)) = true
      · rcases hr2 with ⟨_, hopt, _⟩ | ⟨e, _⟩
        · have hv : r.1 = v := beq_iff_eq.mp (Bool.and_eq_true _ _ |>.mp hyes).2
          obtain ⟨⟨g, hg, hgc⟩, _⟩ := hopt
          obtain ⟨f, hf, hk⟩ := first_loop hn1 hn hl hx price hpl hp hmin c (i + 1) (fun j => X j || decide (j = i)) _ (by omega) (hI.take hXi hb0 hi _ hmore hgi ⟨g, hg, hgc.trans hv⟩ hfree) (fun j hj => by rw [hX j (by omega), decide_eq_false (by omega)]; rfl)
          refine ⟨f, hf, fun k hk3 => ?_⟩
          have := hk k hk3
          rw [selL_succ, if_pos (by simp), selL_congr (Y := X) i (fun j hj => by rw [decide_eq_false (by omega), Bool.or_false])] at this
          rw [hstep k hk3, if_pos hyes]
          exact this
        · rw [e] at hyes
          exact absurd hyes (by simp)
      · have hno : ∀ g, IsB n (aW l) (bW l) (onT l gone) g → costF n (fun i => rd price (i : Int)) g = v → useB n (bW l) g i = false := by
          intro g hg hgc
          refine Bool.eq_false_iff.mpr fun hu => ?_
          obtain ⟨u1, u2, u3⟩ := useB_iff.1 hu
          have hg2 : IsB n (aW l) (bW l) (onT l (fun j => gone j || moreL (i : Int) (toB l l.length (bW l i : Int)) j)) g := hg.within fun c c0 c1 => by
            obtain ⟨t, tb⟩ := hg.on c c0 c1
            refine ⟨t.1, ?_⟩
            dsimp only
            rw [t.2, Bool.false_or]
            refine Bool.eq_false_iff.mpr fun hm => ?_
            obtain ⟨m1, m2⟩ := (hmore _ t.1).1 hm
            rw [tb] at m1
            rw [m1, u3] at m2
            exact m2 rfl
          rcases hr2 with ⟨h1, ⟨⟨g', hg', hgc'⟩, hlow⟩, _⟩ | ⟨_, hnone⟩
          · have h2 := hlow g hg2
            have h3 := hmin g' (hg'.mono fun i hi => hi.1)
            have : r.1 = v := by omega
            exact hyes (by rw [h1, this]; simp)
          · exact hnone g hg2
        obtain ⟨f, hf, hk⟩ := first_loop hn1 hn hl hx price hpl hp hmin c (i + 1) X _ (by omega) (hI.skip hXi hno) (fun j hj => hX j (by omega))
        refine ⟨f, hf, fun k hk3 => ?_⟩
        have := hk k hk3
        rw [selL_succ, if_neg (by rw [hXi]; decide)] at this
        rw [hstep k hk3, if_neg hyes]
        exact this
/-- first's answer. -/
theorem first_spec (hn1 : 1 ≤ n) (hn : n ≤ 7) (hl : l.length ≤ 30) (hx : ∀ x ∈ l, wayOk n x = true) (price : List Int) (hpl : price.length = l.length) (hp : ∀ i : Nat, i < l.length → 0 ≤ rd price (i : Int) ∧ rd price (i : Int) ≤ 1000) :
    (∃ f v, FirstB n l (fun i => rd price (i : Int)) v f ∧ ∀ k, 3000 ≤ k → branch_town_first.f k (n : Int) l price = some (selL (useB n (bW l) f) l.length, v, 0)) ∨
    ((∀ f, ¬ IsB n (aW l) (bW l) (fun i => i < l.length) f) ∧ ∀ k, 3000 ≤ k → branch_town_first.f k (n : Int) l price = some ([], 0, 10)) := by
  have hon : ∀ i, onT l (fun _ => false) i ↔ i < l.length := fun i => ⟨fun h => h.1, fun h => ⟨h, rfl⟩⟩
  obtain ⟨r, hr1, hr2⟩ := cheapest_spec hn1 hn hl hx (fun i => branch_town_first_1.f i) (fun _ => false) (fun _ _ => rfl) price hpl hp
  have hstep : ∀ k, 3000 ≤ k → branch_town_first.f k (n : Int) l price = if r.2.2 = true then firstL k (n : Int) l price r.1 l.length 0 [] (fun _ => false) else some ([], 0, 10) := by
    intro k hk
    unfold branch_town_first.f
    rw [if_pos (by omega), hr1 k hk, Option.bind_some]
  rcases hr2 with ⟨h1, ⟨⟨g, hg, hgc⟩, hlow⟩, _⟩ | ⟨e, hnone⟩
  · left
    have hmin : ∀ g, IsB n (aW l) (bW l) (fun i => i < l.length) g → r.1 ≤ costF n (fun i => rd price (i : Int)) g := fun g hg => hlow g (hg.mono fun i hi => (hon i).2 hi)
    obtain ⟨f, hf, hk⟩ := first_loop (v := r.1) hn1 hn hl hx price hpl hp hmin l.length 0 (fun _ => false) (fun _ => false) (by omega)
      ⟨⟨g, hg, hgc⟩, fun j hj => absurd hj (by omega), fun j hj => absurd hj (by omega), fun q _ _ h => absurd h (by decide), fun g _ _ => .inl fun j hj => absurd hj (by omega)⟩ (fun _ _ => rfl)
    refine ⟨f, r.1, hf, fun k hk3 => ?_⟩
    rw [hstep k hk3, if_pos h1]
    exact hk k hk3
  · right
    refine ⟨fun f hf => hnone f (hf.mono fun i hi => (hon i).2 hi), fun k hk => ?_⟩
    rw [hstep k hk, e]
    rfl
end
end Go.Proofs.Ytpmadffgdfholaa.B
namespace Go.Proofs.Ytpmadffgdfholaa.B
set_option linter.unusedVariables false
open Go.RowKit Go.Proofs.YtpmadffgdfholaaW.PrintWords Go.Proofs.YtpmadffgdfholaaW.PrintLast Go.Proofs.YtpmadffgdfholaaW.PrintMore
def costW (l : List S30) (i : Nat) : Int := (rd_T30 l (i : Int)).f2
theorem sumZ_pick (x : Int) (t : Nat) : ∀ m, sumZ (fun i => if i = t then x else 0) m = if t < m then x else 0
  | 0 => by simp [sumZ]
  | m + 1 => by
    simp only [sumZ]
    rw [sumZ_pick x t m]
    by_cases h1 : t < m
    · rw [if_pos h1, if_neg (by omega), if_pos (by omega)]; omega
    · by_cases h2 : m = t
      · rw [if_neg h1, if_pos h2, if_pos (by omega)]; omega
      · rw [if_neg h1, if_neg h2, if_neg (by omega)]; rfl
section
variable {n : Nat} {l : List S30} {f : Nat → Nat}
structure PreOk (l : List S30) (L : List Int) (q : Nat) : Prop where
  rng : ∀ j : Nat, j < q → 0 ≤ rd L (j : Int) ∧ rd L (j : Int) < (l.length : Int)
  asc : ∀ j : Nat, j + 1 < q → rd L (j : Int) < rd L ((j + 1 : Nat) : Int)
  far : ∀ i j : Nat, i < j → j < q → bW l (rd L (i : Int)).toNat ≠ bW l (rd L (j : Int)).toNat
  pos : ∀ j : Nat, j < q → bW l (rd L (j : Int)).toNat ≠ 0
def metN (l : List S30) (L : List Int) : Nat → Nat
  | 0 => 1
  | q + 1 => metN l L q ||| 1 <<< bW l (rd L (q : Int)).toNat
theorem metN_bit (l : List S30) (L : List Int) (c : Nat) : ∀ q, (metN l L q).testBit c = true ↔ c = 0 ∨ ∃ j, j < q ∧ bW l (rd L (j : Int)).toNat = c
  | 0 => by
    rw [metN, show (1 : Nat) = 1 <<< 0 from rfl, tb_one, decide_eq_true_eq]
    exact ⟨.inl, fun h => h.resolve_right (fun ⟨j, hj, _⟩ => by omega)⟩
  | q + 1 => by
    rw [metN, tb_or, Bool.or_eq_true, metN_bit l L c q, decide_eq_true_eq]
    constructor
    · rintro ((h | ⟨j, hj, h⟩) | h)
      · exact .inl h
      · exact .inr ⟨j, by omega, h⟩
      · exact .inr ⟨q, by omega, h.symm⟩
    · rintro (h | ⟨j, hj, h⟩)
      · exact .inl (.inl h)
      · by_cases e : j = q
        · subst e; exact .inr h.symm
        · exact .inl (.inr ⟨j, by omega, h⟩)
/-- What stops at street q. -/
theorem PreOk.next {L : List Int} {q : Nat} (h : PreOk l L q) (h0 : 0 ≤ rd L (q : Int)) (h1 : rd L (q : Int) < (l.length : Int)) (h2 : 0 < q → rd L ((q - 1 : Nat) : Int) < rd L (q : Int)) (h3 : (metN l L q).testBit (bW l (rd L (q : Int)).toNat) = false) : PreOk l L (q + 1) := by
  have hm : ¬ (bW l (rd L (q : Int)).toNat = 0 ∨ ∃ j, j < q ∧ bW l (rd L (j : Int)).toNat = bW l (rd L (q : Int)).toNat) := fun hh => by
    rw [(metN_bit l L _ q).2 hh] at h3; exact absurd h3 (by decide)
  refine ⟨fun j hj => ?_, fun j hj => ?_, fun i j hi hj => ?_, fun j hj => ?_⟩
  · by_cases e : j = q
    · subst e; exact ⟨h0, h1⟩
    · exact h.rng j (by omega)
  · by_cases e : j + 1 = q
    · have := h2 (by omega)
      rw [show q - 1 = j by omega] at this
      rw [e]; exact this
    · exact h.asc j (by omega)
  · by_cases e : j = q
    · subst e; exact fun hh => hm (.inr ⟨i, hi, hh⟩)
    · exact h.far i j hi (by omega)
  · by_cases e : j = q
    · subst e; exact fun hh => hm (.inl hh)
    · exact h.pos j (by omega)
end
end Go.Proofs.Ytpmadffgdfholaa.B
namespace Go.Proofs.Ytpmadffgdfholaa.B
set_option linter.unusedVariables false
open Go.RowKit Go.Proofs.YtpmadffgdfholaaW.PrintWords Go.Proofs.YtpmadffgdfholaaW.PrintLast Go.Proofs.YtpmadffgdfholaaW.PrintMore
section
variable {n : Nat} {l : List S30} {f : Nat → Nat}
/-- The list of the streets of a branching. -/
def listB (n : Nat) (l : List S30) (f : Nat → Nat) : List Int := selL (useB n (bW l) f) l.length
abbrev BrB (n : Nat) (l : List S30) (f : Nat → Nat) : Prop := IsB n (aW l) (bW l) (fun i => i < l.length) f
end
end Go.Proofs.Ytpmadffgdfholaa.B
namespace Go.Proofs.Ytpmadffgdfholaa.B
set_option linter.unusedVariables false
open Go.RowKit Go.Proofs.YtpmadffgdfholaaW.PrintWords Go.Proofs.YtpmadffgdfholaaW.PrintLast Go.Proofs.YtpmadffgdfholaaW.PrintMore
section
variable {n : Nat} {l : List S30} {f : Nat → Nat}
def costL (l : List S30) : List Int := l.map fun x => x.f2
theorem costL_length (l : List S30) : (costL l).length = l.length := by simp [costL]
theorem costL_rd (l : List S30) (i : Nat) (h : i < l.length) : rd (costL l) (i : Int) = costW l i := by
  simp [rd, costL, costW, rd_T30, List.getD, List.getElem?_eq_getElem h]
theorem costs_l0 (l : List S30) (hl : l.length < 1000) : ∀ (d q k : Nat), q + d = l.length → branch_town_costs.l0 (k + d + 1) ((costL l).take q) l (l.length : Int) (q : Int) = some (costL l)
  | 0, q, k, h => by
    rw [show k + 0 + 1 = k + 1 from rfl, branch_town_costs.l0, if_neg (by omega), List.take_of_length_le (by rw [costL_length]; omega)]
  | d + 1, q, k, h => by
    have hq : q < l.length := by omega
    have hw := wrap_nat q (by omega)
    have ih := costs_l0 l hl d (q + 1) k (by omega)
    rw [take_rdI (costL l) q (by rw [costL_length]; exact hq), costL_rd l q hq] at ih
    rw [show k + (d + 1) + 1 = (k + d + 1) + 1 from by omega, branch_town_costs.l0, if_pos (by omega), if_pos (by omega), if_pos (by omega), if_pos (by rw [List.length_take]; omega), hw]
    exact ih
theorem costs_f (n : Int) (l : List S30) (hl : l.length ≤ 30) (k : Nat) (hk : 40 ≤ k) : branch_town_costs.f k n l = some (costL l) := by
  have := costs_l0 l (by omega) l.length 0 (k - l.length - 1) (by omega)
  rw [show k - l.length - 1 + l.length + 1 = k from by omega] at this
  exact this
theorem cost_low (hx : ∀ x ∈ l, wayOk n x = true) (i : Nat) (h : i < l.length) : 0 ≤ costW l i ∧ costW l i ≤ 1000 := by
  have := (wayOk_iff n _).1 (hx _ (rd_T30_mem l i h))
  unfold costW
  omega
theorem FirstB.congr {p q : Nat → Int} {v : Int} (h : FirstB n l p v f) (e : ∀ i, i < l.length → p i = q i) : FirstB n l q v f := by
  have hc : ∀ g, BrB n l g → costF n p g = costF n q g := fun g hg => costF_congr fun c c0 c1 => e _ (hg.on c c0 c1).1
  exact ⟨h.is, (hc f h.is) ▸ h.cost, fun g hg => (hc g hg) ▸ h.least g hg, fun g hg hv => h.ahead g hg ((hc g hg).trans hv)⟩
/-- Branching. -/
theorem branching_spec (hr : readB (n : Int) l = 0) :
    (∃ f v, FirstB n l (costW l) v f ∧ ∀ k, 3000 ≤ k → branch_Branching.f k (n : Int) l = some (listB n l f, v, 0)) ∨
    ((∀ f, ¬ BrB n l f) ∧ ∀ k, 3000 ≤ k → branch_Branching.f k (n : Int) l = some ([], 0, 10)) := by
  obtain ⟨h2, h7, h30, hx⟩ := readB_ok hr
  have hstep : ∀ k, 3000 ≤ k → branch_Branching.f k (n : Int) l = branch_town_first.f k (n : Int) l (costL l) := by
    intro k hk
    unfold branch_Branching.f branch_read.f
    rw [hr, Option.bind_some, if_pos rfl, costs_f _ l h30 k (by omega), Option.bind_some]
  have hp : ∀ i : Nat, i < l.length → 0 ≤ rd (costL l) (i : Int) ∧ rd (costL l) (i : Int) ≤ 1000 := fun i hi => by rw [costL_rd l i hi]; exact cost_low hx i hi
  rcases first_spec (n := n) (by omega) (by omega) h30 hx (costL l) (costL_length l) hp with ⟨f, v, hf, hk⟩ | ⟨hno, hk⟩
  · exact .inl ⟨f, v, hf.congr fun i hi => costL_rd l i hi, fun k h => (hstep k h).trans (hk k h)⟩
  · exact .inr ⟨hno, fun k h => (hstep k h).trans (hk k h)⟩
theorem costF_neg (hn : 1 ≤ n) (M : Int) (p : Nat → Int) (f : Nat → Nat) : costF n (fun i => M - p i) f = ((n : Int) - 1) * M - costF n p f := by
  unfold costF
  have key : ∀ m, 1 ≤ m → sumZ (fun c => if c = 0 then 0 else M - p (f c)) m = ((m : Int) - 1) * M - sumZ (fun c => if c = 0 then 0 else p (f c)) m := by
    intro m
    induction m with
    | zero => intro h; omega
    | succ m ih =>
      intro _
      simp only [sumZ]
      by_cases e : m = 0
      · subst e; simp [sumZ]
      · rw [ih (by omega), if_neg e, if_neg e]
        have : (((m + 1 : Nat) : Int) - 1) * M = ((m : Int) - 1) * M + M := by
          rw [show ((m + 1 : Nat) : Int) - 1 = ((m : Int) - 1) + 1 by omega, Int.add_mul, Int.one_mul]
        omega
  exact key n hn
theorem costF_low (hn1 : 1 ≤ n) (hn : n ≤ 7) {p : Nat → Int} (hp : ∀ i, i < l.length → 0 ≤ p i ∧ p i ≤ 1000) (hf : BrB n l f) : 0 ≤ costF n p f ∧ costF n p f ≤ 6000 := by
  refine ⟨costF_nonneg fun c c0 c1 => (hp _ (hf.on c c0 c1).1).1, ?_⟩
  have h2 := costF_nonneg (n := n) (p := fun i => 1000 - p i) (f := f) fun c c0 c1 => by have := (hp _ (hf.on c c0 c1).1).2; omega
  rw [costF_neg hn1] at h2
  omega
/-- Dear: the first branching of the least sum of what lacks to 1000. -/
theorem dear_spec (hr : readB (n : Int) l = 0) :
    (∃ f v, FirstB n l (fun i => 1000 - costW l i) (((n : Int) - 1) * 1000 - v) f ∧ ∀ k, 3000 ≤ k → branch_Dear.f k (n : Int) l = some (listB n l f, v, 0)) ∨
    ((∀ f, ¬ BrB n l f) ∧ ∀ k, 3000 ≤ k → branch_Dear.f k (n : Int) l = some ([], 0, 10)) := by
  obtain ⟨h2, h7, h30, hx⟩ := readB_ok hr
  have hw : wrap64 ((n : Int) - 1) = (n : Int) - 1 := by unfold wrap64; omega
  have hstep : ∀ k, 3000 ≤ k → branch_Dear.f k (n : Int) l = (branch_town_first.f k (n : Int) l (dearB (costL l))).bind fun r => if r.2.2 = 0 then some (r.1, wrap64 (wrap64 (((n : Int) - 1) * 1000) - r.2.1), 0) else some ([], 0, r.2.2) := by
    intro k hk
    unfold branch_Dear.f branch_read.f
    rw [hr, Option.bind_some, if_pos rfl, costs_f _ l h30 k (by omega), Option.bind_some, if_pos (by rw [costL_length]; omega), hw]
  have hrd : ∀ i : Nat, i < l.length → rd (dearB (costL l)) (i : Int) = 1000 - costW l i := by
    intro i hi
    have h1 := cost_low hx i hi
    have h2 := costL_rd l i hi
    have h3 : rd (dearB (costL l)) (i : Int) = wrap64 (1000 - rd (costL l) (i : Int)) := by
      have hl : i < (costL l).length := by rw [costL_length]; exact hi
      simp [rd, dearB, List.getD, List.getElem?_eq_getElem hl]
    rw [h3, h2]
    unfold wrap64; omega
  have hp : ∀ i : Nat, i < l.length → 0 ≤ rd (dearB (costL l)) (i : Int) ∧ rd (dearB (costL l)) (i : Int) ≤ 1000 := fun i hi => by
    rw [hrd i hi]; have := cost_low hx i hi; omega
  rcases first_spec (n := n) (by omega) (by omega) h30 hx (dearB (costL l)) (by rw [dearB_length, costL_length]) hp with ⟨f, v, hf, hk⟩ | ⟨hno, hk⟩
  · have hf2 := hf.congr (q := fun i => 1000 - costW l i) fun i hi => hrd i hi
    refine .inl ⟨f, ((n : Int) - 1) * 1000 - v, ?_, fun k h => ?_⟩
    · rw [show ((n : Int) - 1) * 1000 - (((n : Int) - 1) * 1000 - v) = v by omega]
      exact hf2
    · have hb := costF_low (n := n) (p := fun i => 1000 - costW l i) (by omega) (by omega) (fun i hi => by have := cost_low hx i hi; omega) hf2.is
      rw [hf2.cost] at hb
      rw [hstep k h, hk k h, Option.bind_some, if_pos rfl]
      refine congrArg some (Prod.ext rfl (Prod.ext ?_ rfl))
      show wrap64 (wrap64 (((n : Int) - 1) * 1000) - v) = ((n : Int) - 1) * 1000 - v
      unfold wrap64; omega
  · refine .inr ⟨hno, fun k h => ?_⟩
    rw [hstep k h, hk k h]
    rfl
theorem Ahead.eq {X Y : Nat → Bool} {m : Nat} (h1 : Ahead X Y m) (h2 : Ahead Y X m) : ∀ j, j < m → X j = Y j := by
  rcases h1 with h1 | ⟨i, hi, a1, a2, a3⟩
  · exact h1
  · rcases h2 with h2 | ⟨j, hj, b1, b2, b3⟩
    · exact fun j hj => (h2 j hj).symm
    · exfalso
      rcases Nat.lt_trichotomy i j with h | h | h
      · have := b1 i h; rw [a2, a3] at this; exact absurd this (by decide)
      · subst h; rw [a2] at b3; exact absurd b3 (by decide)
      · have := a1 j h; rw [b2, b3] at this; exact absurd this (by decide)
/-- There is one first list. -/
theorem FirstB.unique {p q : Nat → Int} {v w d : Int} {f g : Nat → Nat} (h : FirstB n l p v f) (k : FirstB n l q w g) (e : ∀ s, BrB n l s → costF n q s = costF n p s + d) : listB n l f = listB n l g ∧ w = v + d := by
  have h1 := h.least g k.is
  have h2 := k.least f h.is
  have e1 := e g k.is
  have e2 := e f h.is
  have h3 := h.cost
  have h4 := k.cost
  have hw : w = v + d := by omega
  exact ⟨selL_congr _ ((h.ahead g k.is (by omega)).eq (k.ahead f h.is (by omega))), hw⟩
end
end Go.Proofs.Ytpmadffgdfholaa.B
namespace Go.Proofs.Ytpmadffgdfholaa.B
set_option linter.unusedVariables false
open Go.RowKit Go.Proofs.YtpmadffgdfholaaW.PrintWords Go.Proofs.YtpmadffgdfholaaW.PrintLast Go.Proofs.YtpmadffgdfholaaW.PrintMore
section
variable {n : Nat} {l : List S30} {x : S30} {f : Nat → Nat}
theorem rd_more (l : List S30) (x : S30) (i : Nat) (h : i < l.length) : rd_T30 (l ++ [x]) (i : Int) = rd_T30 l (i : Int) := by
  simp only [rd_T30, Int.toNat_natCast, List.getD]
  rw [List.getElem?_append_left h]
theorem aW_more (l : List S30) (x : S30) (i : Nat) (h : i < l.length) : aW (l ++ [x]) i = aW l i := by unfold aW; rw [rd_more l x i h]
theorem bW_more (l : List S30) (x : S30) (i : Nat) (h : i < l.length) : bW (l ++ [x]) i = bW l i := by unfold bW; rw [rd_more l x i h]
theorem BrB.ends {l l' : List S30} (hl : l.length ≤ l'.length) (ha : ∀ i, i < l.length → aW l' i = aW l i) (hb : ∀ i, i < l.length → bW l' i = bW l i) (h : BrB n l f) : BrB n l' f := by
  refine ⟨fun c c0 c1 => ?_, fun c hc => ?_⟩
  · obtain ⟨t, tb⟩ := h.on c c0 c1
    exact ⟨by omega, (hb _ t).trans tb⟩
  · have := h.all c hc
    clear hc
    induction this with
    | refl => exact .refl
    | @step i t _ ih =>
      obtain ⟨e, e0, e1, rfl⟩ := t
      have hlt := (h.on e e0 e1).1
      rw [← ha _ hlt] at ih
      have := Rc.step (a := aW l') (b := bW l') (T := fun i => ∃ c, 0 < c ∧ c < n ∧ i = f c) (i := f e) ⟨e, e0, e1, rfl⟩ ih
      rwa [hb _ hlt] at this
theorem BrB.more (h : BrB n l f) : BrB n (l ++ [x]) f := h.ends (by simp) (aW_more l x) (bW_more l x)
end
end Go.Proofs.Ytpmadffgdfholaa.B
namespace Go.Proofs.Ytpmadffgdfholaa.B
set_option linter.unusedVariables false
open Go.RowKit Go.Proofs.YtpmadffgdfholaaW.PrintWords Go.Proofs.YtpmadffgdfholaaW.PrintLast Go.Proofs.YtpmadffgdfholaaW.PrintMore
section
variable {n : Nat} {l : List S30} {f : Nat → Nat}
/-- Streets with the same ends. -/
def SameEnds (l l' : List S30) : Prop := l'.length = l.length ∧ ∀ i, i < l.length → aW l' i = aW l i ∧ bW l' i = bW l i
theorem SameEnds.brB {l l' : List S30} (h : SameEnds l l') : BrB n l' f ↔ BrB n l f := by
  refine ⟨fun hf => hf.ends (by rw [h.1]; exact Nat.le_refl _) (fun i hi => ((h.2 i (by rw [← h.1]; exact hi)).1).symm) (fun i hi => ((h.2 i (by rw [← h.1]; exact hi)).2).symm), fun hf => hf.ends (by rw [h.1]; exact Nat.le_refl _) (fun i hi => (h.2 i hi).1) (fun i hi => (h.2 i hi).2)⟩
theorem SameEnds.use {l l' : List S30} (h : SameEnds l l') (f : Nat → Nat) : listB n l' f = listB n l f := by
  unfold listB
  rw [h.1]
  refine selL_congr _ fun j hj => ?_
  unfold useB
  rw [(h.2 j hj).2]
theorem Ahead.congr {X X' Y Y' : Nat → Bool} {m : Nat} (hX : ∀ j, j < m → X' j = X j) (hY : ∀ j, j < m → Y' j = Y j) (h : Ahead X Y m) : Ahead X' Y' m := by
  rcases h with h | ⟨j, hj, a, b, c⟩
  · exact .inl fun j hj => by rw [hX j hj, hY j hj]; exact h j hj
  · exact .inr ⟨j, hj, fun q hq => by rw [hX q (by omega), hY q (by omega)]; exact a q hq, by rw [hX j hj]; exact b, by rw [hY j hj]; exact c⟩
theorem SameEnds.first {l l' : List S30} (h : SameEnds l l') {p : Nat → Int} {v : Int} (hf : FirstB n l' p v f) : FirstB n l p v f := by
  have hu : ∀ g j, j < l.length → useB n (bW l) g j = useB n (bW l') g j := fun g j hj => by unfold useB; rw [(h.2 j hj).2]
  refine ⟨h.brB.1 hf.is, hf.cost, fun g hg => hf.least g (h.brB.2 hg), fun g hg hv => ?_⟩
  have := hf.ahead g (h.brB.2 hg) hv
  rw [h.1] at this
  exact this.congr (hu f) (hu g)
def turnL (l : List S30) : List S30 := l.map fun x => ⟨x.f0, x.f1, wrap64 (1000 - x.f2)⟩
theorem turnL_rd (l : List S30) (i : Nat) (h : i < l.length) : rd_T30 (turnL l) (i : Int) = ⟨(rd_T30 l (i : Int)).f0, (rd_T30 l (i : Int)).f1, wrap64 (1000 - (rd_T30 l (i : Int)).f2)⟩ := by
  have e1 : rd_T30 (turnL l) (i : Int) = (turnL l)[i]'(by simp [turnL]; exact h) := by
    simp [rd_T30, List.getD, turnL, List.getElem?_eq_getElem h]
  have e2 : rd_T30 l (i : Int) = l[i] := by simp [rd_T30, List.getD, List.getElem?_eq_getElem h]
  rw [e1, e2]
  simp [turnL]
theorem turnL_ends (l : List S30) : SameEnds l (turnL l) := by
  refine ⟨by simp [turnL], fun i hi => ?_⟩
  unfold aW bW
  rw [turnL_rd l i hi]
  exact ⟨rfl, rfl⟩
theorem turnL_cost (hx : ∀ x ∈ l, wayOk n x = true) (i : Nat) (h : i < l.length) : costW (turnL l) i = 1000 - costW l i := by
  have := cost_low hx i h
  unfold costW at this ⊢
  rw [turnL_rd l i h]
  show wrap64 (1000 - (rd_T30 l (i : Int)).f2) = _
  unfold wrap64; omega
theorem turnL_read (hr : readB (n : Int) l = 0) : readB (n : Int) (turnL l) = 0 := by
  obtain ⟨h2, h7, h30, hx⟩ := readB_ok hr
  unfold readB
  rw [if_neg (by omega), if_neg (by simp [turnL]; omega), if_pos]
  rw [List.all_eq_true]
  intro y hy
  obtain ⟨x, hxm, rfl⟩ := List.mem_map.1 hy
  obtain ⟨a1, a2, a3, a4, a5, a6, a7⟩ := (wayOk_iff _ _).1 (hx x hxm)
  have hw : wrap64 (1000 - x.f2) = 1000 - x.f2 := by unfold wrap64; omega
  exact (wayOk_iff _ _).2 ⟨a1, a2, a3, a4, a5, by show 0 ≤ wrap64 (1000 - x.f2); omega, by show wrap64 (1000 - x.f2) ≤ 1000; omega⟩
def dearS (c m : Int) (x : S30) : S30 := ⟨x.f0, x.f1, if x.f1 = c then wrap64 (x.f2 + m) else x.f2⟩
theorem dearer_l0 (l : List S30) (hl : l.length ≤ 30) (c m : Int) : ∀ (d i k : Nat), i + d = l.length →
    ((∀ x ∈ l.drop i, (dearS c m x).f2 ≤ 1000) → trishawlaw03_dearer.l0 (k + 2 * d + 1) l c m ((l.take i).map (dearS c m)) (i : Int) = some (l.map (dearS c m), true)) ∧
    (¬ (∀ x ∈ l.drop i, (dearS c m x).f2 ≤ 1000) → trishawlaw03_dearer.l0 (k + 2 * d + 1) l c m ((l.take i).map (dearS c m)) (i : Int) = some ([], false))
  | 0, i, k, h => by
    rw [show k + 2 * 0 + 1 = k + 1 from rfl, trishawlaw03_dearer.l0, if_neg (by omega), List.drop_eq_nil_of_le (by omega), List.take_of_length_le (by omega)]
    exact ⟨fun _ => rfl, fun hh => absurd (fun x hx => absurd hx (by simp)) hh⟩
  | d + 1, i, k, h => by
    have hi : i < l.length := by omega
    have hw := wrap_nat i (by omega)
    obtain ⟨ih1, ih2⟩ := dearer_l0 l hl c m d (i + 1) k (by omega)
    have htake : (l.take (i + 1)).map (dearS c m) = (l.take i).map (dearS c m) ++ [dearS c m (rd_T30 l (i : Int))] := by
      rw [List.take_add_one, List.getElem?_eq_getElem hi, List.map_append, show rd_T30 l (i : Int) = l[i] from by simp [rd_T30, List.getD, List.getElem?_eq_getElem hi]]
      rfl
    have hstep : trishawlaw03_dearer.l0 (k + 2 * (d + 1) + 1) l c m ((l.take i).map (dearS c m)) (i : Int) = trishawlaw03_dearer.j1 (k + 2 * d + 1 + 1) l c m ((l.take i).map (dearS c m)) (i : Int) (dearS c m (rd_T30 l (i : Int))).f0 (dearS c m (rd_T30 l (i : Int))).f1 (dearS c m (rd_T30 l (i : Int))).f2 := by
      rw [show k + 2 * (d + 1) + 1 = (k + 2 * d + 1 + 1) + 1 from by omega, trishawlaw03_dearer.l0, if_pos (by omega), if_pos (by omega)]
      unfold dearS
      by_cases e : (rd_T30 l (i : Int)).f1 = c
      · rw [if_pos e, if_pos e]
      · rw [if_neg e, if_neg e]
    rw [hstep, trishawlaw03_dearer.j1, hw]
    rw [htake] at ih1 ih2
    have hdrop : l.drop i = rd_T30 l (i : Int) :: l.drop (i + 1) := drop_rd30 l i hi
    rw [hdrop]
    by_cases hgt : (dearS c m (rd_T30 l (i : Int))).f2 > 1000
    · rw [if_pos hgt]
      exact ⟨fun hh => by have := hh _ List.mem_cons_self; omega, fun _ => rfl⟩
    · rw [if_neg hgt, if_pos (by simp; omega)]
      refine ⟨fun hh => ih1 fun x hx => hh x (List.mem_cons_of_mem _ hx), fun hh => ih2 fun h2 => hh fun x hx => ?_⟩
      rcases List.mem_cons.1 hx with rfl | hx
      · omega
      · exact h2 x hx
theorem dearer_f (l : List S30) (hl : l.length ≤ 30) (c m : Int) (k : Nat) (hk : 100 ≤ k) : ((∀ x ∈ l, (dearS c m x).f2 ≤ 1000) → trishawlaw03_dearer.f k l c m = some (l.map (dearS c m), true)) ∧ (¬ (∀ x ∈ l, (dearS c m x).f2 ≤ 1000) → trishawlaw03_dearer.f k l c m = some ([], false)) := by
  have := dearer_l0 l hl c m l.length 0 (k - 2 * l.length - 1) (by omega)
  rw [show k - 2 * l.length - 1 + 2 * l.length + 1 = k from by omega, List.drop_zero, List.take_zero] at this
  exact this
theorem dear_rd30 (l : List S30) (c m : Int) (i : Nat) (h : i < l.length) : rd_T30 (l.map (dearS c m)) (i : Int) = dearS c m (rd_T30 l (i : Int)) := by
  have e1 : rd_T30 (l.map (dearS c m)) (i : Int) = (l.map (dearS c m))[i]'(by simp; exact h) := by
    simp [rd_T30, List.getD, List.getElem?_eq_getElem h]
  have e2 : rd_T30 l (i : Int) = l[i] := by simp [rd_T30, List.getD, List.getElem?_eq_getElem h]
  rw [e1, e2]
  simp
theorem dear_ends (l : List S30) (c m : Int) : SameEnds l (l.map (dearS c m)) := by
  refine ⟨by simp, fun i hi => ?_⟩
  unfold aW bW
  rw [dear_rd30 l c m i hi]
  exact ⟨rfl, rfl⟩
theorem dear_cost (hx : ∀ x ∈ l, wayOk n x = true) (c : Nat) (m : Int) (hm0 : 0 ≤ m) (hm : m ≤ 1000) (i : Nat) (h : i < l.length) : costW (l.map (dearS (c : Int) m)) i = costW l i + if bW l i = c then m else 0 := by
  have h1 := cost_low hx i h
  have h2 := (bW_eq hx i h).1
  unfold costW at h1 ⊢
  rw [dear_rd30 l _ m i h]
  unfold dearS
  dsimp only
  by_cases e : bW l i = c
  · rw [if_pos (by omega), if_pos e]; unfold wrap64; omega
  · rw [if_neg (by omega), if_neg e]; omega
theorem dear_read (hr : readB (n : Int) l = 0) (c m : Int) (hm0 : 0 ≤ m) (hm : m ≤ 1000) (hok : ∀ x ∈ l, (dearS c m x).f2 ≤ 1000) : readB (n : Int) (l.map (dearS c m)) = 0 := by
  obtain ⟨h2, h7, h30, hx⟩ := readB_ok hr
  unfold readB
  rw [if_neg (by omega), if_neg (by simp; omega), if_pos]
  rw [List.all_eq_true]
  intro y hy
  obtain ⟨x, hxm, rfl⟩ := List.mem_map.1 hy
  obtain ⟨a1, a2, a3, a4, a5, a6, a7⟩ := (wayOk_iff _ _).1 (hx x hxm)
  refine (wayOk_iff _ _).2 ⟨a1, a2, a3, a4, a5, ?_, hok x hxm⟩
  unfold dearS
  dsimp only
  split
  · unfold wrap64; omega
  · exact a6
/-- One corner's streets cost more: so does each branching. -/
theorem costF_dear (hx : ∀ x ∈ l, wayOk n x = true) (c : Nat) (hc0 : 0 < c) (hc : c < n) (m : Int) (hm0 : 0 ≤ m) (hm : m ≤ 1000) (hf : BrB n l f) : costF n (costW (l.map (dearS (c : Int) m))) f = costF n (costW l) f + m := by
  have h1 : costF n (costW (l.map (dearS (c : Int) m))) f = costF n (fun i => costW l i + if bW l i = c then m else 0) f := costF_congr fun d d0 d1 => dear_cost hx c m hm0 hm _ (hf.on d d0 d1).1
  have h2 : costF n (fun i => costW l i + if bW l i = c then m else 0) f = costF n (costW l) f + costF n (fun i => if bW l i = c then m else 0) f := by
    unfold costF
    rw [← sumZ_add]
    refine sumZ_congr n fun d _ => ?_
    by_cases e : d = 0
    · rw [if_pos e, if_pos e, if_pos e]; rfl
    · rw [if_neg e, if_neg e, if_neg e]
  have h3 : costF n (fun i => if bW l i = c then m else 0) f = m := by
    unfold costF
    have : sumZ (fun d => if d = 0 then 0 else (fun i => if bW l i = c then m else 0) (f d)) n = sumZ (fun d => if d = c then m else 0) n := by
      refine sumZ_congr n fun d hd => ?_
      by_cases e : d = 0
      · rw [if_pos e, if_neg (by omega)]
      · rw [if_neg e]
        dsimp only
        rw [(hf.on d (by omega) hd).2]
    rw [this, sumZ_pick, if_pos hc]
  rw [h1, h2, h3]
end
end Go.Proofs.Ytpmadffgdfholaa.B
namespace Go.Proofs.Ytpmadffgdfholaa.Pure
set_option linter.unusedVariables false
open Go.RowKit Go.Proofs.Ytpmadffgdfholaa.B Go.Proofs.YtpmadffgdfholaaW.PrintWords Go.Proofs.YtpmadffgdfholaaW.PrintLast Go.Proofs.YtpmadffgdfholaaW.PrintMore
theorem costs_turn (l : List S30) (hl : l.length ≤ 30) (n a2 a3 : Int) (x9 : List Int) (x10 x11 : Int) (x12 : List Int) (x13 x14 : Int) : ∀ (d i k : Nat), i + d = l.length →
    trishawlaw03_BranchCosts.l0 (k + d + 1) n l a2 a3 x9 x10 x11 x12 x13 x14 (turnL (l.take i)) (i : Int) = (branch_Branching.f k n (turnL l)).bind fun bt120 => (if x11 = x14 then (trishawlaw03_BranchCosts.j2 k n l a2 a3 x9 x10 x11 x12 x13 bt120.1 bt120.2.1 (x11 != bt120.2.2)) else (trishawlaw03_BranchCosts.j2 k n l a2 a3 x9 x10 x11 x12 x13 bt120.1 bt120.2.1 true))
  | 0, i, k, h => by
    rw [show k + 0 + 1 = k + 1 from rfl, trishawlaw03_BranchCosts.l0, if_neg (by omega), List.take_of_length_le (by omega)]
  | d + 1, i, k, h => by
    have hi : i < l.length := by omega
    have hw := wrap_nat i (by omega)
    have ih := costs_turn l hl n a2 a3 x9 x10 x11 x12 x13 x14 d (i + 1) k (by omega)
    have htake : turnL (l.take (i + 1)) = turnL (l.take i) ++ [(⟨(rd_T30 l (i : Int)).f0, (rd_T30 l (i : Int)).f1, wrap64 (1000 - (rd_T30 l (i : Int)).f2)⟩ : S30)] := by
      unfold turnL
      rw [List.take_add_one, List.getElem?_eq_getElem hi, List.map_append, show rd_T30 l (i : Int) = l[i] from by simp [rd_T30, List.getD, List.getElem?_eq_getElem hi]]
      rfl
    rw [show k + (d + 1) + 1 = (k + d + 1) + 1 from by omega, trishawlaw03_BranchCosts.l0, if_pos (by omega), if_pos (by omega), if_pos (by simp [turnL]; omega), hw, ← htake]
    exact ih
theorem BranchCosts : trishawlaw03_BranchCosts.Pure := by
  intro a0 l1 a2 a3 _ _ _ hw2 hw3
  have al := fun k hk => alive_from k hk
  obtain ⟨q, hq⟩ : ∃ q, q = 4000 := ⟨_, rfl⟩
  have hj : trishawlaw03_BranchCosts.j0 (q + l1.length + 4) a0 l1 a2 a3 true = some true := by
    rw [trishawlaw03_BranchCosts.j0, if_pos rfl, al _ (by omega)]; rfl
  refine ⟨q + l1.length + 4, ?_⟩
  unfold trishawlaw03_BranchCosts.f
  by_cases hf : (l1.length : Int) ≤ 60
  case neg => unfold trishawlaw03_few.f; rw [if_neg hf, Option.bind_some, if_neg (by decide)]; exact hj
  have hfew : trishawlaw03_few.f l1 [] = some true := by unfold trishawlaw03_few.f; rw [if_pos hf]; rfl
  rw [hfew, Option.bind_some, if_pos rfl, town_eq a0 l1 _ (.inr (by omega)), Option.bind_some]
  by_cases hr : readB a0 l1 = 0
  case neg => rw [show (readB a0 l1 != 0) = true from bne_iff_ne.mpr hr]; exact hj
  clear hj
  obtain ⟨h2, h7, h30, hx⟩ := readB_ok hr
  obtain ⟨n, rfl⟩ := Int.eq_ofNat_of_zero_le (show 0 ≤ a0 by omega)
  rw [hr, show ((0 : Int) != 0) = false from rfl, trishawlaw03_BranchCosts.j0, if_neg (by decide)]
  have hrT := turnL_read hr
  have hT := turnL_ends l1
  have hsame : ∀ E : List Int, E.length ≤ 1000 → ∀ k, 1100 ≤ k → trishawlaw03_same.f k E E = some true := by
    intro E hE k hk
    have hs := same_self E hE E.length 0 (k - E.length - 1) (by omega)
    rw [show k - E.length - 1 + E.length + 1 = k from by omega] at hs
    unfold trishawlaw03_same.f
    rw [if_pos rfl]; exact hs
  have hlen : ∀ f, (listB n l1 f).length ≤ 1000 := fun f => by have := selL_length (useB n (bW l1) f) l1.length; unfold listB; omega
  have hturn := fun x9 x10 x11 x12 x13 x14 => costs_turn l1 h30 (n : Int) a2 a3 x9 x10 x11 x12 x13 x14 l1.length 0 (q + 2) (by omega)
  have hk3 : q + 2 + l1.length + 1 = q + l1.length + 3 := by omega
  rcases branching_spec hr with ⟨f, v, hfb, hk⟩ | ⟨hno, hk⟩
  · rcases dear_spec hr with ⟨g, w, hgb, hk2⟩ | ⟨hno, _⟩
    case inr => exact absurd hfb.is (hno f)
    rcases branching_spec hrT with ⟨t, u, htb, hk4⟩ | ⟨hnoT, _⟩
    case inr => exact absurd (hT.brB.2 hfb.is) (hnoT f)
    rw [hk _ (by omega), Option.bind_some, hk2 _ (by omega), Option.bind_some]
    have ht := hturn (listB n l1 f) v 0 (listB n l1 g) w 0
    rw [hk3, hk4 _ (by omega), Option.bind_some, if_pos rfl] at ht
    refine ht.trans ?_
    -- the turned ones
    have htb2 : FirstB n l1 (fun i => 1000 - costW l1 i) u t := (hT.first htb).congr fun i hi => turnL_cost hx i hi
    obtain ⟨eL, eu⟩ := hgb.unique htb2 (d := 0) (fun s _ => by omega)
    rw [hT.use]
    show trishawlaw03_BranchCosts.j2 (q + 2) (n : Int) l1 a2 a3 (listB n l1 f) v 0 (listB n l1 g) w (listB n l1 t) u false = some true
    have hn1 : wrap64 ((n : Int) - 1) = (n : Int) - 1 := by unfold wrap64; omega
    have hwb := costF_low (n := n) (l := l1) (by omega) (by omega) (fun i hi => cost_low hx i hi) hgb.is
    have hgc := hgb.cost
    rw [costF_neg (by omega)] at hgc
    have hu2 : u = wrap64 (wrap64 (wrap64 ((n : Int) - 1) * 1000) - w) := by
      rw [hn1]
      have : wrap64 (((n : Int) - 1) * 1000) = ((n : Int) - 1) * 1000 := by unfold wrap64; omega
      rw [this]
      unfold wrap64; omega
    have hvw : ¬ v > w := by
      have := hfb.least g hgb.is
      omega
    rw [trishawlaw03_BranchCosts.j2, if_neg (by decide), if_pos rfl, ← eL, hsame _ (hlen g) _ (by omega), Option.bind_some, if_pos rfl, if_pos hu2, decide_eq_false hvw]
    -- the corner and the number
    have ha2 : 0 ≤ a2 ∧ a2 ≤ 255 := by
      simp only [Lit.wf, Bool.and_eq_true, decide_eq_true_eq] at hw2
      exact ⟨hw2.1, hw2.2⟩
    have ha3 : 0 ≤ a3 ∧ a3 ≤ 65535 := by
      simp only [Lit.wf, Bool.and_eq_true, decide_eq_true_eq] at hw3
      exact ⟨hw3.1, hw3.2⟩
    obtain ⟨c, hc0, hc1, hc⟩ : ∃ c : Nat, 0 < c ∧ c < n ∧ wrap64 (1 + Int.tmod (wrap64 a2) (wrap64 ((n : Int) - 1))) = (c : Int) := by
      have e1 : wrap64 a2 = a2 := by unfold wrap64; omega
      rw [hn1, e1, Int.tmod_eq_emod_of_nonneg ha2.1]
      have b1 := Int.emod_nonneg a2 (show (n : Int) - 1 ≠ 0 by omega)
      have b2 := Int.emod_lt_of_pos a2 (show (0 : Int) < (n : Int) - 1 by omega)
      generalize a2 % ((n : Int) - 1) = z at b1 b2
      exact ⟨(1 + z).toNat, by omega, by omega, by unfold wrap64; omega⟩
    obtain ⟨m, hm0, hm1, hm⟩ : ∃ m : Int, 0 ≤ m ∧ m ≤ 1000 ∧ wrap64 (Int.tmod a3 1001) = m := by
      rw [Int.tmod_eq_emod_of_nonneg ha3.1]
      exact ⟨a3 % 1001, by omega, by omega, by unfold wrap64; omega⟩
    rw [trishawlaw03_BranchCosts.j3, if_neg (by decide), if_neg (by omega), hc, hm]
    obtain ⟨d1, d2⟩ := dearer_f l1 h30 (c : Int) m q (by omega)
    by_cases hok : ∀ x ∈ l1, (dearS (c : Int) m x).f2 ≤ 1000
    · have hrD := dear_read hr (c : Int) m hm0 hm1 hok
      have hD := dear_ends l1 (c : Int) m
      rw [d1 hok, Option.bind_some, if_pos rfl]
      rcases branching_spec hrD with ⟨f', v', hfb', hk'⟩ | ⟨hno', _⟩
      case inr => exact absurd (hD.brB.2 hfb.is) (hno' f)
      rcases dear_spec hrD with ⟨g', w', hgb', hk2'⟩ | ⟨hno', _⟩
      case inr => exact absurd (hD.brB.2 hfb.is) (hno' f)
      obtain ⟨e1, e2⟩ := hfb.unique (hD.first hfb') (d := m) (fun s hs => costF_dear hx c hc0 hc1 m hm0 hm1 hs)
      obtain ⟨e3, e4⟩ := hgb.unique (hD.first hgb') (d := -m) (fun s hs => by
        rw [costF_neg (by omega), costF_neg (by omega), costF_dear hx c hc0 hc1 m hm0 hm1 hs]; omega)
      have hvb := costF_low (n := n) (l := l1) (by omega) (by omega) (fun i hi => cost_low hx i hi) hfb.is
      have hfc := hfb.cost
      have w1 : v' = wrap64 (v + m) := by unfold wrap64; omega
      have w2 : w' = wrap64 (w + m) := by unfold wrap64; omega
      rw [hk' _ (by omega), Option.bind_some, hk2' _ (by omega), Option.bind_some, if_pos rfl, if_pos rfl, hD.use, hD.use, ← e1, ← e3]
      rw [hsame _ (hlen f) _ (by omega), Option.bind_some, if_pos rfl, if_pos w1, hsame _ (hlen g) _ (by omega), Option.bind_some, if_pos rfl, if_pos w2, al _ (by omega)]; rfl
    · rw [d2 hok, Option.bind_some, if_neg (show ¬ (false = true) by decide), al _ (by omega)]; rfl
  · rcases dear_spec hr with ⟨g, w, hgb, hk2⟩ | ⟨_, hk2⟩
    · exact absurd hgb.is (hno g)
    rcases branching_spec hrT with ⟨t, u, htb, hk4⟩ | ⟨_, hk4⟩
    · exact absurd (hT.brB.1 htb.is) (hno t)
    rw [hk _ (by omega), Option.bind_some, hk2 _ (by omega), Option.bind_some]
    have ht := hturn [] 0 10 [] 0 10
    rw [hk3, hk4 _ (by omega), Option.bind_some, if_pos rfl] at ht
    refine ht.trans ?_
    show trishawlaw03_BranchCosts.j2 (q + 2) (n : Int) l1 a2 a3 [] 0 10 [] 0 [] 0 false = some true
    rw [trishawlaw03_BranchCosts.j2, if_neg (by decide), if_neg (by decide), if_pos rfl, al _ (by omega)]; rfl
end Go.Proofs.Ytpmadffgdfholaa.Pure
