/- Texts behind the row of BranchNarrows, part 6: contracts of the functions it reaches, words that their walks use, and lemmas in plain Lean. -/
import Derived.Below
import Derived.Deep.Draws
import Derived.Deep.AppendLies
import Derived.Maps.AppendAt
import Derived.OwnWalk
import Derived.Laws.BytesArg
import Derived.Laws.MakeOwn
import Derived.Laws.OwnMore
import Derived.Deep.OwnRows
import Derived.Tactics
import Derived.Lib.ConvBytes
import Derived.Laws.Slices
import Derived.WalkKit
import Derived.KernelRfl
import Derived.RowKit3
import Derived.Deep.LoopGhost
import Derived.Deep.QuietTactic
import Derived.BigQuiet
import Derived.WideLaws
import Derived.Deep.DeepCutAuto
import Derived.Deep.CutBlock
import Derived.Deep.RegionHeld3
import Derived.Laws.Rows
import Derived.Lib.AppendStr
import Derived.ArgAppend
import Derived.Laws.IdiomCopy
import Derived.RowKit
import Derived.OrdersHeld
import Derived.Laws.BitsLemmas
import Derived.Test.YtpmadffgdfholaaProg
import Derived.Laws.StructEq
import Derived.MapKept
import Derived.WalkSpells
import Derived.Deep.DrawnRows
import Derived.Maps.RangeWalk
import Derived.Laws.EntriesVeiled
import Derived.Shelf.SlSortCmp.NoneTotal
import Derived.Shelf.SortM.Plain
import Derived.Shelf.Lay
import Derived.Ground.SlsfProg
import Derived.Ground.SlgmProg
import Derived.Shelf.SlicesG.Cmp
import Derived.Ground.SlgcProg
import Derived.Deep.Slices
import Derived.Deep.Fields
import Derived.ChangeSame
import Derived.Test.YtpmadffgdfholaaM1
import Derived.Test.YtpmadffgdfholaaM2
import Derived.Test.YtpmadffgdfholaaM3
import Derived.Test.YtpmadffgdfholaaM4
import Derived.Test.YtpmadffgdfholaaM5
namespace Go.Proofs.Ytpmadffgdfholaa.B
set_option linter.unusedVariables false
open Go.RowKit Go.Proofs.YtpmadffgdfholaaW.PrintWords Go.Proofs.YtpmadffgdfholaaW.PrintLast Go.Proofs.YtpmadffgdfholaaW.PrintMore
/-- Where street i begins, and where it ends. -/
def aW (l : List S30) (i : Nat) : Nat := (rdT l (i : Int)).f0.toNat
def bW (l : List S30) (i : Nat) : Nat := (rdT l (i : Int)).f1.toNat
theorem tb_one (b c : Nat) : (1 <<< b).testBit c = decide (c = b) := by
  rw [Nat.shiftLeft_eq, Nat.one_mul, Nat.testBit_two_pow]
  exact decide_eq_decide.mpr eq_comm
theorem tb_or (s b c : Nat) : (s ||| 1 <<< b).testBit c = (s.testBit c || decide (c = b)) := by
  rw [Nat.testBit_or, tb_one]
theorem step_sub (s : Nat) (x : S30) (c : Nat) (h : s.testBit c = true) : (stepS s x).testBit c = true := by
  unfold stepS
  split
  · rw [tb_or, h]; rfl
  · exact h
theorem pass_sub (l : List S30) : ∀ (L : List Int) (s c : Nat), s.testBit c = true → (passS l L s).testBit c = true
  | [], _, _, h => h
  | i :: L, s, c, h => pass_sub l L (stepS s (rdT l i)) c (step_sub s _ c h)
theorem it_sub (l : List S30) (L : List Int) : ∀ (d s c : Nat), s.testBit c = true → (itS l L d s).testBit c = true
  | 0, _, _, h => h
  | d + 1, s, c, h => it_sub l L d _ c (pass_sub l L s c h)
theorem it_iter (l : List S30) (L : List Int) : ∀ d s, itS l L (d + 1) s = passS l L (itS l L d s)
  | 0, _ => rfl
  | d + 1, s => by show itS l L (d + 1) (passS l L s) = passS l L (itS l L d (passS l L s)); exact it_iter l L d _
theorem pass_closed (l : List S30) : ∀ (L : List Int) (s : Nat), passS l L s = s → ∀ i ∈ L, s.testBit (rdT l i).f0.toNat = true → s.testBit (rdT l i).f1.toNat = true
  | [], _, _, i, hi, _ => absurd hi (by simp)
  | j :: L, s, h, i, hi, ha => by
    have h1 : passS l L (stepS s (rdT l j)) = s := h
    have e : stepS s (rdT l j) = s := by
      refine Nat.eq_of_testBit_eq fun c => ?_
      cases hc : s.testBit c with
      | true => exact step_sub s _ c hc
      | false =>
        cases hd : (stepS s (rdT l j)).testBit c with
        | false => rfl
        | true =>
          have := pass_sub l L _ c hd
          rw [h1, hc] at this
          exact absurd this (by decide)
    rw [e] at h1
    rcases List.mem_cons.1 hi with rfl | hi
    · rw [← e]
      unfold stepS
      rw [if_pos ha, tb_or]
      simp
    · exact pass_closed l L s h1 i hi ha
section
variable {n : Nat} {l : List S30} {L : List Int}
theorem pass_sound (hL : InL n l L) : ∀ (L' : List Int), (∀ i ∈ L', i ∈ L) → ∀ (s c : Nat), (passS l L' s).testBit c = true → ∃ e, s.testBit e = true ∧ Rc (aW l) (bW l) (fun i => (i : Int) ∈ L) e c
  | [], _, _, c, h => ⟨c, h, .refl⟩
  | i :: L', hs, s, c, h => by
    obtain ⟨e, he, hr⟩ := pass_sound hL L' (fun j hj => hs j (List.mem_cons_of_mem _ hj)) (stepS s (rdT l i)) c h
    unfold stepS at he
    split at he
    · rename_i ha
      rw [tb_or] at he
      rcases Bool.or_eq_true_iff.1 he with he | he
      · exact ⟨e, he, hr⟩
      · have h2 := hL i (hs i List.mem_cons_self)
        have hi : ((i.toNat : Nat) : Int) = i := by omega
        have e1 : e = bW l i.toNat := by unfold bW; rw [hi]; exact of_decide_eq_true he
        have ea : (rdT l i).f0.toNat = aW l i.toNat := by unfold aW; rw [hi]
        rw [ea] at ha
        refine ⟨aW l i.toNat, ha, Rc.trans (Rc.one (i := i.toNat) (by rw [hi]; exact hs i List.mem_cons_self)) (e1 ▸ hr)⟩
    · exact ⟨e, he, hr⟩
theorem it_sound (hL : InL n l L) : ∀ (d s c : Nat), (itS l L d s).testBit c = true → ∃ e, s.testBit e = true ∧ Rc (aW l) (bW l) (fun i => (i : Int) ∈ L) e c
  | 0, _, c, h => ⟨c, h, .refl⟩
  | d + 1, s, c, h => by
    obtain ⟨e, he, hr⟩ := it_sound hL d _ c h
    obtain ⟨e2, he2, hr2⟩ := pass_sound hL L (fun _ h => h) s e he
    exact ⟨e2, he2, hr2.trans hr⟩
/-- The closure of a set is what is reached from it. -/
theorem closure_iff (hn : n ≤ 7) (hL : InL n l L) {d c : Nat} (hd : d < n) : (itS l L n (1 <<< d)).testBit c = true ↔ Rc (aW l) (bW l) (fun i => (i : Int) ∈ L) d c := by
  have hlt : 1 <<< d < 2 ^ n := by rw [Nat.shiftLeft_eq, Nat.one_mul]; exact Nat.pow_lt_pow_right (by decide) hd
  constructor
  · intro h
    obtain ⟨e, he, hr⟩ := it_sound hL n _ c h
    rw [tb_one] at he
    rw [of_decide_eq_true he] at hr
    exact hr
  · intro hr
    have hfix : passS l L (itS l L n (1 <<< d)) = itS l L n (1 <<< d) := by
      rw [← it_iter]
      exact it_stop hn hL n _ hlt (by omega)
    refine hr.closed (S := fun c => (itS l L n (1 <<< d)).testBit c = true) (it_sub l L n _ d (by rw [tb_one]; simp)) fun i hi ha => ?_
    exact pass_closed l L _ hfix _ hi ha
theorem Rc.lt (hL : InL n l L) {d c : Nat} (hd : d < n) (hr : Rc (aW l) (bW l) (fun i => (i : Int) ∈ L) d c) : c < n := by
  refine hr.closed (S := fun c => c < n) hd fun i hi _ => ?_
  have h := (wayOk_iff n _).1 (hL _ hi).2.2
  unfold bW
  omega
end
end Go.Proofs.Ytpmadffgdfholaa.B
namespace Go.Proofs.Ytpmadffgdfholaa.B
set_option linter.unusedVariables false
open Go.RowKit Go.Proofs.YtpmadffgdfholaaW.PrintWords Go.Proofs.YtpmadffgdfholaaW.PrintLast Go.Proofs.YtpmadffgdfholaaW.PrintMore
def cntN (P : Nat → Bool) : Nat → Nat
  | 0 => 0
  | k + 1 => cntN P k + if P k then 1 else 0
theorem cntN_le {P Q : Nat → Bool} : ∀ k, (∀ i, i < k → P i = true → Q i = true) → cntN P k ≤ cntN Q k
  | 0, _ => Nat.le_refl _
  | k + 1, h => by
    have ih := cntN_le k (fun i hi => h i (by omega))
    have hk := h k (by omega)
    simp only [cntN]
    cases hP : P k with
    | false => simp; split <;> omega
    | true => simp [hk hP]; exact ih
theorem hasB_nat {s c : Nat} (hs : s < 128) (hc : c < 7) : hasB (s : Int) (c : Int) = s.testBit c := by
  have h := fin_and ⟨s, hs⟩ ⟨c, hc⟩
  simp only [] at h
  unfold hasB
  cases ht : s.testBit c with
  | true => exact beq_iff_eq.mpr (h.2 ht)
  | false => exact beq_eq_false_iff_ne.mpr fun e => by rw [h.1 e] at ht; exact absurd ht (by decide)
/-- The streets that are not out. -/
def onT (l : List S30) (og : Int → Bool) (i : Nat) : Prop := i < l.length ∧ og (i : Int) = false
section
variable {n : Nat} {l : List S30}
end
end Go.Proofs.Ytpmadffgdfholaa.B
namespace Go.Proofs.Ytpmadffgdfholaa.B
set_option linter.unusedVariables false
open Go.RowKit Go.Proofs.YtpmadffgdfholaaW.PrintWords Go.Proofs.YtpmadffgdfholaaW.PrintLast Go.Proofs.YtpmadffgdfholaaW.PrintMore
/-- Street i enters the set q. -/
def entB (l : List S30) (q : Nat) (i : Nat) : Bool := !q.testBit (aW l i) && q.testBit (bW l i)
def entL (l : List S30) (q : Nat) : List Int := ((List.range l.length).filter (entB l q)).map fun i : Nat => (i : Int)
theorem entL_nat (l : List S30) (q : Nat) : ∀ x ∈ entL l q, ∃ i : Nat, x = (i : Int) ∧ i < l.length := by
  intro x hx
  unfold entL at hx
  obtain ⟨i, hi, rfl⟩ := List.mem_map.1 hx
  exact ⟨i, rfl, by have := (List.mem_filter.1 hi).1; simpa using this⟩
theorem entL_length (l : List S30) (q : Nat) : (entL l q).length ≤ l.length := by
  unfold entL
  rw [List.length_map]
  exact Nat.le_trans (List.length_filter_le _ _) (by simp)
theorem entR_eq (l : List S30) (q : Nat) : ∀ (d i : Nat) (acc : List Int), i + d = l.length → acc = ((List.range i).filter (entB l q)).map (fun i : Nat => (i : Int)) → entR l q d i acc = entL l q
  | 0, i, acc, h, e => by
    obtain rfl : i = l.length := by omega
    exact e
  | d + 1, i, acc, h, e => by
    rw [entR]
    refine entR_eq l q d (i + 1) _ (by omega) ?_
    rw [List.range_succ, List.filter_append, List.map_append, ← e]
    have hb : (entB l q i = true) ↔ (q.testBit (rdT l (i : Int)).f0.toNat = false ∧ q.testBit (rdT l (i : Int)).f1.toNat = true) := by
      unfold entB aW bW
      rw [Bool.and_eq_true, Bool.not_eq_true']
    by_cases hc : entB l q i = true
    · rw [if_pos (hb.1 hc), List.filter_cons_of_pos hc]
      rfl
    · rw [if_neg (fun h => hc (hb.2 h)), List.filter_cons_of_neg hc]
      simp
theorem entering_f {n : Nat} {l : List S30} (hn : n ≤ 7) (hl : l.length ≤ 30) (hx : ∀ x ∈ l, wayOk n x = true) {q : Nat} (hq : q < 128) (k : Nat) (hk : 40 ≤ k) : bEnt_.f k (n : Int) l (q : Int) = some (entL l q) := by
  have c1 := ent_code (n := (n : Int)) (l := l) (s := q) (by omega) (by omega) hx hq l.length 0 (k - l.length - 1) [] (by omega) (by simp)
  rw [show k - l.length - 1 + l.length + 1 = k from by omega, entR_eq l q l.length 0 [] (by omega) (by simp)] at c1
  unfold bEnt_.f
  exact c1
section
variable {n : Nat} {l : List S30}
end
/-- A set of corners, as_ a price names it. -/
def IsSetN (n : Nat) (s : Int) : Prop := 0 < s ∧ s < 2 ^ n ∧ s.toNat.testBit 0 = false
section
variable {n : Nat} {l : List S30}
end
end Go.Proofs.Ytpmadffgdfholaa.B
namespace Go.Proofs.Ytpmadffgdfholaa.B
set_option linter.unusedVariables false
open Go.RowKit Go.Proofs.YtpmadffgdfholaaW.PrintWords Go.Proofs.YtpmadffgdfholaaW.PrintLast Go.Proofs.YtpmadffgdfholaaW.PrintMore
/-- Is street j one of the branching's? -/
def useB (n : Nat) (b : Nat → Nat) (f : Nat → Nat) (j : Nat) : Bool := decide (0 < b j) && decide (b j < n) && decide (f (b j) = j)
theorem useB_iff {n : Nat} {b f : Nat → Nat} {j : Nat} : useB n b f j = true ↔ 0 < b j ∧ b j < n ∧ f (b j) = j := by
  unfold useB
  simp [and_assoc]
/-- The indices of a choice of streets, ascending. -/
def selL (X : Nat → Bool) (i : Nat) : List Int := ((List.range i).filter X).map fun j : Nat => (j : Int)
theorem selL_succ (X : Nat → Bool) (i : Nat) : selL X (i + 1) = if X i = true then selL X i ++ [(i : Int)] else selL X i := by
  unfold selL
  rw [List.range_succ, List.filter_append, List.map_append]
  by_cases h : X i = true
  · rw [if_pos h, List.filter_cons_of_pos h]; rfl
  · rw [if_neg h, List.filter_cons_of_neg h]; simp
theorem selL_mem (X : Nat → Bool) (i j : Nat) : (j : Int) ∈ selL X i ↔ j < i ∧ X j = true := by
  unfold selL
  simp only [List.mem_map, List.mem_filter, List.mem_range]
  constructor
  · rintro ⟨q, h, e⟩
    obtain rfl : q = j := by omega
    exact h
  · exact fun h => ⟨j, h, rfl⟩
theorem selL_nat (X : Nat → Bool) (i : Nat) : ∀ x ∈ selL X i, ∃ j : Nat, x = (j : Int) ∧ j < i ∧ X j = true := by
  intro x hx
  unfold selL at hx
  obtain ⟨j, hj, rfl⟩ := List.mem_map.1 hx
  have := List.mem_filter.1 hj
  exact ⟨j, rfl, List.mem_range.1 this.1, this.2⟩
/-- Streets X come first before streets Y, up to i: they are the same, or where they differ for the first time, X has the street. -/
def Ahead (X Y : Nat → Bool) (i : Nat) : Prop := (∀ j, j < i → X j = Y j) ∨ ∃ j, j < i ∧ (∀ q, q < j → X q = Y q) ∧ X j = true ∧ Y j = false
/-- The first branching of the least cost. -/
structure FirstB (n : Nat) (l : List S30) (p : Nat → Int) (v : Int) (f : Nat → Nat) : Prop where
  is : IsB n (aW l) (bW l) (fun i => i < l.length) f
  cost : costF n p f = v
  least : ∀ g, IsB n (aW l) (bW l) (fun i => i < l.length) g → v ≤ costF n p g
  ahead : ∀ g, IsB n (aW l) (bW l) (fun i => i < l.length) g → costF n p g = v → Ahead (useB n (bW l) f) (useB n (bW l) g) l.length
/-- What stands ahead of street i. -/
structure FsInv (n : Nat) (l : List S30) (p : Nat → Int) (v : Int) (i : Nat) (X : Nat → Bool) (gone : Int → Bool) : Prop where
  some : ∃ f, IsB n (aW l) (bW l) (onT l gone) f ∧ costF n p f = v
  below : ∀ j, j < i → (X j = true ↔ gone (j : Int) = false)
  lone : ∀ j, j < i → X j = true → 0 < bW l j ∧ ∀ q, q < l.length → bW l q = bW l j → q ≠ j → gone (q : Int) = true
  why : ∀ q, i ≤ q → q < l.length → gone (q : Int) = true → ∃ j, j < i ∧ X j = true ∧ bW l q = bW l j
  first : ∀ g, IsB n (aW l) (bW l) (fun i => i < l.length) g → costF n p g = v → Ahead X (useB n (bW l) g) i
section
variable {n : Nat} {l : List S30} {p : Nat → Int} {v : Int}
theorem bW_eq {n : Nat} (hx : ∀ x ∈ l, wayOk n x = true) (i : Nat) (h : i < l.length) : (rdT l (i : Int)).f1 = (bW l i : Int) ∧ (rdT l (i : Int)).f0 = (aW l i : Int) ∧ bW l i < n ∧ aW l i < n := by
  have := (wayOk_iff n _).1 (hx _ (rd_T30_mem l i h))
  unfold bW aW
  omega
/-- Streets that agree with the list up to i are not gone. -/
theorem FsInv.agree {i : Nat} {X : Nat → Bool} {gone : Int → Bool} (h : FsInv n l p v i X gone) {g : Nat → Nat} (hg : IsB n (aW l) (bW l) (fun i => i < l.length) g) (ha : ∀ j, j < i → X j = useB n (bW l) g j) : IsB n (aW l) (bW l) (onT l gone) g := by
  refine hg.within fun c c0 c1 => ⟨(hg.on c c0 c1).1, ?_⟩
  have hb := (hg.on c c0 c1).2
  have hu : useB n (bW l) g (g c) = true := useB_iff.2 ⟨by omega, by omega, by rw [hb]⟩
  by_cases hlt : g c < i
  · exact (h.below _ hlt).1 ((ha _ hlt).trans hu)
  · cases hgo : gone ((g c : Nat) : Int) with
    | false => rfl
    | true =>
      obtain ⟨j, hj, hX, hbj⟩ := h.why (g c) (by omega) (hg.on c c0 c1).1 hgo
      have h2 := useB_iff.1 ((ha j hj).symm.trans hX)
      rw [← hbj, hb] at h2
      omega
theorem FsInv.skip {i : Nat} {X : Nat → Bool} {gone : Int → Bool} (h : FsInv n l p v i X gone) (hX : X i = false) (hno : ∀ g, IsB n (aW l) (bW l) (onT l gone) g → costF n p g = v → useB n (bW l) g i = false) :
    FsInv n l p v (i + 1) X (fun j => decide (j = (i : Int)) || gone j) := by
  refine ⟨?_, fun j hj => ?_, fun j hj hXj => ?_, fun q hq hql hgo => ?_, fun g hg hc => ?_⟩
  · obtain ⟨f, hf, hc⟩ := h.some
    refine ⟨f, hf.within fun c c0 c1 => ⟨(hf.on c c0 c1).1.1, ?_⟩, hc⟩
    dsimp only
    rw [(hf.on c c0 c1).1.2, Bool.or_false, decide_eq_false_iff_not]
    intro e
    have e2 : f c = i := by omega
    have := hno f hf hc
    have hu : useB n (bW l) f (f c) = true := useB_iff.2 ⟨by rw [(hf.on c c0 c1).2]; omega, by rw [(hf.on c c0 c1).2]; omega, by rw [(hf.on c c0 c1).2]⟩
    rw [e2, this] at hu
    exact absurd hu (by decide)
  · by_cases e : j = i
    · subst e; simp [hX]
    · rw [h.below j (by omega), decide_eq_false (by omega), Bool.false_or]
  · have hne : j ≠ i := by rintro rfl; rw [hX] at hXj; exact absurd hXj (by decide)
    obtain ⟨h1, h2⟩ := h.lone j (by omega) hXj
    exact ⟨h1, fun q hq hb hqj => by rw [h2 q hq hb hqj, Bool.or_true]⟩
  · rw [decide_eq_false (by omega), Bool.false_or] at hgo
    obtain ⟨j, hj, h2⟩ := h.why q (by omega) hql hgo
    exact ⟨j, by omega, h2⟩
  · rcases h.first g hg hc with ha | ⟨j, hj, h2⟩
    · refine .inl fun j hj => ?_
      by_cases e : j = i
      · subst e; rw [hX, hno g (h.agree hg ha) hc]
      · exact ha j (by omega)
    · exact .inr ⟨j, by omega, h2⟩
theorem FsInv.take {i : Nat} {X : Nat → Bool} {gone : Int → Bool} (h : FsInv n l p v i X gone) (hX : X i = false) (hb0 : 0 < bW l i) (hil : i < l.length) (more : Int → Bool) (hmore : ∀ q : Nat, q < l.length → (more (q : Int) = true ↔ bW l q = bW l i ∧ q ≠ i)) (hgi : gone (i : Int) = false)
    (hyes : ∃ g, IsB n (aW l) (bW l) (onT l (fun j => gone j || more j)) g ∧ costF n p g = v) (hfree : ∀ j, j < i → X j = true → bW l j ≠ bW l i) :
    FsInv n l p v (i + 1) (fun j => X j || decide (j = i)) (fun j => gone j || more j) := by
  refine ⟨hyes, fun j hj => ?_, fun j hj hXj => ?_, fun q hq hql hgo => ?_, fun g hg hc => ?_⟩
  · by_cases e : j = i
    · subst e
      rw [hgi, Bool.false_or]
      simp only [decide_true, Bool.or_true, true_iff]
      refine Bool.eq_false_iff.mpr fun hm => ?_
      exact ((hmore j hil).1 hm).2 rfl
    · rw [decide_eq_false e, Bool.or_false, h.below j (by omega), Bool.or_eq_false_iff]
      constructor
      · intro hgj
        refine ⟨hgj, Bool.eq_false_iff.mpr fun hm => ?_⟩
        have hXj := (h.below j (by omega)).2 hgj
        exact hfree j (by omega) hXj ((hmore j (by omega)).1 hm).1
      · exact fun hh => hh.1
  · by_cases e : j = i
    · subst e
      exact ⟨hb0, fun q hq hb hqj => by rw [(hmore q hq).2 ⟨hb, hqj⟩, Bool.or_true]⟩
    · rw [decide_eq_false e, Bool.or_false] at hXj
      obtain ⟨h1, h2⟩ := h.lone j (by omega) hXj
      exact ⟨h1, fun q hq hb hqj => by rw [h2 q hq hb hqj, Bool.true_or]⟩
  · rcases Bool.or_eq_true_iff.1 hgo with hgo | hgo
    · obtain ⟨j, hj, hXj, hb⟩ := h.why q (by omega) hql hgo
      exact ⟨j, by omega, by rw [hXj, Bool.true_or], hb⟩
    · exact ⟨i, by omega, by simp, ((hmore q hql).1 hgo).1⟩
  · rcases h.first g hg hc with ha | ⟨j, hj, hq, h2⟩
    · cases hu : useB n (bW l) g i with
      | true =>
        refine .inl fun j hj => ?_
        by_cases e : j = i
        · subst e; rw [hu]; simp
        · dsimp only; rw [decide_eq_false e, Bool.or_false]; exact ha j (by omega)
      | false =>
        refine .inr ⟨i, by omega, fun q hq => ?_, by simp, hu⟩
        dsimp only
        rw [decide_eq_false (by omega), Bool.or_false]; exact ha q hq
    · refine .inr ⟨j, by omega, fun q hq2 => ?_, by dsimp only; rw [h2.1, Bool.true_or], h2.2⟩
      dsimp only
      rw [decide_eq_false (by omega), Bool.or_false]; exact hq q hq2
end
end Go.Proofs.Ytpmadffgdfholaa.B
namespace Go.Proofs.Ytpmadffgdfholaa.B
set_option linter.unusedVariables false
open Go.RowKit Go.Proofs.YtpmadffgdfholaaW.PrintWords Go.Proofs.YtpmadffgdfholaaW.PrintLast Go.Proofs.YtpmadffgdfholaaW.PrintMore
def costW (l : List S30) (i : Nat) : Int := (rdT l (i : Int)).f2
theorem sumZ_swap (g : Nat → Nat → Int) (n : Nat) : ∀ m, sumZ (fun i => sumZ (g i) n) m = sumZ (fun c => sumZ (fun i => g i c) m) n
  | 0 => (sumZ_zero n).symm
  | m + 1 => by
    simp only [sumZ]
    rw [sumZ_swap g n m, ← sumZ_add]
theorem sumZ_pick (x : Int) (t : Nat) : ∀ m, sumZ (fun i => if i = t then x else 0) m = if t < m then x else 0
  | 0 => by simp [sumZ]
  | m + 1 => by
    simp only [sumZ]
    rw [sumZ_pick x t m]
    by_cases h1 : t < m
    · rw [if_pos h1, if_neg (by omega), if_pos (by omega)]; omega
    · by_cases h2 : m = t
      · rw [if_neg h1, if_pos h2, if_pos (by omega)]; omega
      · rw [if_neg h1, if_neg h2, if_neg (by omega)]; rfl
section
variable {n : Nat} {l : List S30} {f : Nat → Nat}
/-- What is summed over the streets of a branching is summed over its corners. -/
theorem sum_used (b : Nat → Nat) (m : Nat) (hf : ∀ c, 0 < c → c < n → f c < m ∧ b (f c) = c) (p : Nat → Int) : sumZ (fun j => if useB n b f j = true then p j else 0) m = costF n p f := by
  have h1 : ∀ j, j < m → (if useB n b f j = true then p j else 0) = sumZ (fun c => if c = 0 then 0 else if j = f c then p j else 0) n := by
    intro j hj
    by_cases hu : useB n b f j = true
    · obtain ⟨u1, u2, u3⟩ := useB_iff.1 hu
      rw [if_pos hu]
      have : sumZ (fun c => if c = 0 then 0 else if j = f c then p j else 0) n = sumZ (fun c => if c = b j then p j else 0) n := by
        refine sumZ_congr n fun c hc => ?_
        by_cases e : c = b j
        · subst e; rw [if_neg (by omega), if_pos u3.symm, if_pos rfl]
        · rw [if_neg e]
          by_cases h0 : c = 0
          · rw [if_pos h0]
          · rw [if_neg h0, if_neg]
            intro h
            have := (hf c (by omega) hc).2
            rw [← h] at this
            exact e this.symm
      rw [this, sumZ_pick, if_pos u2]
    · rw [if_neg hu]
      refine ((sumZ_congr n fun c hc => ?_).trans (sumZ_zero n)).symm
      by_cases h0 : c = 0
      · rw [if_pos h0]
      · rw [if_neg h0, if_neg]
        intro h
        have h2 := (hf c (by omega) hc).2
        rw [← h] at h2
        exact hu (useB_iff.2 ⟨by omega, by omega, by rw [h2, h]⟩)
  rw [sumZ_congr m h1, sumZ_swap (fun j c => if c = 0 then 0 else if j = f c then p j else 0) n m]
  unfold costF
  refine sumZ_congr n fun c hc => ?_
  by_cases h0 : c = 0
  · rw [if_pos h0]
    refine (sumZ_congr m fun i _ => ?_).trans (sumZ_zero m)
    rw [if_pos h0]
  · rw [if_neg h0]
    have : sumZ (fun i => if c = 0 then 0 else if i = f c then p i else 0) m = sumZ (fun i => if i = f c then p (f c) else 0) m := by
      refine sumZ_congr m fun i _ => ?_
      rw [if_neg h0]
      by_cases e : i = f c
      · rw [if_pos e, if_pos e, e]
      · rw [if_neg e, if_neg e]
    rw [this, sumZ_pick, if_pos (hf c (by omega) hc).1]
theorem selL_count (X : Nat → Bool) : ∀ m, ((selL X m).length : Int) = sumZ (fun j => if X j = true then 1 else 0) m
  | 0 => rfl
  | m + 1 => by
    simp only [sumZ]
    rw [selL_succ, ← selL_count X m]
    split
    · rw [List.length_append, List.length_singleton]; omega
    · omega
theorem costF_one (n : Nat) (f : Nat → Nat) : ∀ m, m ≤ n → 1 ≤ m → sumZ (fun c => if c = 0 then 0 else (fun _ => (1 : Int)) (f c)) m = (m : Int) - 1
  | 0, _, h => absurd h (by decide)
  | 1, _, _ => rfl
  | m + 2, h, _ => by
    have ih := costF_one n f (m + 1) (by omega) (by omega)
    rw [sumZ, ih, if_neg (by omega)]
    dsimp only
    omega
theorem IsB.selLen (hn : 1 ≤ n) (hf : IsB n (aW l) (bW l) (fun i => i < l.length) f) : (selL (useB n (bW l) f) l.length).length = n - 1 := by
  have h1 := selL_count (useB n (bW l) f) l.length
  rw [sum_used (n := n) (f := f) (bW l) l.length hf.on (fun _ => 1)] at h1
  unfold costF at h1
  rw [costF_one n f n (Nat.le_refl _) hn] at h1
  omega
theorem asc_ext : ∀ (L M : List Int), L.Pairwise (· < ·) → M.Pairwise (· < ·) → (∀ x, x ∈ L ↔ x ∈ M) → L = M
  | [], [], _, _, _ => rfl
  | [], y :: M, _, _, h => absurd ((h y).2 List.mem_cons_self) (by simp)
  | x :: L, [], _, _, h => absurd ((h x).1 List.mem_cons_self) (by simp)
  | x :: L, y :: M, h1, h2, h => by
    rw [List.pairwise_cons] at h1 h2
    have hxy : x = y := by
      have a := (h x).1 List.mem_cons_self
      have b := (h y).2 List.mem_cons_self
      rcases List.mem_cons.1 a with a | a
      · exact a
      · rcases List.mem_cons.1 b with b | b
        · exact b.symm
        · have := h2.1 x a; have := h1.1 y b; omega
    subst hxy
    rw [asc_ext L M h1.2 h2.2 fun z => ?_]
    constructor
    · intro hz
      rcases List.mem_cons.1 ((h z).1 (List.mem_cons_of_mem _ hz)) with e | e
      · subst e; have := h1.1 z hz; omega
      · exact e
    · intro hz
      rcases List.mem_cons.1 ((h z).2 (List.mem_cons_of_mem _ hz)) with e | e
      · subst e; have := h2.1 z hz; omega
      · exact e
theorem selL_asc (X : Nat → Bool) : ∀ m, (selL X m).Pairwise (· < ·)
  | 0 => List.Pairwise.nil
  | m + 1 => by
    rw [selL_succ]
    split
    · rw [List.pairwise_append]
      refine ⟨selL_asc X m, List.pairwise_singleton _ _, fun a ha b hb => ?_⟩
      obtain ⟨j, rfl, hj, _⟩ := selL_nat X m a ha
      rw [List.mem_singleton] at hb
      omega
    · exact selL_asc X m
structure PreOk (l : List S30) (L : List Int) (q : Nat) : Prop where
  rng : ∀ j : Nat, j < q → 0 ≤ rd L (j : Int) ∧ rd L (j : Int) < (l.length : Int)
  asc : ∀ j : Nat, j + 1 < q → rd L (j : Int) < rd L ((j + 1 : Nat) : Int)
  far : ∀ i j : Nat, i < j → j < q → bW l (rd L (i : Int)).toNat ≠ bW l (rd L (j : Int)).toNat
  pos : ∀ j : Nat, j < q → bW l (rd L (j : Int)).toNat ≠ 0
theorem PreOk.le {L : List Int} {q r : Nat} (h : PreOk l L q) (hr : r ≤ q) : PreOk l L r :=
  ⟨fun j hj => h.rng j (by omega), fun j hj => h.asc j (by omega), fun i j hi hj => h.far i j hi (by omega), fun j hj => h.pos j (by omega)⟩
def metN (l : List S30) (L : List Int) : Nat → Nat
  | 0 => 1
  | q + 1 => metN l L q ||| 1 <<< bW l (rd L (q : Int)).toNat
def costN (l : List S30) (L : List Int) : Nat → Int
  | 0 => 0
  | q + 1 => costN l L q + costW l (rd L (q : Int)).toNat
theorem metN_bit (l : List S30) (L : List Int) (c : Nat) : ∀ q, (metN l L q).testBit c = true ↔ c = 0 ∨ ∃ j, j < q ∧ bW l (rd L (j : Int)).toNat = c
  | 0 => by
    rw [metN, show (1 : Nat) = 1 <<< 0 from rfl, tb_one, decide_eq_true_eq]
    exact ⟨.inl, fun h => h.resolve_right (fun ⟨j, hj, _⟩ => by omega)⟩
  | q + 1 => by
    rw [metN, tb_or, Bool.or_eq_true, metN_bit l L c q, decide_eq_true_eq]
    constructor
    · rintro ((h | ⟨j, hj, h⟩) | h)
      · exact .inl h
      · exact .inr ⟨j, by omega, h⟩
      · exact .inr ⟨q, by omega, h.symm⟩
    · rintro (h | ⟨j, hj, h⟩)
      · exact .inl (.inl h)
      · by_cases e : j = q
        · subst e; exact .inr h.symm
        · exact .inl (.inr ⟨j, by omega, h⟩)
theorem metN_lt (hn1 : 1 ≤ n) (hn : n ≤ 7) (hx : ∀ x ∈ l, wayOk n x = true) {L : List Int} : ∀ q, PreOk l L q → metN l L q < 128
  | 0, _ => (by decide : (1 : Nat) < 128)
  | q + 1, h => by
    have ih := metN_lt hn1 hn hx q (h.le (by omega))
    have hr := h.rng q (by omega)
    have hb := (bW_eq hx (rd L (q : Int)).toNat (by omega)).2.2.1
    exact fin_lt ⟨7, by decide⟩ ⟨metN l L q, ih⟩ ⟨bW l (rd L (q : Int)).toNat, by omega⟩ ih (by simp only []; omega)
theorem costN_bound (hx : ∀ x ∈ l, wayOk n x = true) {L : List Int} : ∀ q, PreOk l L q → 0 ≤ costN l L q ∧ costN l L q ≤ 1000 * q
  | 0, _ => by simp [costN]
  | q + 1, h => by
    have ih := costN_bound hx q (h.le (by omega))
    have hr := h.rng q (by omega)
    have hw := (wayOk_iff n _).1 (hx _ (rd_T30_mem l (rd L (q : Int)).toNat (by omega)))
    simp only [costN, costW]
    omega
/-- What stops at street q. -/
theorem PreOk.next {L : List Int} {q : Nat} (h : PreOk l L q) (h0 : 0 ≤ rd L (q : Int)) (h1 : rd L (q : Int) < (l.length : Int)) (h2 : 0 < q → rd L ((q - 1 : Nat) : Int) < rd L (q : Int)) (h3 : (metN l L q).testBit (bW l (rd L (q : Int)).toNat) = false) : PreOk l L (q + 1) := by
  have hm : ¬ (bW l (rd L (q : Int)).toNat = 0 ∨ ∃ j, j < q ∧ bW l (rd L (j : Int)).toNat = bW l (rd L (q : Int)).toNat) := fun hh => by
    rw [(metN_bit l L _ q).2 hh] at h3; exact absurd h3 (by decide)
  refine ⟨fun j hj => ?_, fun j hj => ?_, fun i j hi hj => ?_, fun j hj => ?_⟩
  · by_cases e : j = q
    · subst e; exact ⟨h0, h1⟩
    · exact h.rng j (by omega)
  · by_cases e : j + 1 = q
    · have := h2 (by omega)
      rw [show q - 1 = j by omega] at this
      rw [e]; exact this
    · exact h.asc j (by omega)
  · by_cases e : j = q
    · subst e; exact fun hh => hm (.inr ⟨i, hi, hh⟩)
    · exact h.far i j hi (by omega)
  · by_cases e : j = q
    · subst e; exact fun hh => hm (.inl hh)
    · exact h.pos j (by omega)
theorem PreOk.not_met {L : List Int} {q : Nat} (h : PreOk l L (q + 1)) : (metN l L q).testBit (bW l (rd L (q : Int)).toNat) = false := by
  refine Bool.eq_false_iff.mpr fun hh => ?_
  rcases (metN_bit l L _ q).1 hh with h1 | ⟨j, hj, h1⟩
  · exact h.pos q (by omega) h1
  · exact h.far j q hj (by omega) h1
theorem is_code (hn1 : 1 ≤ n) (hn : n ≤ 7) (hx : ∀ x ∈ l, wayOk n x = true) (hl : l.length ≤ 30) {L : List Int} (hL : L.length ≤ 60) : ∀ (d q k : Nat), q + d = L.length → PreOk l L q →
    (PreOk l L L.length → branch_town_is.l0 (k + 2 * d + 1) L (costN l L q) (metN l L q : Int) L (L.length : Int) (q : Int) (n : Int) l = (branch_town_reach.f k (n : Int) l L).bind fun t => (branch_town_everybody.f (n : Int) l).bind fun u => if t = u then some (costN l L L.length, true) else some (0, false)) ∧
    (¬ PreOk l L L.length → branch_town_is.l0 (k + 2 * d + 1) L (costN l L q) (metN l L q : Int) L (L.length : Int) (q : Int) (n : Int) l = some (0, false))
  | 0, q, k, h, hP => by
    obtain rfl : q = L.length := by omega
    refine ⟨fun _ => ?_, fun h => absurd hP h⟩
    rw [show k + 2 * 0 + 1 = k + 1 from rfl, branch_town_is.l0, if_neg (by omega)]
  | d + 1, q, k, h, hP => by
    have hq : q < L.length := by omega
    have hw := wrap_nat q (by omega)
    rw [show k + 2 * (d + 1) + 1 = (k + 2 * d + 1) + 1 + 1 from by omega]
    have ih := fun hP => is_code hn1 hn hx hl hL d (q + 1) k (by omega) hP
    simp only [costN, metN] at ih
    generalize hkk : k + 2 * d + 1 = kk at ih
    have hj1 : ∀ c m x, branch_town_is.j1 (kk + 1) L c m x L (L.length : Int) (q : Int) true (n : Int) l = some (0, false) := fun c m x => by rw [branch_town_is.j1, if_pos rfl]
    have hl0 : branch_town_is.l0 (kk + 1 + 1) L (costN l L q) (metN l L q : Int) L (L.length : Int) (q : Int) (n : Int) l =
        if rd L (q : Int) < 0 ∨ rd L (q : Int) ≥ (l.length : Int) ∨ (0 < q ∧ rd L (q : Int) ≤ rd L ((q - 1 : Nat) : Int)) then some (0, false) else branch_town_is.j1 (kk + 1) L (costN l L q) (metN l L q : Int) (rd L (q : Int)) L (L.length : Int) (q : Int) ((metN l L q).testBit (bW l (rd L (q : Int)).toNat)) (n : Int) l := by
      rw [branch_town_is.l0]
      rw [if_pos (by omega), if_pos (by omega), if_pos (by omega)]
      by_cases t1 : rd L (q : Int) < 0
      · rw [if_pos t1, hj1, if_pos (.inl t1)]
      rw [if_neg t1]
      by_cases t2 : rd L (q : Int) ≥ (l.length : Int)
      · rw [if_pos t2, hj1, if_pos (.inr (.inl t2))]
      rw [if_neg t2]
      obtain ⟨i, hi⟩ : ∃ i : Nat, rd L (q : Int) = (i : Int) := Int.eq_ofNat_of_zero_le (by omega)
      have hil : i < l.length := by omega
      obtain ⟨e1, _, e3, _⟩ := bW_eq hx i hil
      have hm7 := metN_lt hn1 hn hx q hP
      have hb := hasB_nat (s := metN l L q) (c := bW l i) hm7 (by omega)
      unfold hasB at hb
      by_cases t3 : 0 < q
      · have hw2 : wrap64 ((q : Int) - 1) = ((q - 1 : Nat) : Int) := by unfold wrap64; omega
        rw [if_pos (by omega), hw2, if_pos (by omega), if_pos (by omega)]
        by_cases t4 : rd L (q : Int) ≤ rd L ((q - 1 : Nat) : Int)
        · rw [if_pos t4, hj1, if_pos (.inr (.inr ⟨t3, t4⟩))]
        · have t : ¬ (rd L (q : Int) < 0 ∨ rd L (q : Int) ≥ (l.length : Int) ∨ (0 < q ∧ rd L (q : Int) ≤ rd L ((q - 1 : Nat) : Int))) := by omega
          rw [if_neg t4, if_pos (by omega), if_pos (by omega), if_neg t, hi, e1, if_pos (by omega), hb, Int.toNat_natCast]
      · have t : ¬ (rd L (q : Int) < 0 ∨ rd L (q : Int) ≥ (l.length : Int) ∨ (0 < q ∧ rd L (q : Int) ≤ rd L ((q - 1 : Nat) : Int))) := by omega
        rw [if_neg (by omega), if_pos (by omega), if_pos (by omega), if_neg t, hi, e1, if_pos (by omega), hb, Int.toNat_natCast]
    rw [hl0]
    by_cases t : rd L (q : Int) < 0 ∨ rd L (q : Int) ≥ (l.length : Int) ∨ (0 < q ∧ rd L (q : Int) ≤ rd L ((q - 1 : Nat) : Int))
    · rw [if_pos t]
      refine ⟨fun hF => ?_, fun _ => rfl⟩
      exfalso
      have h1 := hF.rng q hq
      rcases t with t | t | ⟨t0, t⟩
      · omega
      · omega
      · have := hF.asc (q - 1) (by omega)
        rw [show q - 1 + 1 = q by omega] at this
        omega
    · rw [if_neg t]
      have t1 : ¬ rd L (q : Int) < 0 := fun h => t (.inl h)
      have t2 : ¬ rd L (q : Int) ≥ (l.length : Int) := fun h => t (.inr (.inl h))
      have t3 : 0 < q → rd L ((q - 1 : Nat) : Int) < rd L (q : Int) := fun h0 => by
        refine Classical.byContradiction fun hh => t (.inr (.inr ⟨h0, by omega⟩))
      cases hb : (metN l L q).testBit (bW l (rd L (q : Int)).toNat) with
      | true =>
        rw [hj1]
        refine ⟨fun hF => ?_, fun _ => rfl⟩
        have := (hF.le (show q + 1 ≤ L.length by omega)).not_met
        rw [hb] at this
        exact absurd this (by decide)
      | false =>
        have hP2 := hP.next (by omega) (by omega) t3 hb
        have ih := ih hP2
        obtain ⟨i, hi⟩ : ∃ i : Nat, rd L (q : Int) = (i : Int) := Int.eq_ofNat_of_zero_le (by omega)
        have hil : i < l.length := by omega
        obtain ⟨e1, _, e3, _⟩ := bW_eq hx i hil
        have hm7 := metN_lt hn1 hn hx q hP
        have f2 := fin_or ⟨metN l L q, hm7⟩ ⟨bW l i, by omega⟩
        simp only [] at f2
        have hcb := costN_bound hx q hP
        have hwy := (wayOk_iff n _).1 (hx _ (rd_T30_mem l i hil))
        have hj : branch_town_is.j1 (kk + 1) L (costN l L q) (metN l L q : Int) (rd L (q : Int)) L (L.length : Int) (q : Int) false (n : Int) l = branch_town_is.l0 kk L (costN l L q + costW l (rd L (q : Int)).toNat) ((metN l L q ||| 1 <<< bW l (rd L (q : Int)).toNat : Nat) : Int) L (L.length : Int) ((q + 1 : Nat) : Int) (n : Int) l := by
          rw [branch_town_is.j1]
          rw [if_neg (by decide), if_pos (by omega), if_pos (by omega), hi, e1, if_pos (by omega), f2, hw, Int.toNat_natCast]
          rw [show wrap64 (costN l L q + (rdT l (i : Int)).f2) = costN l L q + costW l i from by unfold costW wrap64; omega]
        rw [hj]
        exact ih
theorem is_ref (hn1 : 1 ≤ n) (hn : n ≤ 7) (hx : ∀ x ∈ l, wayOk n x = true) (hl : l.length ≤ 30) {L : List Int} (hL : L.length ≤ 60) : ∀ (d q k : Nat), q + d = L.length → PreOk l L q →
    (PreOk l L L.length → rIsB_.l0 (k + 2 * d + 1) (n : Int) l L (metN l L q : Int) (q : Int) = (rRch_.f k l L).bind fun t => some (t == (wrap64 ((shl .i64 1 (n : Int)) - 1)))) ∧
    (¬ PreOk l L L.length → rIsB_.l0 (k + 2 * d + 1) (n : Int) l L (metN l L q : Int) (q : Int) = some false)
  | 0, q, k, h, hP => by
    obtain rfl : q = L.length := by omega
    refine ⟨fun _ => ?_, fun h => absurd hP h⟩
    rw [show k + 2 * 0 + 1 = k + 1 from rfl, rIsB_.l0, if_neg (by omega)]
    refine congrArg _ (funext fun t => ?_)
    rw [if_pos (by omega)]
  | d + 1, q, k, h, hP => by
    have hq : q < L.length := by omega
    have hw := wrap_nat q (by omega)
    rw [show k + 2 * (d + 1) + 1 = (k + 2 * d + 1) + 1 + 1 from by omega]
    have ih := fun hP => is_ref hn1 hn hx hl hL d (q + 1) k (by omega) hP
    simp only [metN] at ih
    generalize hkk : k + 2 * d + 1 = kk at ih
    have hj1 : ∀ m, rIsB_.j1 (kk + 1) (n : Int) l L m (q : Int) true = some false := fun m => by rw [rIsB_.j1, if_pos rfl]
    have hl0 : rIsB_.l0 (kk + 1 + 1) (n : Int) l L (metN l L q : Int) (q : Int) =
        if rd L (q : Int) < 0 ∨ rd L (q : Int) ≥ (l.length : Int) ∨ (0 < q ∧ rd L (q : Int) ≤ rd L ((q - 1 : Nat) : Int)) then some false else rIsB_.j1 (kk + 1) (n : Int) l L (metN l L q : Int) (q : Int) ((metN l L q).testBit (bW l (rd L (q : Int)).toNat)) := by
      rw [rIsB_.l0]
      rw [if_pos (by omega), if_pos (by omega)]
      by_cases t1 : rd L (q : Int) < 0
      · rw [if_pos t1, hj1, if_pos (.inl t1)]
      rw [if_neg t1]
      by_cases t2 : rd L (q : Int) ≥ (l.length : Int)
      · rw [if_pos t2, hj1, if_pos (.inr (.inl t2))]
      rw [if_neg t2]
      obtain ⟨i, hi⟩ : ∃ i : Nat, rd L (q : Int) = (i : Int) := Int.eq_ofNat_of_zero_le (by omega)
      have hil : i < l.length := by omega
      obtain ⟨e1, _, e3, _⟩ := bW_eq hx i hil
      have hm7 := metN_lt hn1 hn hx q hP
      have f1 := fin_mod ⟨metN l L q, hm7⟩ ⟨bW l i, by omega⟩
      simp only [] at f1
      have hb : (Int.tmod (shr .i64 (metN l L q : Int) (bW l i : Int)) 2 == 1) = (metN l L q).testBit (bW l i) := by
        rw [f1]
        cases (metN l L q).testBit (bW l i) <;> rfl
      by_cases t3 : 0 < q
      · have hw2 : wrap64 ((q : Int) - 1) = ((q - 1 : Nat) : Int) := by unfold wrap64; omega
        rw [if_pos (by omega), hw2, if_pos (by omega), if_pos (by omega)]
        by_cases t4 : rd L (q : Int) ≤ rd L ((q - 1 : Nat) : Int)
        · rw [if_pos t4, hj1, if_pos (.inr (.inr ⟨t3, t4⟩))]
        · have t : ¬ (rd L (q : Int) < 0 ∨ rd L (q : Int) ≥ (l.length : Int) ∨ (0 < q ∧ rd L (q : Int) ≤ rd L ((q - 1 : Nat) : Int))) := by omega
          rw [if_neg t4, if_pos (by omega), if_pos (by omega), if_neg t, hi, e1, if_pos (by omega), hb, Int.toNat_natCast]
      · have t : ¬ (rd L (q : Int) < 0 ∨ rd L (q : Int) ≥ (l.length : Int) ∨ (0 < q ∧ rd L (q : Int) ≤ rd L ((q - 1 : Nat) : Int))) := by omega
        rw [if_neg (by omega), if_pos (by omega), if_pos (by omega), if_neg t, hi, e1, if_pos (by omega), hb, Int.toNat_natCast]
    rw [hl0]
    by_cases t : rd L (q : Int) < 0 ∨ rd L (q : Int) ≥ (l.length : Int) ∨ (0 < q ∧ rd L (q : Int) ≤ rd L ((q - 1 : Nat) : Int))
    · rw [if_pos t]
      refine ⟨fun hF => ?_, fun _ => rfl⟩
      exfalso
      have h1 := hF.rng q hq
      rcases t with t | t | ⟨t0, t⟩
      · omega
      · omega
      · have := hF.asc (q - 1) (by omega)
        rw [show q - 1 + 1 = q by omega] at this
        omega
    · rw [if_neg t]
      have t1 : ¬ rd L (q : Int) < 0 := fun h => t (.inl h)
      have t2 : ¬ rd L (q : Int) ≥ (l.length : Int) := fun h => t (.inr (.inl h))
      have t3 : 0 < q → rd L ((q - 1 : Nat) : Int) < rd L (q : Int) := fun h0 => by
        refine Classical.byContradiction fun hh => t (.inr (.inr ⟨h0, by omega⟩))
      cases hb : (metN l L q).testBit (bW l (rd L (q : Int)).toNat) with
      | true =>
        rw [hj1]
        refine ⟨fun hF => ?_, fun _ => rfl⟩
        have := (hF.le (show q + 1 ≤ L.length by omega)).not_met
        rw [hb] at this
        exact absurd this (by decide)
      | false =>
        have hP2 := hP.next (by omega) (by omega) t3 hb
        have ih := ih hP2
        obtain ⟨i, hi⟩ : ∃ i : Nat, rd L (q : Int) = (i : Int) := Int.eq_ofNat_of_zero_le (by omega)
        have hil : i < l.length := by omega
        obtain ⟨e1, _, e3, _⟩ := bW_eq hx i hil
        have hm7 := metN_lt hn1 hn hx q hP
        rw [hi, Int.toNat_natCast] at hb
        have f2 := fin_add ⟨metN l L q, hm7⟩ ⟨bW l i, by omega⟩ hb
        simp only [] at f2
        have hj : rIsB_.j1 (kk + 1) (n : Int) l L (metN l L q : Int) (q : Int) false = rIsB_.l0 kk (n : Int) l L ((metN l L q ||| 1 <<< bW l (rd L (q : Int)).toNat : Nat) : Int) ((q + 1 : Nat) : Int) := by
          rw [rIsB_.j1]
          rw [if_neg (by decide), if_pos (by omega), if_pos (by omega), if_pos (by omega), if_pos (by omega), hi, e1, if_pos (by omega), f2, hw, Int.toNat_natCast]
        rw [hj]
        exact ih
end
end Go.Proofs.Ytpmadffgdfholaa.B
namespace Go.Proofs.Ytpmadffgdfholaa.B
set_option linter.unusedVariables false
open Go.RowKit Go.Proofs.YtpmadffgdfholaaW.PrintWords Go.Proofs.YtpmadffgdfholaaW.PrintLast Go.Proofs.YtpmadffgdfholaaW.PrintMore
section
variable {n : Nat} {l : List S30} {f : Nat → Nat}
/-- The list of the streets of a branching. -/
def listB (n : Nat) (l : List S30) (f : Nat → Nat) : List Int := selL (useB n (bW l) f) l.length
abbrev BrB (n : Nat) (l : List S30) (f : Nat → Nat) : Prop := IsB n (aW l) (bW l) (fun i => i < l.length) f
theorem rd_get (L : List Int) (j : Nat) (h : j < L.length) : rd L (j : Int) = L[j] := by
  simp [rd, List.getD, List.getElem?_eq_getElem h]
theorem mem_rd (L : List Int) (x : Int) : x ∈ L ↔ ∃ j : Nat, j < L.length ∧ rd L (j : Int) = x := by
  constructor
  · intro h
    obtain ⟨j, hj, e⟩ := List.mem_iff_getElem.1 h
    exact ⟨j, hj, (rd_get L j hj).trans e⟩
  · rintro ⟨j, hj, e⟩
    rw [rd_get L j hj] at e
    exact e ▸ List.getElem_mem hj
theorem asc_pair (L : List Int) : (∀ j : Nat, j + 1 < L.length → rd L (j : Int) < rd L ((j + 1 : Nat) : Int)) ↔ L.Pairwise (· < ·) := by
  rw [List.pairwise_iff_getElem]
  constructor
  · intro h i j hi hj hij
    have key : ∀ d, i + 1 + d < L.length → rd L (i : Int) < rd L ((i + 1 + d : Nat) : Int) := by
      intro d
      induction d with
      | zero => exact fun h2 => h i h2
      | succ d ih => exact fun h2 => Int.lt_trans (ih (by omega)) (h (i + 1 + d) h2)
    have := key (j - i - 1) (by omega)
    rw [show i + 1 + (j - i - 1) = j by omega, rd_get L i hi, rd_get L j hj] at this
    exact this
  · intro h j hj
    rw [rd_get L j (by omega), rd_get L (j + 1) hj]
    exact h j (j + 1) (by omega) hj (by omega)
structure Full (n : Nat) (l : List S30) (L : List Int) : Prop where
  len : L.length = n - 1
  pre : PreOk l L L.length
  all : ∀ c, c < n → Rc (aW l) (bW l) (fun i => (i : Int) ∈ L) 0 c
theorem full_iff (hn1 : 1 ≤ n) (hn : n ≤ 7) (hx : ∀ x ∈ l, wayOk n x = true) (L : List Int) : Full n l L ↔ ∃ f, BrB n l f ∧ L = listB n l f := by
  constructor
  · intro hF
    have hnat : ∀ x ∈ L, ∃ i : Nat, x = (i : Int) ∧ i < l.length ∧ bW l i ≠ 0 := by
      intro x hxL
      obtain ⟨j, hj, e⟩ := (mem_rd L x).1 hxL
      have h1 := hF.pre.rng j hj
      have h2 := hF.pre.pos j hj
      rw [e] at h1 h2
      exact ⟨x.toNat, by omega, by omega, h2⟩
    have hone : ∀ i j : Nat, (i : Int) ∈ L → (j : Int) ∈ L → bW l i = bW l j → i = j := by
      intro i j hi hj hb
      obtain ⟨p, hp, e1⟩ := (mem_rd L i).1 hi
      obtain ⟨q, hq, e2⟩ := (mem_rd L j).1 hj
      rcases Nat.lt_trichotomy p q with h | h | h
      · have := hF.pre.far p q h hq
        rw [e1, e2] at this
        exact absurd hb this
      · subst h; omega
      · have := hF.pre.far q p h hp
        rw [e1, e2] at this
        exact absurd hb.symm this
    have hex : ∀ c, ∃ i : Nat, 0 < c → c < n → (i : Int) ∈ L ∧ bW l i = c := by
      intro c
      by_cases hc : 0 < c ∧ c < n
      · have hr := hF.all c hc.2
        generalize hz : (0 : Nat) = z at hr
        cases hr with
        | refl => omega
        | @step i t _ => exact ⟨i, fun _ _ => ⟨t, rfl⟩⟩
      · exact ⟨0, fun h1 h2 => absurd ⟨h1, h2⟩ hc⟩
    obtain ⟨f, hf⟩ : ∃ f : Nat → Nat, ∀ c, 0 < c → c < n → (f c : Int) ∈ L ∧ bW l (f c) = c := ⟨fun c => Classical.choose (hex c), fun c => Classical.choose_spec (hex c)⟩
    have hlt : ∀ i : Nat, (i : Int) ∈ L → i < l.length ∧ bW l i ≠ 0 := by
      intro i hi
      obtain ⟨j, e, h1, h2⟩ := hnat _ hi
      obtain rfl : i = j := by omega
      exact ⟨h1, h2⟩
    have hmem : ∀ i : Nat, (i : Int) ∈ L ↔ i < l.length ∧ useB n (bW l) f i = true := by
      intro i
      constructor
      · intro hi
        obtain ⟨h1, h2⟩ := hlt i hi
        have hb := (bW_eq hx i h1).2.2.1
        obtain ⟨g1, g2⟩ := hf (bW l i) (by omega) hb
        exact ⟨h1, useB_iff.2 ⟨by omega, hb, hone _ _ g1 hi g2⟩⟩
      · rintro ⟨h1, h2⟩
        obtain ⟨u1, u2, u3⟩ := useB_iff.1 h2
        have := (hf (bW l i) u1 u2).1
        rwa [u3] at this
    refine ⟨f, ⟨fun c c0 c1 => ⟨(hlt _ (hf c c0 c1).1).1, (hf c c0 c1).2⟩, fun c hc => (hF.all c hc).mono fun i hi => ?_⟩, ?_⟩
    · obtain ⟨h1, h2⟩ := (hmem i).1 hi
      obtain ⟨u1, u2, u3⟩ := useB_iff.1 h2
      exact ⟨bW l i, u1, u2, u3.symm⟩
    · refine asc_ext L _ ((asc_pair L).1 hF.pre.asc) (selL_asc _ _) fun x => ?_
      constructor
      · intro hxL
        obtain ⟨i, rfl, _⟩ := hnat x hxL
        exact (selL_mem _ _ _).2 ((hmem i).1 hxL)
      · intro hxS
        obtain ⟨i, rfl, h1, h2⟩ := selL_nat _ _ x hxS
        exact (hmem i).2 ⟨h1, h2⟩
  · rintro ⟨f, hf, rfl⟩
    have hnat : ∀ j : Nat, j < (listB n l f).length → ∃ i : Nat, rd (listB n l f) (j : Int) = (i : Int) ∧ i < l.length ∧ useB n (bW l) f i = true := by
      intro j hj
      exact selL_nat _ _ _ ((mem_rd _ _).2 ⟨j, hj, rfl⟩)
    have hasc := (asc_pair (listB n l f)).2 (selL_asc _ _)
    refine ⟨hf.selLen hn1, ⟨fun j hj => ?_, hasc, fun i j hij hj => ?_, fun j hj => ?_⟩, fun c hc => (hf.all c hc).mono ?_⟩
    · obtain ⟨i, e, h1, _⟩ := hnat j hj
      rw [e]; omega
    · obtain ⟨x, e1, _, u1⟩ := hnat i (by omega)
      obtain ⟨y, e2, _, u2⟩ := hnat j hj
      have hp := List.pairwise_iff_getElem.1 (selL_asc (useB n (bW l) f) l.length) i j (by exact (by omega : i < (listB n l f).length)) hj hij
      have hlt : rd (listB n l f) (i : Int) < rd (listB n l f) (j : Int) := by
        rw [rd_get _ i (by omega), rd_get _ j hj]; exact hp
      rw [e1, e2] at hlt ⊢
      rw [Int.toNat_natCast, Int.toNat_natCast]
      intro hb
      have h1 := (useB_iff.1 u1).2.2
      have h2 := (useB_iff.1 u2).2.2
      rw [hb, h2] at h1
      omega
    · obtain ⟨i, e, _, u⟩ := hnat j hj
      rw [e, Int.toNat_natCast]
      have := (useB_iff.1 u).1
      omega
    · rintro i ⟨c, c0, c1, rfl⟩
      obtain ⟨t, tb⟩ := hf.on c c0 c1
      exact (selL_mem _ _ _).2 ⟨t, useB_iff.2 ⟨by omega, by omega, by rw [tb]⟩⟩
theorem costN_app (l : List S30) (L M : List Int) : ∀ q, q ≤ L.length → costN l (L ++ M) q = costN l L q
  | 0, _ => rfl
  | q + 1, h => by
    simp only [costN]
    rw [costN_app l L M q (by omega)]
    have : rd (L ++ M) (q : Int) = rd L (q : Int) := by
      simp only [rd, Int.toNat_natCast, List.getD]
      rw [List.getElem?_append_left (by omega)]
    rw [this]
theorem costN_sel (l : List S30) (X : Nat → Bool) : ∀ m, costN l (selL X m) (selL X m).length = sumZ (fun j => if X j = true then costW l j else 0) m
  | 0 => rfl
  | m + 1 => by
    simp only [sumZ]
    rw [selL_succ, ← costN_sel l X m]
    split
    · rw [List.length_append, List.length_singleton]
      simp only [costN]
      rw [costN_app l _ _ _ (Nat.le_refl _)]
      have : rd (selL X m ++ [(m : Int)]) ((selL X m).length : Int) = (m : Int) := by
        simp [rd, List.getD]
      rw [this, Int.toNat_natCast]
    · omega
theorem costN_list (hf : BrB n l f) : costN l (listB n l f) (listB n l f).length = costF n (costW l) f := by
  unfold listB
  rw [costN_sel, sum_used (bW l) l.length hf.on]
theorem reach_code (hn1 : 1 ≤ n) (hn : n ≤ 7) {L : List Int} (hL : InL n l L) (hl : L.length ≤ 60) (k : Nat) (hk : 600 ≤ k) : branch_town_reach.f k (n : Int) l L = some ((itS l L n 1 : Nat) : Int) := by
  have h1 : (1 : Nat) < 2 ^ n := Nat.one_lt_two_pow (by omega)
  have hb : (L.length + 2) * n ≤ 62 * 7 := Nat.mul_le_mul (by omega) hn
  have := reach_l0 hn hL (by omega) n 0 (k - (L.length + 2) * n - 1) 1 (by omega) h1
  rw [show k - (L.length + 2) * n - 1 + (L.length + 2) * n + 1 = k from by omega] at this
  exact this
theorem reach_ref (hn1 : 1 ≤ n) (hn : n ≤ 7) {L : List Int} (hL : InL n l L) (hl : L.length ≤ 60) (k : Nat) (hk : 600 ≤ k) : rRch_.f k l L = some ((itS l L n 1 : Nat) : Int) := by
  have h1 : (1 : Nat) < 2 ^ n := Nat.one_lt_two_pow (by omega)
  have hb : (L.length + 2) * (n + 1) ≤ 62 * 8 := Nat.mul_le_mul (by omega) (by omega)
  have := reached_l0 hn hL (by omega) n (k - (L.length + 2) * (n + 1) - 1) 1 h1 (by omega)
  rw [show k - (L.length + 2) * (n + 1) - 1 + (L.length + 2) * (n + 1) + 1 = k from by omega] at this
  exact this
theorem all_reached (hn1 : 1 ≤ n) (hn : n ≤ 7) {L : List Int} (hL : InL n l L) : ((itS l L n 1 : Nat) : Int) = 2 ^ n - 1 ↔ ∀ c, c < n → Rc (aW l) (bW l) (fun i => (i : Int) ∈ L) 0 c := by
  have hlt : itS l L n 1 < 2 ^ n := it_lt hn hL n 1 (Nat.one_lt_two_pow (by omega))
  have hp : 1 ≤ 2 ^ n := Nat.one_le_two_pow
  have hiff : ∀ c, (itS l L n 1).testBit c = true ↔ Rc (aW l) (bW l) (fun i => (i : Int) ∈ L) 0 c := fun c => closure_iff (d := 0) hn hL (by omega)
  have h2 : ((2 : Int) ^ n) = ((2 ^ n : Nat) : Int) := by norm_cast
  rw [h2]
  constructor
  · intro e c hc
    have e2 : itS l L n 1 = 2 ^ n - 1 := by omega
    rw [← hiff, e2, Nat.testBit_two_pow_sub_one]
    exact decide_eq_true hc
  · intro h
    have : itS l L n 1 = 2 ^ n - 1 := by
      refine Nat.eq_of_testBit_eq fun c => ?_
      rw [Nat.testBit_two_pow_sub_one]
      by_cases hc : c < n
      · rw [(hiff c).2 (h c hc), decide_eq_true hc]
      · rw [decide_eq_false hc]
        exact Nat.testBit_lt_two_pow (Nat.lt_of_lt_of_le hlt (Nat.pow_le_pow_right (by decide) (by omega)))
    omega
theorem everybody_f (hn : n ≤ 7) (l : List S30) : branch_town_everybody.f (n : Int) l = some ((2 : Int) ^ n - 1) := by
  have e1 := fin_shl ⟨n, by omega⟩
  simp only [] at e1
  have hp : 2 ^ n ≤ 2 ^ 7 := Nat.pow_le_pow_right (by decide) hn
  have hp1 : 1 ≤ 2 ^ n := Nat.one_le_two_pow
  have h2 : ((2 : Int) ^ n) = ((2 ^ n : Nat) : Int) := by norm_cast
  unfold branch_town_everybody.f
  rw [e1, if_pos (by omega), h2]
  generalize 2 ^ n = p at hp hp1
  refine congrArg some ?_
  unfold wrap64; omega
theorem everyone_ref (hn : n ≤ 7) : wrap64 ((shl .i64 1 (n : Int)) - 1) = (2 : Int) ^ n - 1 := by
  have e1 := fin_shl ⟨n, by omega⟩
  simp only [] at e1
  have hp : 2 ^ n ≤ 2 ^ 7 := Nat.pow_le_pow_right (by decide) hn
  have hp1 : 1 ≤ 2 ^ n := Nat.one_le_two_pow
  have h2 : ((2 : Int) ^ n) = ((2 ^ n : Nat) : Int) := by norm_cast
  rw [e1, h2]
  generalize 2 ^ n = p at hp hp1
  unfold wrap64; omega
theorem preOk_in (hx : ∀ x ∈ l, wayOk n x = true) {L : List Int} (h : PreOk l L L.length) : InL n l L := by
  intro i hi
  obtain ⟨j, hj, rfl⟩ := (mem_rd L i).1 hi
  have := h.rng j hj
  refine ⟨this.1, this.2, ?_⟩
  have := hx _ (rd_T30_mem l (rd L (j : Int)).toNat (by omega))
  rwa [Int.toNat_of_nonneg (h.rng j hj).1] at this
theorem cost_ref (hx : ∀ x ∈ l, wayOk n x = true) {L : List Int} (hl : L.length ≤ 60) (hP : PreOk l L L.length) : ∀ (d q k : Nat), q + d = L.length → trishawref03_cost.l0 (k + d + 1) l L (costN l L q) (q : Int) = some (costN l L L.length)
  | 0, q, k, h => by
    obtain rfl : q = L.length := by omega
    rw [show k + 0 + 1 = k + 1 from rfl, trishawref03_cost.l0, if_neg (by omega)]
  | d + 1, q, k, h => by
    have hq : q < L.length := by omega
    have hw := wrap_nat q (by omega)
    have ih := cost_ref hx hl hP d (q + 1) k (by omega)
    have h1 := hP.rng q hq
    have hcb := costN_bound hx q (hP.le (by omega))
    have hwy := (wayOk_iff (n : Int) _).1 (hx _ (rd_T30_mem l (rd L (q : Int)).toNat (by omega)))
    rw [show k + (d + 1) + 1 = (k + d + 1) + 1 from by omega, trishawref03_cost.l0, if_pos (by omega), if_pos (by omega), if_pos (by omega), if_pos (by omega), hw]
    rw [show wrap64 (costN l L q + (rdT l (rd L (q : Int))).f2) = costN l L (q + 1) from by
      simp only [costN, costW]
      rw [Int.toNat_of_nonneg h1.1] at hwy ⊢
      unfold wrap64; omega]
    exact ih
/-- Is, of both. -/
theorem is_spec (hr : readB (n : Int) l = 0) (L : List Int) : ∃ (c : Int) (b : Bool), (b = true → ∃ f, BrB n l f ∧ L = listB n l f ∧ c = costF n (costW l) f) ∧ (b = false → c = 0 ∧ ∀ f, BrB n l f → L ≠ listB n l f) ∧
    (∀ k, 2000 ≤ k → branch_Is.f k (n : Int) l L = some (c, b, 0)) ∧ (∀ k, 2000 ≤ k → trishawref03_Is.f k (n : Int) l L = some (c, b, 0)) ∧ ∀ k, 2000 ≤ k → rIsB_.f k (n : Int) l L = some b := by
  obtain ⟨h2, h7, h30, hx⟩ := readB_ok hr
  have hn1 : 1 ≤ n := by omega
  have hn : n ≤ 7 := by omega
  have hw : wrap64 ((n : Int) - 1) = (n : Int) - 1 := by unfold wrap64; omega
  have hcode : ∀ k, branch_Is.f k (n : Int) l L = (branch_town_is.f k (n : Int) l L).bind fun bt115 => some (bt115.1, bt115.2, 0) := by
    intro k
    unfold branch_Is.f branch_read.f
    rw [hr, Option.bind_some, if_pos rfl]
  have href : ∀ k, 2000 ≤ k → trishawref03_Is.f k (n : Int) l L = (rIsB_.f k (n : Int) l L).bind fun t162 => (if t162 = true then ((trishawref03_cost.f k l L).bind fun t163 => (some (t163, true, 0))) else (some (0, false, 0))) := by
    intro k hk
    unfold trishawref03_Is.f
    rw [town_eq _ _ k (.inr (by omega)), hr, Option.bind_some, if_pos rfl]
  have hno : ¬ Full n l L → ∀ f, BrB n l f → L ≠ listB n l f := fun h f hf e => h ((full_iff hn1 hn hx L).2 ⟨f, hf, e⟩)
  by_cases hlen : (L.length : Int) = (n : Int) - 1
  · have hP0 : PreOk l L 0 := ⟨fun j hj => absurd hj (by omega), fun j hj => absurd hj (by omega), fun i j hi hj => absurd hj (by omega), fun j hj => absurd hj (by omega)⟩
    have hc := fun k => is_code hn1 hn hx h30 (L := L) (by omega) L.length 0 k (by omega) hP0
    have hf := fun k => is_ref hn1 hn hx h30 (L := L) (by omega) L.length 0 k (by omega) hP0
    have e1 : ∀ k, branch_town_is.f k (n : Int) l L = branch_town_is.l0 k L 0 1 L (L.length : Int) 0 (n : Int) l := fun k => by
      unfold branch_town_is.f; rw [hw, if_pos hlen]
    have e2 : ∀ k, rIsB_.f k (n : Int) l L = rIsB_.l0 k (n : Int) l L 1 0 := fun k => by
      unfold rIsB_.f; rw [hw, if_pos hlen]
    by_cases hP : PreOk l L L.length
    · have hin := preOk_in hx hP
      have hrc := fun k hk => reach_code hn1 hn hin (by omega) k hk
      have hrr := fun k hk => reach_ref hn1 hn hin (by omega) k hk
      have hall := all_reached hn1 hn hin
      have c1 : ∀ k, 2000 ≤ k → branch_town_is.f k (n : Int) l L = if ((itS l L n 1 : Nat) : Int) = 2 ^ n - 1 then some (costN l L L.length, true) else some (0, false) := by
        intro k hk
        have := (hc (k - 2 * L.length - 1)).1 hP
        rw [show k - 2 * L.length - 1 + 2 * L.length + 1 = k from by omega, hrc _ (by omega), Option.bind_some, everybody_f hn, Option.bind_some] at this
        rw [e1]
        exact this
      have c2 : ∀ k, 2000 ≤ k → rIsB_.f k (n : Int) l L = some (((itS l L n 1 : Nat) : Int) == 2 ^ n - 1) := by
        intro k hk
        have := (hf (k - 2 * L.length - 1)).1 hP
        rw [show k - 2 * L.length - 1 + 2 * L.length + 1 = k from by omega, hrr _ (by omega), Option.bind_some, everyone_ref hn] at this
        rw [e2]
        exact this
      have c3 : ∀ k, 2000 ≤ k → trishawref03_cost.f k l L = some (costN l L L.length) := by
        intro k hk
        have := cost_ref hx (L := L) (by omega) hP L.length 0 (k - L.length - 1) (by omega)
        rw [show k - L.length - 1 + L.length + 1 = k from by omega] at this
        unfold trishawref03_cost.f
        exact this
      by_cases hA : ((itS l L n 1 : Nat) : Int) = 2 ^ n - 1
      · have hF : Full n l L := ⟨by omega, hP, hall.1 hA⟩
        obtain ⟨f, hfB, e⟩ := (full_iff hn1 hn hx L).1 hF
        refine ⟨costN l L L.length, true, fun _ => ⟨f, hfB, e, ?_⟩, fun h => absurd h (by decide), fun k hk => ?_, fun k hk => ?_, fun k hk => ?_⟩
        · rw [e]; exact costN_list hfB
        · rw [hcode, c1 k hk, if_pos hA]; rfl
        · rw [href k hk, c2 k hk, beq_iff_eq.mpr hA, Option.bind_some, if_pos rfl, c3 k hk]; rfl
        · rw [c2 k hk, beq_iff_eq.mpr hA]
      · have hA2 : (((itS l L n 1 : Nat) : Int) == 2 ^ n - 1) = false := beq_eq_false_iff_ne.mpr hA
        refine ⟨0, false, fun h => absurd h (by decide), fun _ => ⟨rfl, hno fun hF => hA (hall.2 hF.all)⟩, fun k hk => ?_, fun k hk => ?_, fun k hk => ?_⟩
        · rw [hcode, c1 k hk, if_neg hA]; rfl
        · rw [href k hk, c2 k hk, hA2]; rfl
        · rw [c2 k hk, hA2]
    · refine ⟨0, false, fun h => absurd h (by decide), fun _ => ⟨rfl, hno fun hF => hP hF.pre⟩, fun k hk => ?_, fun k hk => ?_, fun k hk => ?_⟩
      · have := (hc (k - 2 * L.length - 1)).2 hP
        rw [show k - 2 * L.length - 1 + 2 * L.length + 1 = k from by omega] at this
        rw [hcode, e1]
        exact congrArg (fun x : Option (Int × Bool) => x.bind fun bt115 => some (bt115.1, bt115.2, (0 : Int))) this
      · have := (hf (k - 2 * L.length - 1)).2 hP
        rw [show k - 2 * L.length - 1 + 2 * L.length + 1 = k from by omega] at this
        rw [href k hk, e2]
        exact congrArg (fun x : Option Bool => x.bind fun t162 => (if t162 = true then ((trishawref03_cost.f k l L).bind fun t163 => (some (t163, true, (0 : Int)))) else (some (0, false, 0)))) this
      · have := (hf (k - 2 * L.length - 1)).2 hP
        rw [show k - 2 * L.length - 1 + 2 * L.length + 1 = k from by omega] at this
        rw [e2]
        exact this
  · refine ⟨0, false, fun h => absurd h (by decide), fun _ => ⟨rfl, hno fun hF => hlen (by have := hF.len; omega)⟩, fun k hk => ?_, fun k hk => ?_, fun k hk => ?_⟩
    · rw [hcode]; unfold branch_town_is.f; rw [hw, if_neg hlen]; rfl
    · rw [href k hk]; unfold rIsB_.f; rw [hw, if_neg hlen]; rfl
    · unfold rIsB_.f; rw [hw, if_neg hlen]
end
end Go.Proofs.Ytpmadffgdfholaa.B
namespace Go.Proofs.Ytpmadffgdfholaa.B
set_option linter.unusedVariables false
open Go.RowKit Go.Proofs.YtpmadffgdfholaaW.PrintWords Go.Proofs.YtpmadffgdfholaaW.PrintLast Go.Proofs.YtpmadffgdfholaaW.PrintMore
section
variable {n : Nat} {l : List S30} {f : Nat → Nat}
theorem FirstB.congr {p q : Nat → Int} {v : Int} (h : FirstB n l p v f) (e : ∀ i, i < l.length → p i = q i) : FirstB n l q v f := by
  have hc : ∀ g, BrB n l g → costF n p g = costF n q g := fun g hg => costF_congr fun c c0 c1 => e _ (hg.on c c0 c1).1
  exact ⟨h.is, (hc f h.is) ▸ h.cost, fun g hg => (hc g hg) ▸ h.least g hg, fun g hg hv => h.ahead g hg ((hc g hg).trans hv)⟩
def lessL : List Int → List Int → Bool
  | [], [] => false
  | [], _ :: _ => true
  | _ :: _, [] => false
  | x :: A, y :: B => if x = y then lessL A B else decide (x < y)
theorem less_l0 (A B : List Int) (hA : A.length < 1000) (hB : B.length < 1000) : ∀ (d q k : Nat), q + d = A.length → q ≤ B.length → trishawref03_Less.l0 (k + 2 * d + 2) A B (q : Int) = some (lessL (A.drop q) (B.drop q))
  | 0, q, k, h, hq => by
    rw [show k + 2 * 0 + 2 = k + 1 + 1 from rfl, trishawref03_Less.l0, if_neg (by omega), trishawref03_Less.j1, if_neg (by decide), List.drop_eq_nil_of_le (show A.length ≤ q by omega)]
    by_cases e : q < B.length
    · rw [drop_rdI4 B q e, decide_eq_true (by omega)]; rfl
    · rw [List.drop_eq_nil_of_le (by omega), decide_eq_false (by omega)]; rfl
  | d + 1, q, k, h, hq => by
    have hqA : q < A.length := by omega
    have hw := wrap_nat q (by omega)
    have ih := fun h => less_l0 A B hA hB d (q + 1) k (by omega) h
    rw [show k + 2 * (d + 1) + 2 = (k + 2 * d + 2) + 1 + 1 from by omega, trishawref03_Less.l0, if_pos (by omega), drop_rdI4 A q hqA]
    by_cases e : q < B.length
    · rw [decide_eq_true (by omega), trishawref03_Less.j1, if_pos rfl, drop_rdI4 B q e, if_pos (by omega), if_pos (by omega), if_pos (by omega)]
      simp only [lessL]
      by_cases h1 : rd A (q : Int) = rd B (q : Int)
      · rw [if_pos h1, if_pos h1, hw]
        exact ih (by omega)
      · rw [if_neg h1, if_neg h1]
    · rw [decide_eq_false (by omega), trishawref03_Less.j1, if_neg (by decide), List.drop_eq_nil_of_le (show B.length ≤ q by omega), decide_eq_false (by omega)]
      rfl
theorem less_f (A B : List Int) (hA : A.length < 1000) (hB : B.length < 1000) (k : Nat) (hk : 2 * A.length + 2 ≤ k) : trishawref03_Less.f k A B = some (lessL A B) := by
  have := less_l0 A B hA hB A.length 0 (k - 2 * A.length - 2) (by omega) (by omega)
  rw [show k - 2 * A.length - 2 + 2 * A.length + 2 = k from by omega] at this
  exact this
end
end Go.Proofs.Ytpmadffgdfholaa.B
namespace Go.Proofs.Ytpmadffgdfholaa.B
set_option linter.unusedVariables false
open Go.RowKit Go.Proofs.YtpmadffgdfholaaW.PrintWords Go.Proofs.YtpmadffgdfholaaW.PrintLast Go.Proofs.YtpmadffgdfholaaW.PrintMore
/-- How many of a list are not gone. -/
def keptL (g : Int → Bool) (E : List Int) : Nat := (E.filter fun i => !g i).length
/-- How many streets, not gone, enter the set s. -/
def entN (l : List S30) (g : Int → Bool) (s : Nat) : Nat := keptL g (entL l s)
theorem keptL_le (g : Int → Bool) (E : List Int) : keptL g E ≤ E.length := List.length_filter_le _ _
section
variable {n : Nat} {l : List S30}
def nrEnd (n : Int) (l : List S30) (k : Nat) (o : Int → Option Bool) (x6 x7 x8 m : Int) : Option (Int × Int) :=
  if x6 < 0 then bNrw_.l0 k o m x8 (wrap64 (x8 + 2)) n l else if m < x6 then bNrw_.l0 k o m x8 (wrap64 (x8 + 2)) n l else bNrw_.l0 k o x6 x7 (wrap64 (x8 + 2)) n l
theorem nr_l1 (o : Int → Option Bool) (g : Int → Bool) (x6 x7 x8 : Int) (E : List Int) (ho : ∀ x ∈ E, o x = some (g x)) (hE : E.length < 1000) : ∀ (d q k acc : Nat), q + d = E.length → acc ≤ q →
    bNrw_.l1 (k + d + 1) o x6 x7 x8 (acc : Int) E (E.length : Int) (q : Int) (n : Int) l = nrEnd (n : Int) l k o x6 x7 x8 ((acc + keptL g (E.drop q) : Nat) : Int)
  | 0, q, k, acc, h, _ => by
    rw [show k + 0 + 1 = k + 1 from rfl, bNrw_.l1, if_neg (by omega), List.drop_eq_nil_of_le (by omega)]
    rfl
  | d + 1, q, k, acc, h, ha => by
    have hq : q < E.length := by omega
    have hw := wrap_nat q (by omega)
    have hw2 := wrap_nat acc (by omega)
    have hox := ho _ (rd_mem4 E q hq)
    rw [show k + (d + 1) + 1 = (k + d + 1) + 1 from by omega, bNrw_.l1, if_pos (by omega), if_pos (by omega), if_pos (by omega), hox, Option.bind_some, drop_rdI4 E q hq, hw, hw2]
    unfold keptL
    by_cases hg : g (rd E (q : Int)) = true
    · rw [if_pos hg, List.filter_cons_of_neg (by rw [hg]; decide)]
      exact nr_l1 o g x6 x7 x8 E ho hE d (q + 1) k acc (by omega) (by omega)
    · rw [if_neg hg, List.filter_cons_of_pos (by rw [Bool.not_eq_true] at hg; rw [hg]; rfl), List.length_cons]
      have := nr_l1 o g x6 x7 x8 E ho hE d (q + 1) k (acc + 1) (by omega) (by omega)
      rw [this]
      unfold keptL
      rw [show acc + 1 + ((E.drop (q + 1)).filter fun i => !g i).length = acc + (((E.drop (q + 1)).filter fun i => !g i).length + 1) by omega]
/-- The least of the sets 2, 4, .., 2 j. -/
structure LeastS (l : List S30) (g : Int → Bool) (j : Nat) (x6 x7 : Int) : Prop where
  pos : 1 ≤ j
  set : ∃ t, 1 ≤ t ∧ t ≤ j ∧ x7 = ((2 * t : Nat) : Int) ∧ x6 = ((entN l g (2 * t) : Nat) : Int) ∧ ∀ u, 1 ≤ u → u < t → entN l g (2 * t) < entN l g (2 * u)
  low : ∀ u, 1 ≤ u → u ≤ j → x6 ≤ ((entN l g (2 * u) : Nat) : Int)
theorem nr_l0 (hn1 : 2 ≤ n) (hn : n ≤ 7) (hl : l.length ≤ 30) (hx : ∀ x ∈ l, wayOk n x = true) (o : Int → Option Bool) (g : Int → Bool) (ho : ∀ i : Nat, i < l.length → o (i : Int) = some (g (i : Int))) (p : Nat) (hp : 2 ^ n = 2 * p) : ∀ (d j : Nat) (x6 x7 : Int), j + d = p - 1 → (j = 0 ∧ x6 = -1 ∧ x7 = 0 ∨ LeastS l g j x6 x7) →
    ∃ y6 y7, LeastS l g (p - 1) y6 y7 ∧ ∀ k, 100 + 40 * d ≤ k → bNrw_.l0 k o x6 x7 ((2 * (j + 1) : Nat) : Int) (n : Int) l = some (y6, y7)
  | 0, j, x6, x7, h, hI => by
    have hp2 : 2 ≤ p := by
      have : 2 ^ 2 ≤ 2 ^ n := Nat.pow_le_pow_right (by decide) hn1
      omega
    have hp7 : 2 ^ n ≤ 2 ^ 7 := Nat.pow_le_pow_right (by decide) hn
    have hL : LeastS l g j x6 x7 := by
      rcases hI with ⟨h0, _⟩ | h
      · omega
      · exact h
    refine ⟨x6, x7, by rw [show p - 1 = j by omega]; exact hL, fun k hk => ?_⟩
    obtain ⟨k, rfl⟩ : ∃ k', k = k' + 1 := ⟨k - 1, by omega⟩
    have hz : ((2 : Int) ^ n) = ((2 ^ n : Nat) : Int) := by norm_cast
    rw [bNrw_.l0, everybody_f hn, Option.bind_some, if_neg (by rw [hz]; omega)]
  | d + 1, j, x6, x7, h, hI => by
    have hp7 : 2 ^ n ≤ 2 ^ 7 := Nat.pow_le_pow_right (by decide) hn
    have hz : ((2 : Int) ^ n) = ((2 ^ n : Nat) : Int) := by norm_cast
    have hs7 : 2 * (j + 1) < 128 := by omega
    have hE := fun k (hk : 40 ≤ k) => entering_f (n := n) hn hl hx hs7 k hk
    have hEl := entL_length l (2 * (j + 1))
    have hEn := entL_nat l (2 * (j + 1))
    have hw : wrap64 (((2 * (j + 1) : Nat) : Int) + 2) = ((2 * (j + 1 + 1) : Nat) : Int) := by unfold wrap64; omega
    have hstep : ∀ k, 100 ≤ k → bNrw_.l0 k o x6 x7 ((2 * (j + 1) : Nat) : Int) (n : Int) l = nrEnd (n : Int) l (k - (entL l (2 * (j + 1))).length - 2) o x6 x7 ((2 * (j + 1) : Nat) : Int) ((entN l g (2 * (j + 1)) : Nat) : Int) := by
      intro k hk
      obtain ⟨k, rfl⟩ : ∃ k', k = k' + 1 := ⟨k - 1, by omega⟩
      have h1 := nr_l1 (n := n) (l := l) o g x6 x7 ((2 * (j + 1) : Nat) : Int) (entL l (2 * (j + 1))) (fun x hxE => by obtain ⟨i, rfl, hi⟩ := hEn x hxE; exact ho i hi) (by omega) (entL l (2 * (j + 1))).length 0 (k - (entL l (2 * (j + 1))).length - 1) 0 (by omega) (by omega)
      rw [show k - (entL l (2 * (j + 1))).length - 1 + (entL l (2 * (j + 1))).length + 1 = k from by omega, List.drop_zero, Nat.zero_add] at h1
      rw [bNrw_.l0, everybody_f hn, Option.bind_some, if_pos (by rw [hz]; omega), hE k (by omega), Option.bind_some]
      rw [show k + 1 - (entL l (2 * (j + 1))).length - 2 = k - (entL l (2 * (j + 1))).length - 1 from by omega]
      exact h1
    by_cases hless : x6 < 0 ∨ ((entN l g (2 * (j + 1)) : Nat) : Int) < x6
    · have hL : LeastS l g (j + 1) ((entN l g (2 * (j + 1)) : Nat) : Int) ((2 * (j + 1) : Nat) : Int) := by
        rcases hI with ⟨h0, h6, _⟩ | hI
        · subst h0
          refine ⟨by omega, ⟨1, by omega, by omega, rfl, rfl, fun u h1 h2 => by omega⟩, fun u h1 h2 => ?_⟩
          obtain rfl : u = 1 := by omega
          exact Int.le_refl _
        · obtain ⟨t, t1, t2, t3, t4, t5⟩ := hI.set
          refine ⟨by omega, ⟨j + 1, by omega, by omega, rfl, rfl, fun u h1 h2 => ?_⟩, fun u h1 h2 => ?_⟩
          · have := hI.low u h1 (by omega); omega
          · by_cases e : u = j + 1
            · subst e; exact Int.le_refl _
            · have := hI.low u h1 (by omega); omega
      obtain ⟨y6, y7, hy, hk⟩ := nr_l0 hn1 hn hl hx o g ho p hp d (j + 1) _ _ (by omega) (.inr hL)
      refine ⟨y6, y7, hy, fun k hk2 => ?_⟩
      rw [hstep k (by omega)]
      unfold nrEnd
      rw [hw]
      by_cases h0 : x6 < 0
      · rw [if_pos h0]; exact hk _ (by omega)
      · rw [if_neg h0, if_pos (by omega)]; exact hk _ (by omega)
    · have hI : LeastS l g j x6 x7 := by
        rcases hI with ⟨_, h6, _⟩ | hI
        · omega
        · exact hI
      have hL : LeastS l g (j + 1) x6 x7 := by
        obtain ⟨t, t1, t2, t3, t4, t5⟩ := hI.set
        refine ⟨by omega, ⟨t, t1, by omega, t3, t4, t5⟩, fun u h1 h2 => ?_⟩
        by_cases e : u = j + 1
        · subst e; omega
        · exact hI.low u h1 (by omega)
      obtain ⟨y6, y7, hy, hk⟩ := nr_l0 hn1 hn hl hx o g ho p hp d (j + 1) _ _ (by omega) (.inr hL)
      refine ⟨y6, y7, hy, fun k hk2 => ?_⟩
      rw [hstep k (by omega)]
      unfold nrEnd
      rw [hw, if_neg (by omega), if_neg (by omega)]
      exact hk _ (by omega)
/-- The least number of streets that enter a set. -/
structure NarrowS (n : Nat) (l : List S30) (g : Int → Bool) (least at_ : Nat) : Prop where
  set : IsSetN n (at_ : Int)
  val : entN l g at_ = least
  low : ∀ s : Nat, IsSetN n (s : Int) → least ≤ entN l g s
  first : ∀ s : Nat, IsSetN n (s : Int) → entN l g s = least → at_ ≤ s
theorem narrow_spec (hn1 : 2 ≤ n) (hn : n ≤ 7) (hl : l.length ≤ 30) (hx : ∀ x ∈ l, wayOk n x = true) (o : Int → Option Bool) (g : Int → Bool) (ho : ∀ i : Nat, i < l.length → o (i : Int) = some (g (i : Int))) :
    ∃ least at_ : Nat, NarrowS n l g least at_ ∧ ∀ k, 3000 ≤ k → bNrw_.f k (n : Int) l o = some ((least : Int), (at_ : Int)) := by
  obtain ⟨p, hp⟩ : ∃ p, 2 ^ n = 2 * p := ⟨2 ^ (n - 1), by rw [← Nat.pow_succ']; congr 1; omega⟩
  have hp2 : 2 ≤ p := by
    have : 2 ^ 2 ≤ 2 ^ n := Nat.pow_le_pow_right (by decide) hn1
    omega
  have hp7 : 2 ^ n ≤ 2 ^ 7 := Nat.pow_le_pow_right (by decide) hn
  have hz : ((2 : Int) ^ n) = ((2 ^ n : Nat) : Int) := by norm_cast
  obtain ⟨y6, y7, hL, hk⟩ := nr_l0 hn1 hn hl hx o g ho p hp (p - 1) 0 (-1) 0 (by omega) (.inl ⟨rfl, rfl, rfl⟩)
  obtain ⟨t, t1, t2, rfl, rfl, t5⟩ := hL.set
  have hset : ∀ s : Nat, IsSetN n (s : Int) ↔ ∃ u, 1 ≤ u ∧ u ≤ p - 1 ∧ s = 2 * u := by
    intro s
    unfold IsSetN
    rw [hz, Int.toNat_natCast]
    constructor
    · rintro ⟨h0, h1, h2⟩
      refine ⟨s / 2, ?_⟩
      rw [Nat.testBit_zero] at h2
      have := of_decide_eq_false h2
      omega
    · rintro ⟨u, u1, u2, rfl⟩
      refine ⟨by omega, by omega, ?_⟩
      rw [Nat.testBit_zero]
      exact decide_eq_false (by omega)
  refine ⟨entN l g (2 * t), 2 * t, ⟨(hset _).2 ⟨t, t1, t2, rfl⟩, rfl, fun s hs => ?_, fun s hs he => ?_⟩, fun k hk2 => ?_⟩
  · obtain ⟨u, u1, u2, rfl⟩ := (hset s).1 hs
    have := hL.low u u1 u2; omega
  · obtain ⟨u, u1, u2, rfl⟩ := (hset s).1 hs
    have := t5 u u1
    omega
  · unfold bNrw_.f
    exact hk k (by omega)
end
end Go.Proofs.Ytpmadffgdfholaa.B
namespace Go.Proofs.Ytpmadffgdfholaa.B
set_option linter.unusedSimpArgs false
set_option linter.unusedVariables false
open Go.RowKit Go.Proofs.YtpmadffgdfholaaW.PrintWords Go.Proofs.YtpmadffgdfholaaW.PrintLast Go.Proofs.YtpmadffgdfholaaW.PrintMore
def IsSetM (n s : Nat) : Prop := 0 < s ∧ s < 2 ^ n ∧ s.testBit 0 = false
theorem setM_iff (n s : Nat) : IsSetN n (s : Int) ↔ IsSetM n s := by
  have hz : ((2 : Int) ^ n) = ((2 ^ n : Nat) : Int) := by norm_cast
  unfold IsSetN IsSetM
  rw [hz, Int.toNat_natCast]
  refine and_congr ?_ (and_congr ?_ Iff.rfl) <;> omega
/-- How many streets, not gone, enter the set s, counted street by street. -/
def entC (l : List S30) (g : Int → Bool) (s : Nat) : Nat := cntN (fun i => entB l s i && !g (i : Int)) l.length
theorem cntN_filter (P Q : Nat → Bool) : ∀ m, ((((List.range m).filter P).map fun i : Nat => (i : Int)).filter fun x => Q x.toNat).length = cntN (fun i => P i && Q i) m
  | 0 => rfl
  | m + 1 => by
    rw [List.range_succ, List.filter_append, List.map_append, List.filter_append, List.length_append, cntN_filter P Q m, cntN]
    congr 1
    by_cases hP : P m = true
    · rw [List.filter_cons_of_pos hP]
      by_cases hQ : Q m = true
      · simp [hP, hQ]
      · simp [hP, hQ]
    · rw [List.filter_cons_of_neg hP]
      simp [hP]
theorem entN_entC (l : List S30) (g : Int → Bool) (s : Nat) : entN l g s = entC l g s := by
  unfold entN keptL entC entL
  have := cntN_filter (entB l s) (fun i => !g (i : Int)) l.length
  rw [← this]
  congr 1
  refine List.filter_congr fun x hx => ?_
  obtain ⟨i, _, rfl⟩ := List.mem_map.1 hx
  rw [Int.toNat_natCast]
theorem cntN_sub {P Q U V : Nat → Bool} : ∀ m, (∀ i, i < m → (if P i = true then 1 else 0) + (if Q i = true then 1 else 0) ≤ (if U i = true then 1 else 0) + (if V i = true then (1 : Nat) else 0)) → cntN P m + cntN Q m ≤ cntN U m + cntN V m
  | 0, _ => Nat.le_refl _
  | m + 1, h => by
    have ih := cntN_sub m fun i hi => h i (by omega)
    have := h m (by omega)
    simp only [cntN]
    omega
theorem cntN_pos {P : Nat → Bool} : ∀ m, 0 < cntN P m → ∃ i, i < m ∧ P i = true
  | 0, h => absurd h (Nat.lt_irrefl 0)
  | m + 1, h => by
    by_cases hP : P m = true
    · exact ⟨m, by omega, hP⟩
    · simp only [cntN, if_neg hP, Nat.add_zero] at h
      obtain ⟨i, hi, hp⟩ := cntN_pos m h
      exact ⟨i, by omega, hp⟩
theorem cntN_gone {P Q : Nat → Bool} {i : Nat} (hQ : ∀ j, j ≠ i → Q j = P j) (hi : Q i = false) : ∀ m, i < m → cntN Q m + (if P i = true then 1 else 0) = cntN P m
  | 0, h => absurd h (by omega)
  | m + 1, h => by
    simp only [cntN]
    by_cases e : i = m
    · subst e
      have : ∀ k, k ≤ i → cntN Q k = cntN P k := by
        intro k
        induction k with
        | zero => exact fun _ => rfl
        | succ k ih => intro hk; simp only [cntN]; rw [ih (by omega), hQ k (by omega)]
      rw [this i (Nat.le_refl _), hi]
      simp
    · have ih := cntN_gone hQ hi m (by omega)
      rw [hQ m (fun h => e h.symm)]
      omega
section
variable {n : Nat} {l : List S30}
theorem entC_sub (g : Int → Bool) (S T : Nat) : entC l g (S &&& T) + entC l g (S ||| T) ≤ entC l g S + entC l g T := by
  refine cntN_sub _ fun i _ => ?_
  unfold entB
  rw [Nat.testBit_and, Nat.testBit_and, Nat.testBit_or, Nat.testBit_or]
  cases S.testBit (aW l i) <;> cases S.testBit (bW l i) <;> cases T.testBit (aW l i) <;> cases T.testBit (bW l i) <;> cases g (i : Int) <;> decide
theorem entC_gone (g : Int → Bool) (S i : Nat) (hi : i < l.length) (hg : g (i : Int) = false) : entC l (fun j => decide (j = (i : Int)) || g j) S + (if entB l S i = true then 1 else 0) = entC l g S := by
  have := cntN_gone (P := fun j => entB l S j && !g (j : Int)) (Q := fun j => entB l S j && !(decide ((j : Int) = (i : Int)) || g (j : Int))) (i := i) (fun j hj => by rw [decide_eq_false (by omega), Bool.false_or]) (by simp) l.length hi
  rw [hg] at this
  simp only [Bool.not_false, Bool.and_true] at this
  exact this
theorem bit_lt {s c : Nat} (hs : s < 2 ^ n) (hc : s.testBit c = true) : c < n := by
  refine Classical.byContradiction fun h => ?_
  rw [Nat.testBit_lt_two_pow (Nat.lt_of_lt_of_le hs (Nat.pow_le_pow_right (by decide) (by omega)))] at hc
  exact absurd hc (by decide)
theorem setM_of {s c : Nat} (hs : s < 2 ^ n) (hc : s.testBit c = true) (h0 : s.testBit 0 = false) : IsSetM n s := by
  refine ⟨Nat.pos_of_ne_zero fun e => ?_, hs, h0⟩
  rw [e, Nat.zero_testBit] at hc
  exact absurd hc (by decide)
theorem lovasz (hx : ∀ x ∈ l, wayOk n x = true) (gone : Int → Bool) (k R : Nat) (hR : R < 2 ^ n) (hR0 : R.testBit 0 = true) {c0 : Nat} (hc0 : c0 < n) (hout : R.testBit c0 = false)
    (h1 : ∀ S, IsSetM n S → k ≤ entC l gone S) (h2 : ∀ S, IsSetM n S → (∀ c, S.testBit c = true → R.testBit c = false) → k + 1 ≤ entC l gone S) :
    ∃ i, i < l.length ∧ gone (i : Int) = false ∧ R.testBit (aW l i) = true ∧ R.testBit (bW l i) = false ∧ ∀ S, IsSetM n S → k ≤ entC l (fun j => decide (j = (i : Int)) || gone j) S := by
  obtain ⟨C, hC⟩ : ∃ C, C = 2 ^ n - (R + 1) := ⟨_, rfl⟩
  have hCb : ∀ c, C.testBit c = (decide (c < n) && !R.testBit c) := fun c => by rw [hC]; exact Nat.testBit_two_pow_sub_succ hR c
  have hClt : C < 2 ^ n := by rw [hC]; have : 0 < 2 ^ n := Nat.pow_pos (by decide); omega
  by_cases hcrit : ∃ S, IsSetM n S ∧ entC l gone S = k ∧ ∃ c, S.testBit c = true ∧ R.testBit c = false
  · obtain ⟨S, ⟨hS, hSk, c, hcS, hcR⟩, hmin⟩ := least_nat hcrit
    have hD : (S &&& C).testBit c = true := by rw [Nat.testBit_and, hcS, hCb, decide_eq_true (bit_lt hS.2.1 hcS), hcR]; rfl
    have hDs : IsSetM n (S &&& C) := setM_of (Nat.lt_of_le_of_lt Nat.and_le_left hS.2.1) hD (by rw [Nat.testBit_and, hS.2.2, Bool.false_and])
    have hDk := h2 (S &&& C) hDs fun d hd => by
      rw [Nat.testBit_and, Bool.and_eq_true, hCb, Bool.and_eq_true] at hd
      simpa using hd.2.2
    obtain ⟨i, hi, hent, hno⟩ : ∃ i, i < l.length ∧ (entB l (S &&& C) i && !gone (i : Int)) = true ∧ (entB l S i && !gone (i : Int)) = false := by
      refine Classical.byContradiction fun hh => ?_
      have : entC l gone (S &&& C) ≤ entC l gone S := cntN_le _ fun i hi h => by
        cases hb : (entB l S i && !gone (i : Int)) with
        | true => rfl
        | false => exact absurd ⟨i, hi, h, hb⟩ hh
      omega
    rw [Bool.and_eq_true] at hent
    obtain ⟨he, hg⟩ := hent
    have hg' : gone (i : Int) = false := by simpa using hg
    rw [hg, Bool.and_true] at hno
    unfold entB at he hno
    rw [Bool.and_eq_true, Nat.testBit_and, Nat.testBit_and] at he
    obtain ⟨ha, hb⟩ := he
    rw [Bool.and_eq_true] at hb
    rw [hb.1, Bool.and_true] at hno
    have haS : S.testBit (aW l i) = true := by simpa using hno
    have haC : C.testBit (aW l i) = false := by rw [haS, Bool.true_and] at ha; simpa using ha
    have hend := bW_eq hx i hi
    have haR : R.testBit (aW l i) = true := by
      rw [hCb, decide_eq_true hend.2.2.2, Bool.true_and] at haC
      simpa using haC
    have hbR : R.testBit (bW l i) = false := by
      have := hb.2
      rw [hCb, Bool.and_eq_true] at this
      simpa using this.2
    refine ⟨i, hi, hg', haR, hbR, fun T hT => ?_⟩
    have hrm := entC_gone gone T i hi hg'
    have hTk := h1 T hT
    by_cases hTi : entB l T i = true
    · rw [if_pos hTi] at hrm
      refine Classical.byContradiction fun hlt => ?_
      have hTe : entC l gone T = k := by omega
      unfold entB at hTi
      rw [Bool.and_eq_true] at hTi
      have haT : T.testBit (aW l i) = false := by simpa using hTi.1
      have hI : IsSetM n (S &&& T) := setM_of (c := bW l i) (Nat.lt_of_le_of_lt Nat.and_le_left hS.2.1) (by rw [Nat.testBit_and, hb.1, hTi.2]; rfl) (by rw [Nat.testBit_and, hS.2.2, Bool.false_and])
      have hU : IsSetM n (S ||| T) := setM_of (c := bW l i) (Nat.or_lt_two_pow hS.2.1 hT.2.1) (by rw [Nat.testBit_or, hb.1]; rfl) (by rw [Nat.testBit_or, hS.2.2, hT.2.2]; rfl)
      have hsub := entC_sub (l := l) gone S T
      have g1 := h1 _ hI
      have g2 := h1 _ hU
      have hlt2 : (S &&& T) < S := by
        refine Nat.lt_of_le_of_ne Nat.and_le_left fun e => ?_
        have : (S &&& T).testBit (aW l i) = S.testBit (aW l i) := by rw [e]
        rw [Nat.testBit_and, haS, haT] at this
        exact absurd this (by decide)
      exact hmin _ hlt2 ⟨hI, by omega, bW l i, by rw [Nat.testBit_and, hb.1, hTi.2]; rfl, hbR⟩
    · rw [if_neg hTi] at hrm
      omega
  · have hCs : IsSetM n C := setM_of (c := c0) hClt (by rw [hCb, decide_eq_true hc0, hout]; rfl) (by rw [hCb, hR0]; simp)
    have hCk := h2 C hCs fun d hd => by
      rw [hCb, Bool.and_eq_true] at hd
      simpa using hd.2
    obtain ⟨i, hi, hent⟩ := cntN_pos l.length (show 0 < entC l gone C by omega)
    rw [Bool.and_eq_true] at hent
    obtain ⟨he, hg⟩ := hent
    have hg' : gone (i : Int) = false := by simpa using hg
    unfold entB at he
    rw [Bool.and_eq_true] at he
    obtain ⟨ha, hb⟩ := he
    have hend := bW_eq hx i hi
    have haR : R.testBit (aW l i) = true := by
      have : C.testBit (aW l i) = false := by simpa using ha
      rw [hCb, decide_eq_true hend.2.2.2, Bool.true_and] at this
      simpa using this
    have hbR : R.testBit (bW l i) = false := by
      rw [hCb, Bool.and_eq_true] at hb
      simpa using hb.2
    refine ⟨i, hi, hg', haR, hbR, fun T hT => ?_⟩
    have hrm := entC_gone gone T i hi hg'
    have hTk := h1 T hT
    by_cases hTi : entB l T i = true
    · rw [if_pos hTi] at hrm
      refine Classical.byContradiction fun hlt => hcrit ⟨T, hT, by omega, bW l i, ?_, hbR⟩
      unfold entB at hTi
      rw [Bool.and_eq_true] at hTi
      exact hTi.2
    · rw [if_neg hTi] at hrm
      omega
end
end Go.Proofs.Ytpmadffgdfholaa.B
namespace Go.Proofs.Ytpmadffgdfholaa.B
set_option linter.unusedVariables false
set_option linter.unusedSimpArgs false
open Go.RowKit Go.Proofs.YtpmadffgdfholaaW.PrintWords Go.Proofs.YtpmadffgdfholaaW.PrintLast Go.Proofs.YtpmadffgdfholaaW.PrintMore
section
variable {n : Nat} {l : List S30}
/-- May street j be taken? -/
structure GoodW (n : Nat) (l : List S30) (gone : Int → Bool) (c R j : Nat) : Prop where
  left : gone (j : Int) = false
  frm : R.testBit (aW l j) = true
  unto : R.testBit (bW l j) = false
  low : ∀ S, IsSetM n S → c ≤ entC l (fun i => decide (i = (j : Int)) || gone i) S
theorem way_at (hx : ∀ x ∈ l, wayOk n x = true) {i : Nat} (hi : i < l.length) : 0 ≤ (rdT l (i : Int)).f0 ∧ (rdT l (i : Int)).f0 < (n : Int) ∧ 0 ≤ (rdT l (i : Int)).f1 ∧ (rdT l (i : Int)).f1 < (n : Int) ∧ (aW l i : Int) = (rdT l (i : Int)).f0 ∧ (bW l i : Int) = (rdT l (i : Int)).f1 := by
  have h := (wayOk_iff (n : Int) _).1 (hx _ (rd_T30_mem l i hi))
  unfold aW bW
  refine ⟨h.1, h.2.1, h.2.2.1, h.2.2.2.1, ?_, ?_⟩ <;> omega
theorem skip_eq (hn : n ≤ 7) (hx : ∀ x ∈ l, wayOk n x = true) {R i : Nat} (hR : R < 2 ^ n) (hi : i < l.length) (b : Bool) : skipW (R : Int) (rdT l (i : Int)) b = some (b || !R.testBit (aW l i) || R.testBit (bW l i)) := by
  obtain ⟨h1, h2, h3, h4, ea, eb⟩ := way_at hx hi
  have hR7 : R < 128 := Nat.lt_of_lt_of_le hR (by have : 2 ^ n ≤ 2 ^ 7 := Nat.pow_le_pow_right (by decide) hn; omega)
  unfold skipW
  cases b with
  | true => simp
  | false =>
    rw [if_neg (by decide), if_pos h1, ← ea]
    have f0 := fin_and0 ⟨R, hR7⟩ ⟨aW l i, by omega⟩
    simp only [] at f0
    cases ha : R.testBit (aW l i) with
    | false => rw [if_pos (f0.2 ha)]; simp
    | true =>
      rw [if_neg (fun e => by rw [f0.1 e] at ha; exact absurd ha (by decide)), if_pos h3, ← eb]
      have f1 := fin_and ⟨R, hR7⟩ ⟨bW l i, by omega⟩
      simp only [] at f1
      congr 1
      cases hb : R.testBit (bW l i) with
      | true => simpa using f1.2 hb
      | false => rw [Bool.or_false, beq_eq_false_iff_ne.mpr (fun e => by rw [f1.1 e] at hb; exact absurd hb (by decide))]; rfl
theorem treeIn_spec (hn1 : 2 ≤ n) (hn : n ≤ 7) (hl : l.length ≤ 30) (hx : ∀ x ∈ l, wayOk n x = true) (gone : Int → Bool) (c R : Nat) (hR : R < 2 ^ n) : ∀ d i, i + d = l.length → (∃ j, i ≤ j ∧ j < l.length ∧ GoodW n l gone c R j) →
    ∃ j, j < l.length ∧ GoodW n l gone c R j ∧ ∀ k, 3000 ≤ k → treeIn k (n : Int) l (c : Int) (R : Int) gone d i = some (some j)
  | 0, i, h, ⟨j, h1, h2, _⟩ => absurd h2 (by omega)
  | d + 1, i, h, hex => by
    have hi : i < l.length := by omega
    have hstep : ∀ k, treeIn k (n : Int) l (c : Int) (R : Int) gone (d + 1) i = if (gone (i : Int) || !R.testBit (aW l i) || R.testBit (bW l i)) = true then treeIn k (n : Int) l (c : Int) (R : Int) gone d (i + 1) else
      (bNrw_.f k (n : Int) l (fun j => some (decide (j = (i : Int)) || gone j))).bind fun lt => if lt.1 ≥ (c : Int) then some (some i) else treeIn k (n : Int) l (c : Int) (R : Int) gone d (i + 1) := fun k => by
      rw [treeIn, skip_eq hn hx hR hi, Option.bind_some]
    have hnext : ¬ GoodW n l gone c R i → ∃ j, i + 1 ≤ j ∧ j < l.length ∧ GoodW n l gone c R j := fun hng => by
      obtain ⟨j, h1, h2, h3⟩ := hex
      rcases Nat.lt_or_ge i j with hlt | hge
      · exact ⟨j, hlt, h2, h3⟩
      · obtain rfl : j = i := by omega
        exact absurd h3 hng
    by_cases hs : (gone (i : Int) || !R.testBit (aW l i) || R.testBit (bW l i)) = true
    · have hng : ¬ GoodW n l gone c R i := fun hg => by
        rw [hg.left, hg.frm, hg.unto] at hs
        exact absurd hs (by decide)
      obtain ⟨j, h1, h2, h3⟩ := treeIn_spec hn1 hn hl hx gone c R hR d (i + 1) (by omega) (hnext hng)
      exact ⟨j, h1, h2, fun k hk => by rw [hstep, if_pos hs, h3 k hk]⟩
    · obtain ⟨least, at_, hN, hk⟩ := narrow_spec hn1 hn hl hx (fun j => some (decide (j = (i : Int)) || gone j)) (fun j => decide (j = (i : Int)) || gone j) (fun _ _ => rfl)
      have hsb : gone (i : Int) = false ∧ R.testBit (aW l i) = true ∧ R.testBit (bW l i) = false := by
        revert hs
        cases gone (i : Int) <;> cases R.testBit (aW l i) <;> cases R.testBit (bW l i) <;> simp
      by_cases hc : c ≤ least
      · refine ⟨i, hi, ⟨hsb.1, hsb.2.1, hsb.2.2, fun S hS => ?_⟩, fun k hk2 => ?_⟩
        · have := hN.low S ((setM_iff n S).2 hS)
          rw [entN_entC] at this
          exact Nat.le_trans hc this
        · rw [hstep, if_neg hs, hk k hk2, Option.bind_some, if_pos (show ((least : Int) ≥ (c : Int)) by omega)]
      · have hng : ¬ GoodW n l gone c R i := fun hg => by
          have h1 := hg.low at_ ((setM_iff n at_).1 hN.set)
          have h2 := hN.val
          rw [entN_entC] at h2
          omega
        obtain ⟨j, h1, h2, h3⟩ := treeIn_spec hn1 hn hl hx gone c R hR d (i + 1) (by omega) (hnext hng)
        exact ⟨j, h1, h2, fun k hk2 => by rw [hstep, if_neg hs, hk k hk2, Option.bind_some, if_neg (show ¬ ((least : Int) ≥ (c : Int)) by omega), h3 k hk2]⟩
/-- What stands in a round of tree: R the corners that are reached, f the street into each. -/
structure TreeI (n : Nat) (l : List S30) (gone0 gone : Int → Bool) (c R : Nat) (f : Nat → Nat) (out : List Int) : Prop where
  lt : R < 2 ^ n
  root : R.testBit 0 = true
  on : ∀ d, 0 < d → R.testBit d = true → f d < l.length ∧ bW l (f d) = d ∧ gone0 (f d : Int) = false
  mem : ∀ x, x ∈ out ↔ ∃ d, 0 < d ∧ R.testBit d = true ∧ x = (f d : Int)
  once : out.Nodup
  all : ∀ d, R.testBit d = true → Rc (aW l) (bW l) (fun i => ∃ e, 0 < e ∧ R.testBit e = true ∧ i = f e) 0 d
  gn : ∀ j, gone j = (gone0 j || decide (j ∈ out))
  low : ∀ S, IsSetM n S → c ≤ entC l gone S
  more : ∀ S, IsSetM n S → (∀ d, S.testBit d = true → R.testBit d = false) → c + 1 ≤ entC l gone S
theorem Rc_mono' {a b : Nat → Nat} {T U : Nat → Prop} {s c : Nat} (h : Rc a b T s c) (hT : ∀ i, T i → U i) : Rc a b U s c := by
  induction h with
  | refl => exact .refl
  | step hi _ ih => exact .step (hT _ hi) ih
theorem bit_mask {m c : Nat} (hc : c < m) : (2 ^ m - 1).testBit c = true := by
  rw [Nat.testBit_two_pow_sub_one, decide_eq_true hc]
theorem or_lt {R b : Nat} (hR : R < 2 ^ n) (hb : b < n) : R ||| 1 <<< b < 2 ^ n := by
  refine Nat.or_lt_two_pow hR ?_
  rw [Nat.shiftLeft_eq, Nat.one_mul]
  exact Nat.pow_lt_pow_right (by decide) hb
theorem TreeI.next (hx : ∀ x ∈ l, wayOk n x = true) {gone0 gone : Int → Bool} {c R j : Nat} {f : Nat → Nat} {out : List Int} (h : TreeI n l gone0 gone c R f out) (hj : j < l.length) (hg : GoodW n l gone c R j) :
    TreeI n l gone0 (fun i => decide (i = (j : Int)) || gone i) c (R ||| 1 <<< bW l j) (fun d => if d = bW l j then j else f d) (out ++ [(j : Int)]) := by
  obtain ⟨h1, h2, h3, h4, ea, eb⟩ := way_at hx hj
  have hb0 : 0 < bW l j := Nat.pos_of_ne_zero fun e => by have := hg.unto; rw [e, h.root] at this; exact absurd this (by decide)
  have hne : ∀ d, R.testBit d = true → d ≠ bW l j := fun d hd e => by rw [e, hg.unto] at hd; exact absurd hd (by decide)
  have hbit : ∀ d, (R ||| 1 <<< bW l j).testBit d = true ↔ R.testBit d = true ∨ d = bW l j := fun d => by rw [tb_or]; simp
  have hin : ∀ x, x ∈ out ++ [(j : Int)] ↔ ∃ d, 0 < d ∧ (R ||| 1 <<< bW l j).testBit d = true ∧ x = ((if d = bW l j then j else f d : Nat) : Int) := fun x => by
    rw [List.mem_append, List.mem_singleton, h.mem]
    constructor
    · rintro (⟨d, d0, d1, rfl⟩ | rfl)
      · exact ⟨d, d0, (hbit d).2 (.inl d1), by rw [if_neg (hne d d1)]⟩
      · exact ⟨bW l j, hb0, (hbit _).2 (.inr rfl), by rw [if_pos rfl]⟩
    · rintro ⟨d, d0, d1, rfl⟩
      by_cases e : d = bW l j
      · right; rw [if_pos e]
      · left
        rw [if_neg e]
        exact ⟨d, d0, ((hbit d).1 d1).resolve_right e, rfl⟩
  have hjn : (j : Int) ∉ out := fun hm => by
    obtain ⟨d, d0, d1, e⟩ := (h.mem _).1 hm
    have := (h.on d d0 d1).2.1
    obtain rfl : j = f d := by omega
    exact hne d d1 this.symm
  have hg0 : gone0 (j : Int) = false := by
    have := hg.left
    rw [h.gn, Bool.or_eq_false_iff] at this
    exact this.1
  refine ⟨or_lt h.lt (by omega), (hbit 0).2 (.inl h.root), fun d d0 d1 => ?_, hin, ?_, fun d d1 => ?_, fun i => ?_, hg.low, fun S hS hd => ?_⟩
  · by_cases e : d = bW l j
    · rw [if_pos e]; exact ⟨hj, e.symm, hg0⟩
    · rw [if_neg e]; exact h.on d d0 (((hbit d).1 d1).resolve_right e)
  · rw [List.nodup_append]
    exact ⟨h.once, by simp, fun a ha b hb e => by rw [List.mem_singleton] at hb; exact hjn (hb ▸ e ▸ ha)⟩
  · have hmono : ∀ d, R.testBit d = true → Rc (aW l) (bW l) (fun i => ∃ e, 0 < e ∧ (R ||| 1 <<< bW l j).testBit e = true ∧ i = if e = bW l j then j else f e) 0 d := fun d hd =>
      Rc_mono' (h.all d hd) fun i ⟨e, e0, e1, e2⟩ => ⟨e, e0, (hbit e).2 (.inl e1), by rw [if_neg (hne e e1)]; exact e2⟩
    rcases (hbit d).1 d1 with hd | hd
    · exact hmono d hd
    · subst hd
      exact .step ⟨bW l j, hb0, (hbit _).2 (.inr rfl), by rw [if_pos rfl]⟩ (hmono _ hg.frm)
  · rw [h.gn i]
    by_cases e : i = (j : Int)
    · subst e; simp
    · simp [e]
  · have h1 := h.more S hS fun d hd2 => by
      have := hd d hd2
      cases hr : R.testBit d with
      | false => rfl
      | true => rw [(hbit d).2 (.inl hr)] at this; exact absurd this (by decide)
    have hSb : S.testBit (bW l j) = false := by
      cases hr : S.testBit (bW l j) with
      | false => rfl
      | true =>
        have := hd _ hr
        rw [(hbit _).2 (.inr rfl)] at this
        exact absurd this (by decide)
    have h2 := entC_gone (l := l) gone S j hj hg.left
    have h3 : entB l S j = false := by unfold entB; rw [hSb, Bool.and_false]
    rw [h3] at h2
    simp only [Bool.false_eq_true, if_false, Nat.add_zero] at h2
    rw [h2]
    exact h1
end
end Go.Proofs.Ytpmadffgdfholaa.B
namespace Go.Proofs.Ytpmadffgdfholaa.B
set_option linter.unusedVariables false
set_option linter.unusedSimpArgs false
open Go.RowKit Go.Proofs.YtpmadffgdfholaaW.PrintWords Go.Proofs.YtpmadffgdfholaaW.PrintLast Go.Proofs.YtpmadffgdfholaaW.PrintMore
section
variable {n : Nat} {l : List S30}
def missN (n R : Nat) : Nat := cntN (fun c => !R.testBit c) n
theorem full_mask {R : Nat} (hR : R < 2 ^ n) (h : ∀ c, c < n → R.testBit c = true) : R = 2 ^ n - 1 := by
  apply Nat.eq_of_testBit_eq
  intro i
  rw [Nat.testBit_two_pow_sub_one]
  by_cases hi : i < n
  · rw [h i hi, decide_eq_true hi]
  · rw [decide_eq_false hi]
    exact Nat.testBit_lt_two_pow (Nat.lt_of_lt_of_le hR (Nat.pow_le_pow_right (by decide) (by omega)))
theorem cntN_zero {P : Nat → Bool} : ∀ m, cntN P m = 0 → ∀ i, i < m → P i = false
  | 0, _, i, hi => absurd hi (Nat.not_lt_zero _)
  | m + 1, h, i, hi => by
    simp only [cntN] at h
    by_cases e : i = m
    · subst e
      cases hp : P i with
      | false => rfl
      | true => rw [if_pos hp] at h; omega
    · exact cntN_zero m (by omega) i (by omega)
theorem miss_next {R b : Nat} (hb : b < n) (hR : R.testBit b = false) : missN n (R ||| 1 <<< b) + 1 = missN n R := by
  have := cntN_gone (P := fun c => !R.testBit c) (Q := fun c => !(R ||| 1 <<< b).testBit c) (i := b) (fun j hj => by rw [tb_or]; simp [hj]) (by rw [tb_or]; simp) n hb
  rw [hR] at this
  simpa [missN] using this
theorem treeOut_spec (hn1 : 2 ≤ n) (hn : n ≤ 7) (hl : l.length ≤ 30) (hx : ∀ x ∈ l, wayOk n x = true) (gone0 : Int → Bool) (c : Nat) : ∀ (d R : Nat) (gone : Int → Bool) (f : Nat → Nat) (out : List Int), TreeI n l gone0 gone c R f out → missN n R = d → out.length + d ≤ 7 →
    ∃ f' out' gone', TreeI n l gone0 gone' c (2 ^ n - 1) f' out' ∧ out'.length ≤ 7 ∧ ∀ k fuel, 3000 ≤ k → d + 1 ≤ fuel → treeOut k (n : Int) l (c : Int) fuel (R : Int) out gone = some (out', gone')
  | 0, R, gone, f, out, hI, hm, hlen => by
    have hfull : R = 2 ^ n - 1 := full_mask hI.lt fun c hc => by simpa using cntN_zero n hm c hc
    refine ⟨f, out, gone, hfull ▸ hI, by omega, fun k fuel hk hf => ?_⟩
    obtain ⟨fu, rfl⟩ : ∃ fu, fuel = fu + 1 := ⟨fuel - 1, by omega⟩
    rw [treeOut, everybody_f hn, Option.bind_some, if_pos]
    rw [hfull]
    have : 0 < 2 ^ n := Nat.pow_pos (by decide)
    have h2 : ((2 : Int) ^ n) = ((2 ^ n : Nat) : Int) := by norm_cast
    omega
  | d + 1, R, gone, f, out, hI, hm, hlen => by
    obtain ⟨c0, hc0, hc1⟩ := cntN_pos n (show 0 < cntN (fun c => !R.testBit c) n by have : missN n R = d + 1 := hm; unfold missN at this; omega)
    have hc1 : R.testBit c0 = false := by simpa using hc1
    obtain ⟨i, hi, g1, g2, g3, g4⟩ := lovasz hx gone c R hI.lt hI.root hc0 hc1 hI.low hI.more
    obtain ⟨j, hj, hg, hk1⟩ := treeIn_spec hn1 hn hl hx gone c R hI.lt l.length 0 (by omega) ⟨i, Nat.zero_le _, hi, g1, g2, g3, g4⟩
    obtain ⟨h1, h2, h3, h4, ea, eb⟩ := way_at hx hj
    have hb : bW l j < n := by omega
    have hR7 : R < 128 := Nat.lt_of_lt_of_le hI.lt (by have : 2 ^ n ≤ 2 ^ 7 := Nat.pow_le_pow_right (by decide) hn; omega)
    have hor := fin_or ⟨R, hR7⟩ ⟨bW l j, by omega⟩
    simp only [] at hor
    rw [eb] at hor
    obtain ⟨f', out', gone', hI', hl', hk'⟩ := treeOut_spec hn1 hn hl hx gone0 c d (R ||| 1 <<< bW l j) _ _ _ (hI.next hx hj hg) (by have := miss_next hb hg.unto; omega) (by rw [List.length_append, List.length_singleton]; omega)
    refine ⟨f', out', gone', hI', hl', fun k fuel hk hf => ?_⟩
    obtain ⟨fu, rfl⟩ : ∃ fu, fuel = fu + 1 := ⟨fuel - 1, by omega⟩
    rw [treeOut, everybody_f hn, Option.bind_some, if_neg, hk1 k hk, Option.bind_some]
    · simp only []
      rw [if_pos h3, if_pos (show out.length < 1000000 by omega), hor]
      exact hk' k fu hk (by omega)
    · intro e
      have : 0 < 2 ^ n := Nat.pow_pos (by decide)
      have hR2 : R = 2 ^ n - 1 := by
        have : ((2 : Int) ^ n) = ((2 ^ n : Nat) : Int) := by norm_cast
        omega
      rw [hR2, bit_mask hc0] at hc1
      exact absurd hc1 (by decide)
theorem sortI_asc {xs : List Int} (h : xs.Nodup) : (sortI xs).Pairwise (· < ·) := by
  have h1 : (sortI xs).Pairwise (fun a b => decide (a ≤ b) = true) := List.pairwise_mergeSort (fun a b c h1 h2 => by simp at *; omega) (fun a b => by simp; omega) xs
  have h2 : (sortI xs).Nodup := (List.mergeSort_perm xs _).nodup_iff.2 h
  exact (h1.and h2).imp fun {a b} hab => by have := of_decide_eq_true hab.1; have := hab.2; omega
theorem sortI_mem {xs : List Int} (x : Int) : x ∈ sortI xs ↔ x ∈ xs := (List.mergeSort_perm xs _).mem_iff
/-- What tree leaves, and what it gives. -/
theorem tree_spec (hr : readB (n : Int) l = 0) (gone : Int → Bool) (c : Nat) (h : ∀ S, IsSetM n S → c + 1 ≤ entC l gone S) :
    ∃ f gone', BrB n l f ∧ (∀ x ∈ listB n l f, gone x = false) ∧ (∀ j, gone' j = (gone j || decide (j ∈ listB n l f))) ∧ (∀ S, IsSetM n S → c ≤ entC l gone' S) ∧
      ∀ k, 4000 ≤ k → branch_town_tree.f k (n : Int) l gone (c : Int) = some (listB n l f, gone') := by
  obtain ⟨h2, h7, h30, hx⟩ := readB_ok hr
  have hn1 : 2 ≤ n := by omega
  have hn : n ≤ 7 := by omega
  have hb1 : ∀ d, (1 : Nat).testBit d = decide (d = 0) := fun d => by
    have := tb_one 0 d
    simpa using this
  have hI : TreeI n l gone gone c 1 (fun _ => 0) [] := by
    refine ⟨Nat.one_lt_two_pow (by omega), by decide, fun d d0 d1 => ?_, fun x => ?_, by simp, fun d d1 => ?_, fun j => by simp, fun S hS => Nat.le_of_succ_le (h S hS), fun S hS _ => h S hS⟩
    · rw [hb1, decide_eq_true_iff] at d1; omega
    · constructor
      · intro hh; exact absurd hh (by simp)
      · rintro ⟨d, d0, d1, _⟩
        rw [hb1, decide_eq_true_iff] at d1; omega
    · rw [hb1, decide_eq_true_iff] at d1
      subst d1
      exact .refl
  have hm : missN n 1 ≤ n - 1 := by
    have h1 := cntN_gone (P := fun _ => true) (Q := fun c => !(1 : Nat).testBit c) (i := 0) (fun j hj => by rw [hb1]; simp [hj]) (by rw [hb1]; simp) n (by omega)
    have h2 : ∀ m, cntN (fun _ => true) m = m := fun m => by
      induction m with
      | zero => rfl
      | succ m ih => simp [cntN, ih]
    rw [h2] at h1
    simp only [if_true] at h1
    unfold missN
    omega
  obtain ⟨f, out, gone', hT, hl, hk⟩ := treeOut_spec hn1 hn (by omega) hx gone c (missN n 1) 1 gone _ _ hI rfl (by simp only [List.length_nil]; omega)
  have hbit : ∀ d, d < n → (2 ^ n - 1).testBit d = true := fun d hd => bit_mask hd
  have hB : BrB n l f := ⟨fun d d0 d1 => ⟨(hT.on d d0 (hbit d d1)).1, (hT.on d d0 (hbit d d1)).2.1⟩, fun d d1 => Rc_mono' (hT.all d (hbit d d1)) fun i ⟨e, e0, e1, e2⟩ => ⟨e, e0, bit_lt hT.lt e1, e2⟩⟩
  have hmem : ∀ x, x ∈ out ↔ x ∈ listB n l f := fun x => by
    rw [hT.mem]
    unfold listB selL
    simp only [List.mem_map, List.mem_filter, List.mem_range, useB_iff]
    constructor
    · rintro ⟨d, d0, d1, rfl⟩
      obtain ⟨h1, h2, _⟩ := hT.on d d0 d1
      exact ⟨f d, ⟨h1, by rw [h2]; exact d0, by rw [h2]; exact bit_lt hT.lt d1, by rw [h2]⟩, rfl⟩
    · rintro ⟨j, ⟨h1, h2, h3, h4⟩, rfl⟩
      exact ⟨bW l j, h2, hbit _ h3, by rw [h4]⟩
  have hlist : sortI out = listB n l f := asc_ext _ _ (sortI_asc hT.once) (selL_asc _ _) fun x => by rw [sortI_mem, hmem]
  have hne : out ≠ [] := by
    intro e
    have := (hT.mem (f 1 : Int)).2 ⟨1, by decide, hbit 1 (by omega), rfl⟩
    rw [e] at this
    exact absurd this (by simp)
  refine ⟨f, gone', hB, fun x hx2 => ?_, fun j => by rw [hT.gn]; congr 1; rw [decide_eq_decide]; exact hmem j, hT.low, fun k hk2 => ?_⟩
  · obtain ⟨d, d0, d1, rfl⟩ := (hT.mem x).1 ((hmem x).2 hx2)
    exact (hT.on d d0 d1).2.2
  · unfold branch_town_tree.f
    have := hk k k (by omega) (by omega)
    rw [if_pos (show l.length < 1000000 by omega), show (1 : Int) = ((1 : Nat) : Int) from rfl, this, Option.bind_some, if_neg hne, if_pos (show out.length < 2000000 by omega), hlist]
end
end Go.Proofs.Ytpmadffgdfholaa.B
namespace Go.Proofs.Ytpmadffgdfholaa.B
set_option linter.unusedVariables false
set_option linter.unusedSimpArgs false
open Go.RowKit Go.Proofs.YtpmadffgdfholaaW.PrintWords Go.Proofs.YtpmadffgdfholaaW.PrintLast Go.Proofs.YtpmadffgdfholaaW.PrintMore
section
variable {n : Nat} {l : List S30}
def Disj (a b : List Int) : Prop := ∀ x, x ∈ a → x ∈ b → False
theorem Disj.symm {a b : List Int} (h : Disj a b) : Disj b a := fun x hb ha => h x ha hb
theorem apartL_spec (hr : readB (n : Int) l = 0) : ∀ (c : Nat) (gone : Int → Bool) (out : List (List Int)), (∀ S, IsSetM n S → c ≤ entC l gone S) → out.length + c ≤ 100000 →
    ∃ Ls : List (List Int), Ls.length = c ∧ (∀ L ∈ Ls, (∃ f, BrB n l f ∧ L = listB n l f) ∧ ∀ x ∈ L, gone x = false) ∧ Ls.Pairwise Disj ∧ ∀ k, 4000 ≤ k → apartL k (n : Int) l c gone out = some (out ++ Ls)
  | 0, gone, out, h, hl => ⟨[], rfl, by simp, .nil, fun k hk => by simp [apartL]⟩
  | c + 1, gone, out, h, hl => by
    obtain ⟨f, gone', hB, h1, h2, h3, hk⟩ := tree_spec hr gone c h
    obtain ⟨Ls, g1, g2, g3, g4⟩ := apartL_spec hr c gone' (out ++ [listB n l f]) h3 (by rw [List.length_append, List.length_singleton]; omega)
    refine ⟨listB n l f :: Ls, by simp [g1], fun L hL => ?_, List.pairwise_cons.2 ⟨fun L hL x hx1 hx2 => ?_, g3⟩, fun k hk2 => ?_⟩
    · rcases List.mem_cons.1 hL with rfl | hL
      · exact ⟨⟨f, hB, rfl⟩, h1⟩
      · refine ⟨(g2 L hL).1, fun x hx => ?_⟩
        have := (g2 L hL).2 x hx
        rw [h2, Bool.or_eq_false_iff] at this
        exact this.1
    · have := (g2 L hL).2 x hx2
      rw [h2, Bool.or_eq_false_iff, decide_eq_false_iff_not] at this
      exact this.2 hx1
    · rw [apartL, hk k hk2, Option.bind_some, if_pos (show out.length < 1000000 by omega)]
      simp only []
      rw [g4 k hk2, List.append_assoc]
      rfl
theorem listB_len (hr : readB (n : Int) l = 0) {f : Nat → Nat} (hB : BrB n l f) : (listB n l f).length = n - 1 := by
  obtain ⟨h2, h7, h30, hx⟩ := readB_ok hr
  exact IsB.selLen (by omega) hB
theorem apart_spec (hr : readB (n : Int) l = 0) : ∃ (least at_ : Nat) (Ls : List (List Int)), NarrowS n l (fun _ => false) least at_ ∧ Ls.length = least ∧ (∀ L ∈ Ls, ∃ f, BrB n l f ∧ L = listB n l f) ∧ Ls.Pairwise Disj ∧ Ls.Pairwise (fun a b => ltL a b = true) ∧
    (∀ k, 4000 ≤ k → branch_Apart.f k (n : Int) l = some (Ls, 0)) ∧ ∀ k, 3000 ≤ k → branch_Narrow.f k (n : Int) l = some ((least : Int), (at_ : Int), 0) := by
  obtain ⟨h2, h7, h30, hx⟩ := readB_ok hr
  obtain ⟨least, at_, h1, hk⟩ := narrow_spec (n := n) (by omega) (by omega) h30 hx (fun _ => some false) (fun _ => false) (fun _ _ => rfl)
  have hle : least ≤ l.length := by
    rw [← h1.val, entN_entC]
    have := cntN_le (P := fun i => entB l at_ i && !(fun _ => false : Int → Bool) (i : Int)) (Q := fun _ => true) l.length (fun _ _ _ => rfl)
    have h2 : ∀ m, cntN (fun _ => true) m = m := fun m => by
      induction m with
      | zero => rfl
      | succ m ih => simp [cntN, ih]
    rw [h2] at this
    exact this
  obtain ⟨Ls, g1, g2, g3, g4⟩ := apartL_spec hr least (fun _ => false) [] (fun S hS => by have := h1.low S ((setM_iff n S).2 hS); rwa [entN_entC] at this) (by simp only [List.length_nil]; omega)
  have hp := List.mergeSort_perm Ls fun x y => !ltL y x
  have hmem : ∀ L, L ∈ sortL Ls ↔ L ∈ Ls := fun L => hp.mem_iff
  have hne : ∀ L ∈ Ls, L ≠ [] ∧ L.length ≤ 7 := fun L hL => by
    obtain ⟨f, hB, rfl⟩ := (g2 L hL).1
    have := listB_len hr hB
    exact ⟨fun e => by rw [e] at this; simp at this; omega, by omega⟩
  have hd : (sortL Ls).Pairwise Disj := (hp.pairwise_iff fun h => Disj.symm h).2 g3
  have hs : (sortL Ls).Pairwise (fun a b => (!ltL b a) = true) := List.pairwise_mergeSort (fun a b c h1 h2 => by
    rw [Bool.not_eq_true'] at *
    exact swo_ltL.ntrans c b a h2 h1) (fun a b => by
    cases hab : ltL b a with
    | false => simp
    | true =>
      cases hba : ltL a b with
      | false => simp
      | true => have := swo_ltL.trans a b a hba hab; rw [swo_ltL.irrefl] at this; exact absurd this (by decide)) Ls
  refine ⟨least, at_, sortL Ls, h1, by rw [← g1]; exact List.length_mergeSort _, fun L hL => (g2 L ((hmem L).1 hL)).1, hd, ?_, fun k hk2 => ?_, fun k hk2 => ?_⟩
  · refine (hs.and hd).imp_of_mem fun {a b} ha hb hab => ?_
    cases hlt : ltL a b with
    | true => rfl
    | false =>
      have e := tot_ltL a b hlt (by simpa using hab.1)
      obtain ⟨x, hx⟩ := List.exists_mem_of_ne_nil a (hne a ((hmem a).1 ha)).1
      exact (hab.2 x hx (e ▸ hx)).elim
  · unfold branch_Apart.f
    rw [if_pos hr, hk k (by omega), Option.bind_some, if_pos (show 0 ≤ ((least : Int), (at_ : Int)).1 ∧ ((least : Int), (at_ : Int)).1 < 1000000 by constructor <;> simp only [] <;> omega)]
    simp only [Int.toNat_natCast]
    rw [g4 k hk2, Option.bind_some, List.nil_append, if_pos]
    exact ⟨by omega, fun L hL => by have := (hne L hL).2; omega⟩
  · unfold branch_Narrow.f branch_read.f
    rw [hr, Option.bind_some, if_pos rfl, hk k hk2, Option.bind_some]
end
end Go.Proofs.Ytpmadffgdfholaa.B
namespace Go.Proofs.Ytpmadffgdfholaa.B
set_option linter.unusedVariables false
set_option linter.unusedSimpArgs false
open Go.RowKit Go.Proofs.YtpmadffgdfholaaW.PrintWords Go.Proofs.YtpmadffgdfholaaW.PrintLast Go.Proofs.YtpmadffgdfholaaW.PrintMore
section
variable {n : Nat} {l : List S30}
theorem NarrowS.uniq {g : Int → Bool} {a b a' b' : Nat} (h : NarrowS n l g a b) (h' : NarrowS n l g a' b') : a = a' ∧ b = b' := by
  have h1 := h.low b' h'.set
  have h2 := h'.low b h.set
  have e1 := h.val
  have e2 := h'.val
  have e : a = a' := by omega
  subst e
  have h3 := h.first b' h'.set e2
  have h4 := h'.first b h.set e1
  exact ⟨rfl, by omega⟩
theorem refent_f (hn : n ≤ 7) (hl : l.length ≤ 30) (hx : ∀ x ∈ l, wayOk n x = true) {q : Nat} (hq : q < 128) (k : Nat) (hk : 40 ≤ k) : trishawref03_entering.f k l (q : Int) = some (entL l q) := by
  have c1 := ent_ref (n := (n : Int)) (l := l) (s := q) (by omega) (by omega) hx hq l.length 0 (k - l.length - 1) [] (by omega) (by simp)
  rw [show k - l.length - 1 + l.length + 1 = k from by omega, entR_eq l q l.length 0 [] (by omega) (by simp)] at c1
  unfold trishawref03_entering.f
  exact c1
theorem entN_all (s : Nat) : entN l (fun _ => false) s = (entL l s).length := by
  unfold entN keptL
  simp
theorem refnr_l0 (hn1 : 2 ≤ n) (hn : n ≤ 7) (hl : l.length ≤ 30) (hx : ∀ x ∈ l, wayOk n x = true) (p : Nat) (hp : 2 ^ n = 2 * p) : ∀ (d j : Nat) (x6 x7 : Int), j + d = p - 1 → (j = 0 ∧ x6 = (l.length : Int) + 1 ∧ x7 = 0 ∨ LeastS l (fun _ => false) j x6 x7) →
    ∃ y6 y7, LeastS l (fun _ => false) (p - 1) y6 y7 ∧ ∀ k, 100 + 40 * d ≤ k → trishawref03_Narrow.l0 k (n : Int) l x6 x7 ((2 * (j + 1) : Nat) : Int) = some (y6, y7, 0)
  | 0, j, x6, x7, h, hI => by
    have hp2 : 2 ≤ p := by
      have : 2 ^ 2 ≤ 2 ^ n := Nat.pow_le_pow_right (by decide) hn1
      omega
    have hL : LeastS l (fun _ => false) j x6 x7 := by
      rcases hI with ⟨h0, _⟩ | h
      · omega
      · exact h
    refine ⟨x6, x7, by rw [show p - 1 = j by omega]; exact hL, fun k hk => ?_⟩
    obtain ⟨k, rfl⟩ : ∃ k', k = k' + 1 := ⟨k - 1, by omega⟩
    have hs := fin_shl ⟨n, by omega⟩
    simp only [] at hs
    rw [trishawref03_Narrow.l0, if_pos (by omega), hs, if_neg (by omega)]
  | d + 1, j, x6, x7, h, hI => by
    have hp7 : 2 ^ n ≤ 2 ^ 7 := Nat.pow_le_pow_right (by decide) hn
    have hs7 : 2 * (j + 1) < 128 := by omega
    have hE := fun k (hk : 40 ≤ k) => refent_f (n := n) hn hl hx hs7 k hk
    have hEl := entL_length l (2 * (j + 1))
    have hen := entN_all (l := l) (2 * (j + 1))
    have hw : wrap64 (((2 * (j + 1) : Nat) : Int) + 2) = ((2 * (j + 1 + 1) : Nat) : Int) := by unfold wrap64; omega
    have hs := fin_shl ⟨n, by omega⟩
    simp only [] at hs
    by_cases hless : ((entN l (fun _ => false) (2 * (j + 1)) : Nat) : Int) < x6
    · have hL : LeastS l (fun _ => false) (j + 1) ((entN l (fun _ => false) (2 * (j + 1)) : Nat) : Int) ((2 * (j + 1) : Nat) : Int) := by
        rcases hI with ⟨h0, h6, _⟩ | hI
        · subst h0
          refine ⟨by omega, ⟨1, by omega, by omega, rfl, rfl, fun u h1 h2 => by omega⟩, fun u h1 h2 => ?_⟩
          obtain rfl : u = 1 := by omega
          exact Int.le_refl _
        · obtain ⟨t, t1, t2, t3, t4, t5⟩ := hI.set
          refine ⟨by omega, ⟨j + 1, by omega, by omega, rfl, rfl, fun u h1 h2 => ?_⟩, fun u h1 h2 => ?_⟩
          · have := hI.low u h1 (by omega); omega
          · by_cases e : u = j + 1
            · subst e; exact Int.le_refl _
            · have := hI.low u h1 (by omega); omega
      obtain ⟨y6, y7, hy, hk⟩ := refnr_l0 hn1 hn hl hx p hp d (j + 1) _ _ (by omega) (.inr hL)
      refine ⟨y6, y7, hy, fun k hk2 => ?_⟩
      obtain ⟨k, rfl⟩ : ∃ k', k = k' + 1 := ⟨k - 1, by omega⟩
      rw [trishawref03_Narrow.l0, if_pos (by omega), hs, if_pos (by omega), hE k (by omega), Option.bind_some, ← hen, if_pos hless, hw]
      exact hk _ (by omega)
    · have hI : LeastS l (fun _ => false) j x6 x7 := by
        rcases hI with ⟨_, h6, _⟩ | hI
        · omega
        · exact hI
      have hL : LeastS l (fun _ => false) (j + 1) x6 x7 := by
        obtain ⟨t, t1, t2, t3, t4, t5⟩ := hI.set
        refine ⟨by omega, ⟨t, t1, by omega, t3, t4, t5⟩, fun u h1 h2 => ?_⟩
        by_cases e : u = j + 1
        · subst e; omega
        · exact hI.low u h1 (by omega)
      obtain ⟨y6, y7, hy, hk⟩ := refnr_l0 hn1 hn hl hx p hp d (j + 1) _ _ (by omega) (.inr hL)
      refine ⟨y6, y7, hy, fun k hk2 => ?_⟩
      obtain ⟨k, rfl⟩ : ∃ k', k = k' + 1 := ⟨k - 1, by omega⟩
      rw [trishawref03_Narrow.l0, if_pos (by omega), hs, if_pos (by omega), hE k (by omega), Option.bind_some, ← hen, if_neg hless, hw]
      exact hk _ (by omega)
theorem refNarrow_spec (hr : readB (n : Int) l = 0) : ∃ least at_ : Nat, NarrowS n l (fun _ => false) least at_ ∧ ∀ k, 4000 ≤ k → trishawref03_Narrow.f k (n : Int) l = some ((least : Int), (at_ : Int), 0) := by
  obtain ⟨h2, h7, h30, hx⟩ := readB_ok hr
  have hn1 : 2 ≤ n := by omega
  have hn : n ≤ 7 := by omega
  obtain ⟨p, hp⟩ : ∃ p, 2 ^ n = 2 * p := ⟨2 ^ (n - 1), by rw [← Nat.pow_succ']; congr 1; omega⟩
  have hp2 : 2 ≤ p := by
    have : 2 ^ 2 ≤ 2 ^ n := Nat.pow_le_pow_right (by decide) hn1
    omega
  have hp7 : 2 ^ n ≤ 2 ^ 7 := Nat.pow_le_pow_right (by decide) hn
  have hz : ((2 : Int) ^ n) = ((2 ^ n : Nat) : Int) := by norm_cast
  obtain ⟨y6, y7, hL, hk⟩ := refnr_l0 hn1 hn (by omega) hx p hp (p - 1) 0 ((l.length : Int) + 1) 0 (by omega) (.inl ⟨rfl, rfl, rfl⟩)
  obtain ⟨t, t1, t2, rfl, rfl, t5⟩ := hL.set
  have hset : ∀ s : Nat, IsSetN n (s : Int) ↔ ∃ u, 1 ≤ u ∧ u ≤ p - 1 ∧ s = 2 * u := by
    intro s
    unfold IsSetN
    rw [hz, Int.toNat_natCast]
    constructor
    · rintro ⟨h0, h1, h2⟩
      refine ⟨s / 2, ?_⟩
      rw [Nat.testBit_zero] at h2
      have := of_decide_eq_false h2
      omega
    · rintro ⟨u, u1, u2, rfl⟩
      refine ⟨by omega, by omega, ?_⟩
      rw [Nat.testBit_zero]
      exact decide_eq_false (by omega)
  refine ⟨entN l (fun _ => false) (2 * t), 2 * t, ⟨(hset _).2 ⟨t, t1, t2, rfl⟩, rfl, fun s hs => ?_, fun s hs he => ?_⟩, fun k hk2 => ?_⟩
  · obtain ⟨u, u1, u2, rfl⟩ := (hset s).1 hs
    have := hL.low u u1 u2; omega
  · obtain ⟨u, u1, u2, rfl⟩ := (hset s).1 hs
    have := t5 u u1
    omega
  · unfold trishawref03_Narrow.f
    rw [town_eq _ _ _ (.inr (by omega)), hr, Option.bind_some, if_pos rfl, show wrap64 ((l.length : Int) + 1) = (l.length : Int) + 1 from by unfold wrap64; omega]
    exact hk k (by omega)
end
end Go.Proofs.Ytpmadffgdfholaa.B
namespace Go.Proofs.Ytpmadffgdfholaa.B
set_option linter.unusedVariables false
set_option linter.unusedSimpArgs false
open Go.RowKit Go.Proofs.YtpmadffgdfholaaW.PrintWords Go.Proofs.YtpmadffgdfholaaW.PrintLast Go.Proofs.YtpmadffgdfholaaW.PrintMore
def setAll (U : List Bool) : List Int → List Bool
  | [] => U
  | x :: xs => setAll (U.set x.toNat true) xs
theorem setAll_len : ∀ (xs : List Int) (U : List Bool), (setAll U xs).length = U.length
  | [], U => rfl
  | x :: xs, U => by rw [setAll, setAll_len xs, List.length_set]
theorem rdOf_set {U : List Bool} {x y : Int} (hx : 0 ≤ x) (hy : 0 ≤ y) (h : x ≠ y) (b : Bool) : rdOf false (U.set x.toNat b) y = rdOf false U y := by
  unfold rdOf
  rw [List.getD_eq_getElem?_getD, List.getD_eq_getElem?_getD, List.getElem?_set_ne (by omega)]
theorem setAll_out : ∀ (xs : List Int) (U : List Bool) (y : Int), (∀ x ∈ xs, 0 ≤ x) → 0 ≤ y → y ∉ xs → rdOf false (setAll U xs) y = rdOf false U y
  | [], U, y, _, _, _ => rfl
  | x :: xs, U, y, h, hy, hn => by
    rw [setAll, setAll_out xs _ y (fun z hz => h z (List.mem_cons_of_mem _ hz)) hy (fun hm => hn (List.mem_cons_of_mem _ hm))]
    exact rdOf_set (h x List.mem_cons_self) hy (fun e => hn (e ▸ List.mem_cons_self)) true
theorem lessL_ltL : ∀ (a b : List Int), lessL a b = ltL a b
  | [], [] => rfl
  | [], _ :: _ => rfl
  | _ :: _, [] => rfl
  | x :: A, y :: B => by
    have ih := lessL_ltL A B
    unfold ltL cmpL lessL
    by_cases h : x = y
    · rw [if_pos h, if_pos ((cmpI_pos x y).2 h), ih]; rfl
    · rw [if_neg h, if_neg (fun e => h ((cmpI_pos x y).1 e))]
      rw [decide_eq_decide]
      exact (cmpI_lt x y).symm
section
variable {n : Nat} {l : List S30}
theorem ap_l1 (Ls : List (List Int)) (q : Nat) (hq : q < Ls.length) (L : List Int) (hL : rd_L12 Ls (q : Int) = L) (hq2 : Ls.length < 100000) (hLl : L.length < 100000) : ∀ (d e : Nat) (U : List Bool) (k : Nat), e + d = L.length → (∀ x ∈ L.drop e, 0 ≤ x ∧ x < (U.length : Int) ∧ rdOf false U x = false) → (L.drop e).Nodup → d + 1 ≤ k →
    rAp_.l1 k (n : Int) l Ls U (q : Int) (e : Int) = rAp_.l0 (k - d - 1) (n : Int) l Ls (setAll U (L.drop e)) ((q + 1 : Nat) : Int)
  | 0, e, U, k, h, hU, hN, hk => by
    obtain ⟨k, rfl⟩ : ∃ k', k = k' + 1 := ⟨k - 1, by omega⟩
    rw [rAp_.l1, if_pos (by omega), if_pos (by omega), hL, if_neg (by omega), List.drop_eq_nil_of_le (by omega), show wrap64 ((q : Int) + 1) = ((q + 1 : Nat) : Int) from by unfold wrap64; omega]
    rfl
  | d + 1, e, U, k, h, hU, hN, hk => by
    obtain ⟨k, rfl⟩ : ∃ k', k = k' + 1 := ⟨k - 1, by omega⟩
    have hd := drop_rdI L e (by omega)
    rw [hd] at hU hN
    obtain ⟨h1, h2, h3⟩ := hU _ List.mem_cons_self
    rw [List.nodup_cons] at hN
    have ih := ap_l1 Ls q hq L hL hq2 hLl d (e + 1) (U.set (rd L (e : Int)).toNat true) k (by omega) (fun x hx => by
      obtain ⟨g1, g2, g3⟩ := hU x (List.mem_cons_of_mem _ hx)
      refine ⟨g1, by rw [List.length_set]; exact g2, ?_⟩
      rw [rdOf_set h1 g1 (fun ee => hN.1 (ee ▸ hx))]
      exact g3) hN.2 (by omega)
    rw [rAp_.l1, if_pos (by omega), if_pos (by omega), hL, if_pos (by omega), if_pos (by omega), if_pos h1, if_pos h2, if_neg (by rw [h3]; decide), show wrap64 ((e : Int) + 1) = ((e + 1 : Nat) : Int) from by unfold wrap64; omega, ih, hd, setAll]
    rw [show k + 1 - (d + 1) - 1 = k - d - 1 from by omega]
theorem isBr_list (hr : readB (n : Int) l = 0) {f : Nat → Nat} (hB : BrB n l f) (k : Nat) (hk : 2000 ≤ k) : rIsB_.f k (n : Int) l (listB n l f) = some true ∧ branch_Is.f k (n : Int) l (listB n l f) = some (costF n (costW l) f, true, 0) := by
  obtain ⟨c, b, h1, h2, h3, _, h5⟩ := is_spec hr (listB n l f)
  cases b with
  | false => exact absurd rfl ((h2 rfl).2 f hB)
  | true =>
    obtain ⟨g, hg, e1, e2⟩ := h1 rfl
    refine ⟨h5 k hk, ?_⟩
    rw [h3 k hk]
    have : costF n (costW l) g = costF n (costW l) f := by
      rw [← costN_list hg, ← e1, costN_list hB]
    rw [e2, this]
theorem listB_in {f : Nat → Nat} {x : Int} (hx : x ∈ listB n l f) : 0 ≤ x ∧ x < (l.length : Int) := by
  unfold listB selL at hx
  simp only [List.mem_map, List.mem_filter, List.mem_range] at hx
  obtain ⟨j, hj, rfl⟩ := hx
  omega
theorem listB_nodup (n : Nat) (l : List S30) (f : Nat → Nat) : (listB n l f).Nodup := (selL_asc _ _).imp fun h => by omega
theorem rd_L12_get (Ls : List (List Int)) (q : Nat) (h : q < Ls.length) : rd_L12 Ls (q : Int) = Ls[q] := by
  simp [rd_L12, List.getD, List.getElem?_eq_getElem h]
theorem ap_l0 (hr : readB (n : Int) l = 0) (Ls : List (List Int)) (hLs : Ls.length < 100000) (hB : ∀ L ∈ Ls, ∃ f, BrB n l f ∧ L = listB n l f) (hD : Ls.Pairwise Disj) (hT : Ls.Pairwise (fun a b => ltL a b = true)) :
    ∀ (d q : Nat) (U : List Bool) (k : Nat), q + d = Ls.length → U.length = l.length → (∀ r (h : r < Ls.length), q ≤ r → ∀ x ∈ Ls[r], rdOf false U x = false) → 2100 + 20 * d ≤ k → rAp_.l0 k (n : Int) l Ls U (q : Int) = some true
  | 0, q, U, k, h, _, _, hk => by
    obtain ⟨k, rfl⟩ : ∃ k', k = k' + 1 := ⟨k - 1, by omega⟩
    rw [rAp_.l0, if_neg (by omega)]
  | d + 1, q, U, k, h, hUl, hU, hk => by
    obtain ⟨k, rfl⟩ : ∃ k', k = k' + 1 + 1 := ⟨k - 2, by omega⟩
    obtain ⟨h2, h7, h30, hx⟩ := readB_ok hr
    have hq : q < Ls.length := by omega
    have hget := rd_L12_get Ls q hq
    obtain ⟨f, hf, hLf⟩ := hB Ls[q] (List.getElem_mem hq)
    have hlen := listB_len hr hf
    rw [← hLf] at hlen
    have hbr := (isBr_list hr hf (k + 1) (by omega)).1
    rw [← hLf] at hbr
    have hj : rAp_.j1 (k + 1) (n : Int) l Ls U (q : Int) false = some true := by
      rw [rAp_.j1, if_neg (by decide)]
      have h1 := ap_l1 (n := n) (l := l) Ls q hq Ls[q] hget hLs (by omega) Ls[q].length 0 U k (by omega) (fun x hx2 => by
        rw [List.drop_zero] at hx2
        have hb := listB_in (hLf ▸ hx2)
        exact ⟨hb.1, by rw [hUl]; exact hb.2, hU q hq (Nat.le_refl _) x hx2⟩) (by rw [List.drop_zero, hLf]; exact listB_nodup n l f) (by omega)
      rw [show ((0 : Nat) : Int) = 0 from rfl] at h1
      rw [h1, List.drop_zero]
      refine ap_l0 hr Ls hLs hB hD hT d (q + 1) _ _ (by omega) (by rw [setAll_len]; exact hUl) (fun r hr2 hrq x hx2 => ?_) (by omega)
      obtain ⟨g, hg, hLg⟩ := hB Ls[r] (List.getElem_mem hr2)
      rw [setAll_out _ _ _ (fun z hz => (listB_in (hLf ▸ hz)).1) (listB_in (hLg ▸ hx2)).1 (fun hm => ?_)]
      · exact hU r hr2 (by omega) x hx2
      · exact List.pairwise_iff_getElem.1 hD q r hq hr2 (by omega) x hm hx2
    rw [rAp_.l0, if_pos (by omega), if_pos (by omega), hget, hbr, Option.bind_some, if_pos rfl]
    by_cases h0 : (q : Int) > 0
    · have hw : wrap64 ((q : Int) - 1) = ((q - 1 : Nat) : Int) := by unfold wrap64; omega
      obtain ⟨g, hg, hLg⟩ := hB Ls[q - 1] (List.getElem_mem (by omega))
      have hlen2 := listB_len hr hg
      rw [← hLg] at hlen2
      rw [if_pos h0, hw, if_pos (by omega), if_pos (by omega), rd_L12_get Ls (q - 1) (by omega), less_f _ _ (by omega) (by omega) _ (by omega), Option.bind_some, lessL_ltL, List.pairwise_iff_getElem.1 hT (q - 1) q (by omega) hq (by omega)]
      exact hj
    · rw [if_neg h0]
      exact hj
theorem areApart_spec (hr : readB (n : Int) l = 0) (Ls : List (List Int)) (hLs : Ls.length ≤ 100) (hB : ∀ L ∈ Ls, ∃ f, BrB n l f ∧ L = listB n l f) (hD : Ls.Pairwise Disj) (hT : Ls.Pairwise (fun a b => ltL a b = true)) (k : Nat) (hk : 4200 ≤ k) : rAp_.f k (n : Int) l Ls = some true := by
  obtain ⟨h2, h7, h30, hx⟩ := readB_ok hr
  unfold rAp_.f
  rw [if_pos (by omega), if_pos (by simp only [Int.toNat_natCast]; omega), Int.toNat_natCast]
  refine ap_l0 hr Ls (by omega) hB hD hT Ls.length 0 _ k (by omega) (by simp) (fun r h _ x hx2 => ?_) (by omega)
  unfold rdOf
  rw [List.getD_eq_getElem?_getD, List.getElem?_replicate]
  split <;> rfl
end
end Go.Proofs.Ytpmadffgdfholaa.B
namespace Go.Proofs.Ytpmadffgdfholaa.Pure
set_option linter.unusedVariables false
open Go.RowKit Go.Proofs.Ytpmadffgdfholaa.B Go.Proofs.YtpmadffgdfholaaW.PrintWords Go.Proofs.YtpmadffgdfholaaW.PrintLast Go.Proofs.YtpmadffgdfholaaW.PrintMore
theorem same_f (E : List Int) (hE : E.length ≤ 1000) (k : Nat) (hk : 1002 ≤ k) : trishawlaw03_same.f k E E = some true := by
  unfold trishawlaw03_same.f
  rw [if_pos rfl]
  have := same_self E hE E.length 0 (k - E.length - 1) (by omega)
  rw [show k - E.length - 1 + E.length + 1 = k from by omega] at this
  exact this
theorem nr_loop (a0 : Int) (l1 : List S30) (b e : Int) (Ls : List (List Int)) (hLs : Ls.length ≤ 100) (hx : ∀ L ∈ Ls, L.length ≤ 1000) (res : Bool) (hend : ∀ k, 5000 ≤ k → trishawlaw03_BranchNarrows.l0 k a0 l1 e b Ls Ls (Ls.length : Int) = some res) : ∀ (d i k : Nat), i + d = Ls.length → 5000 + d ≤ k → trishawlaw03_BranchNarrows.l0 k a0 l1 e b Ls Ls (i : Int) = some res
  | 0, i, k, h, hk => by
    obtain rfl : i = Ls.length := by omega
    exact hend k (by omega)
  | d + 1, i, k, h, hk => by
    obtain ⟨k, rfl⟩ : ∃ k', k = k' + 1 := ⟨k - 1, by omega⟩
    have hi : i < Ls.length := by omega
    rw [trishawlaw03_BranchNarrows.l0, if_pos (by omega), if_pos (by omega), if_pos (by omega), rd_L12_get Ls i hi, same_f _ (hx _ (List.getElem_mem hi)) k (by omega), Option.bind_some, if_pos rfl, show wrap64 ((i : Int) + 1) = ((i + 1 : Nat) : Int) from by unfold wrap64; omega]
    exact nr_loop a0 l1 b e Ls hLs hx res hend d (i + 1) k (by omega) (by omega)
theorem BranchNarrows : trishawlaw03_BranchNarrows.Pure := by
  intro a0 l1 _ _ _
  have al := fun k hk => alive_from k hk
  refine ⟨9000, ?_⟩
  unfold trishawlaw03_BranchNarrows.f
  by_cases hf : (l1.length : Int) ≤ 60
  case neg => unfold trishawlaw03_few.f; rw [if_neg hf, Option.bind_some, if_neg (by decide), al _ (by omega)]; rfl
  have hfew : trishawlaw03_few.f l1 [] = some true := by unfold trishawlaw03_few.f; rw [if_pos hf]; rfl
  rw [hfew, Option.bind_some, if_pos rfl]
  by_cases hr : readB a0 l1 = 0
  · obtain ⟨h2, h7, h30, hx⟩ := readB_ok hr
    obtain ⟨n, rfl⟩ := Int.eq_ofNat_of_zero_le (show 0 ≤ a0 by omega)
    obtain ⟨least, at_, Ls, hN, g1, g2, g3, g4, g5, g6⟩ := apart_spec hr
    obtain ⟨least', at', hN', hk'⟩ := refNarrow_spec hr
    obtain ⟨rfl, rfl⟩ := hN.uniq hN'
    have hLs : Ls.length ≤ 100 := by
      rw [g1, ← hN.val]
      have := keptL_le (fun _ => false) (entL l1 at_)
      have := entL_length l1 at_
      unfold entN
      omega
    rw [g6 _ (by omega), Option.bind_some, hk' _ (by omega), Option.bind_some, if_pos rfl, if_pos rfl]
    rw [show ((0 : Int) != 0) = false from rfl]
    show trishawlaw03_BranchNarrows.j0 (8999 + 1) _ _ _ _ false = _
    rw [trishawlaw03_BranchNarrows.j0, if_neg (by decide), g5 _ (by omega), Option.bind_some, Option.bind_some, if_pos rfl, if_pos rfl]
    rw [show ((Ls.length : Int) != (Ls.length : Int)) = false from bne_self_eq_false _]
    show trishawlaw03_BranchNarrows.j1 (8998 + 1) _ _ _ _ _ _ false = _
    rw [trishawlaw03_BranchNarrows.j1, if_neg (by decide)]
    refine nr_loop _ l1 _ _ Ls hLs (fun L hL => ?_) true (fun k hk => ?_) Ls.length 0 8998 (by omega) (by omega)
    · obtain ⟨f, hB, rfl⟩ := g2 L hL
      rw [listB_len hr hB]; omega
    · obtain ⟨k, rfl⟩ : ∃ k', k = k' + 1 := ⟨k - 1, by omega⟩
      rw [trishawlaw03_BranchNarrows.l0, if_neg (by omega), if_pos rfl, if_pos (by rw [g1]), areApart_spec hr Ls hLs g2 g3 g4 k (by omega), Option.bind_some, if_pos rfl, al k (by omega)]
      rfl
  · have e1 : ∀ k, branch_Narrow.f k a0 l1 = some (0, 0, readB a0 l1) := fun k => by
      unfold branch_Narrow.f branch_read.f
      rw [Option.bind_some, if_neg hr]
    have e2 : ∀ k, 100 ≤ k → trishawref03_Narrow.f k a0 l1 = some (0, 0, readB a0 l1) := fun k hk => by
      unfold trishawref03_Narrow.f
      rw [town_eq _ _ _ (.inr (by omega)), Option.bind_some, if_neg hr]
    have e3 : ∀ k, branch_Apart.f k a0 l1 = some ([], readB a0 l1) := fun k => by
      unfold branch_Apart.f
      rw [if_neg hr]
    rw [e1, Option.bind_some, e2 _ (by omega), Option.bind_some, if_pos rfl, if_pos rfl]
    rw [show (readB a0 l1 != readB a0 l1) = false from bne_self_eq_false _]
    show trishawlaw03_BranchNarrows.j0 (8999 + 1) _ _ _ _ false = _
    rw [trishawlaw03_BranchNarrows.j0, if_neg (by decide), e3, Option.bind_some, Option.bind_some, if_pos rfl, if_pos rfl]
    show trishawlaw03_BranchNarrows.j1 (8998 + 1) _ _ _ _ _ _ false = _
    rw [trishawlaw03_BranchNarrows.j1, if_neg (by decide)]
    show trishawlaw03_BranchNarrows.l0 (8997 + 1) _ _ _ _ _ _ 0 = _
    rw [trishawlaw03_BranchNarrows.l0, if_neg (by simp), if_neg hr, if_pos (show ((([] : List (List Int)), readB a0 l1).1.length : Int) = 0 from rfl), al _ (by omega)]
    rfl
end Go.Proofs.Ytpmadffgdfholaa.Pure
