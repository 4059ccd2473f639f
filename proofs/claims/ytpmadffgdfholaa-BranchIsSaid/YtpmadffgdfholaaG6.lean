/- Texts behind the row of BranchIs, part 6: contracts of the functions it reaches, words that their walks use, and lemmas in plain Lean. -/
import Derived.Below
import Derived.Deep.Draws
import Derived.Deep.AppendLies
import Derived.Maps.AppendAt
import Derived.OwnWalk
import Derived.Laws.BytesArg
import Derived.Laws.MakeOwn
import Derived.Laws.OwnMore
import Derived.Deep.OwnRows
import Derived.Tactics
import Derived.Lib.ConvBytes
import Derived.Laws.Slices
import Derived.WalkKit
import Derived.KernelRfl
import Derived.RowKit3
import Derived.Deep.LoopGhost
import Derived.Deep.QuietTactic
import Derived.BigQuiet
import Derived.WideLaws
import Derived.Deep.DeepCutAuto
import Derived.Deep.CutBlock
import Derived.Deep.RegionHeld3
import Derived.Laws.Rows
import Derived.Lib.AppendStr
import Derived.ArgAppend
import Derived.Laws.IdiomCopy
import Derived.RowKit
import Derived.OrdersHeld
import Derived.Laws.BitsLemmas
import Derived.Test.YtpmadffgdfholaaProg
import Derived.Laws.StructEq
import Derived.MapKept
import Derived.WalkSpells
import Derived.Deep.DrawnRows
import Derived.Maps.RangeWalk
import Derived.Laws.EntriesVeiled
import Derived.Deep.Slices
import Derived.Deep.Fields
import Derived.ChangeSame
import Derived.ChangeSlices
import Derived.Test.YtpmadffgdfholaaG1
import Derived.Test.YtpmadffgdfholaaG2
import Derived.Test.YtpmadffgdfholaaG3
import Derived.Test.YtpmadffgdfholaaG4
import Derived.Test.YtpmadffgdfholaaG5
namespace Go.Proofs.Ytpmadffgdfholaa.B
open Go.RowKit Go.Proofs.YtpmadffgdfholaaW.PrintWords Go.Proofs.YtpmadffgdfholaaW.PrintLast Go.Proofs.YtpmadffgdfholaaW.PrintMore
/-- Where street i begins, and where it ends. -/
def aW (l : List S30) (i : Nat) : Nat := (rd_T30 l (i : Int)).f0.toNat
def bW (l : List S30) (i : Nat) : Nat := (rd_T30 l (i : Int)).f1.toNat
theorem tb_one (b c : Nat) : (1 <<< b).testBit c = decide (c = b) := by
  rw [Nat.shiftLeft_eq, Nat.one_mul, Nat.testBit_two_pow]
  exact decide_eq_decide.mpr eq_comm
theorem tb_or (s b c : Nat) : (s ||| 1 <<< b).testBit c = (s.testBit c || decide (c = b)) := by
  rw [Nat.testBit_or, tb_one]
theorem step_sub (s : Nat) (x : S30) (c : Nat) (h : s.testBit c = true) : (stepS s x).testBit c = true := by
  unfold stepS
  split
  · rw [tb_or, h]; rfl
  · exact h
theorem pass_sub (l : List S30) : ∀ (L : List Int) (s c : Nat), s.testBit c = true → (passS l L s).testBit c = true
  | [], _, _, h => h
  | i :: L, s, c, h => pass_sub l L (stepS s (rd_T30 l i)) c (step_sub s _ c h)
theorem it_sub (l : List S30) (L : List Int) : ∀ (d s c : Nat), s.testBit c = true → (itS l L d s).testBit c = true
  | 0, _, _, h => h
  | d + 1, s, c, h => it_sub l L d _ c (pass_sub l L s c h)
theorem it_iter (l : List S30) (L : List Int) : ∀ d s, itS l L (d + 1) s = passS l L (itS l L d s)
  | 0, _ => rfl
  | d + 1, s => by show itS l L (d + 1) (passS l L s) = passS l L (itS l L d (passS l L s)); exact it_iter l L d _
theorem pass_closed (l : List S30) : ∀ (L : List Int) (s : Nat), passS l L s = s → ∀ i ∈ L, s.testBit (rd_T30 l i).f0.toNat = true → s.testBit (rd_T30 l i).f1.toNat = true
  | [], _, _, i, hi, _ => absurd hi (by simp)
  | j :: L, s, h, i, hi, ha => by
    have h1 : passS l L (stepS s (rd_T30 l j)) = s := h
    have e : stepS s (rd_T30 l j) = s := by
      refine Nat.eq_of_testBit_eq fun c => ?_
      cases hc : s.testBit c with
      | true => exact step_sub s _ c hc
      | false =>
        cases hd : (stepS s (rd_T30 l j)).testBit c with
        | false => rfl
        | true =>
          have := pass_sub l L _ c hd
          rw [h1, hc] at this
          exact absurd this (by decide)
    rw [e] at h1
    rcases List.mem_cons.1 hi with rfl | hi
    · rw [← e]
      unfold stepS
      rw [if_pos ha, tb_or]
      simp
    · exact pass_closed l L s h1 i hi ha
section
variable {n : Nat} {l : List S30} {L : List Int}
theorem pass_sound (hL : InL n l L) : ∀ (L' : List Int), (∀ i ∈ L', i ∈ L) → ∀ (s c : Nat), (passS l L' s).testBit c = true → ∃ e, s.testBit e = true ∧ Rc (aW l) (bW l) (fun i => (i : Int) ∈ L) e c
  | [], _, _, c, h => ⟨c, h, .refl⟩
  | i :: L', hs, s, c, h => by
    obtain ⟨e, he, hr⟩ := pass_sound hL L' (fun j hj => hs j (List.mem_cons_of_mem _ hj)) (stepS s (rd_T30 l i)) c h
    unfold stepS at he
    split at he
    · rename_i ha
      rw [tb_or] at he
      rcases Bool.or_eq_true_iff.1 he with he | he
      · exact ⟨e, he, hr⟩
      · have h2 := hL i (hs i List.mem_cons_self)
        have hi : ((i.toNat : Nat) : Int) = i := by omega
        have e1 : e = bW l i.toNat := by unfold bW; rw [hi]; exact of_decide_eq_true he
        have ea : (rd_T30 l i).f0.toNat = aW l i.toNat := by unfold aW; rw [hi]
        rw [ea] at ha
        refine ⟨aW l i.toNat, ha, Rc.trans (Rc.one (i := i.toNat) (by rw [hi]; exact hs i List.mem_cons_self)) (e1 ▸ hr)⟩
    · exact ⟨e, he, hr⟩
theorem it_sound (hL : InL n l L) : ∀ (d s c : Nat), (itS l L d s).testBit c = true → ∃ e, s.testBit e = true ∧ Rc (aW l) (bW l) (fun i => (i : Int) ∈ L) e c
  | 0, _, c, h => ⟨c, h, .refl⟩
  | d + 1, s, c, h => by
    obtain ⟨e, he, hr⟩ := it_sound hL d _ c h
    obtain ⟨e2, he2, hr2⟩ := pass_sound hL L (fun _ h => h) s e he
    exact ⟨e2, he2, hr2.trans hr⟩
/-- The closure of a set is what is reached from it. -/
theorem closure_iff (hn : n ≤ 7) (hL : InL n l L) {d c : Nat} (hd : d < n) : (itS l L n (1 <<< d)).testBit c = true ↔ Rc (aW l) (bW l) (fun i => (i : Int) ∈ L) d c := by
  have hlt : 1 <<< d < 2 ^ n := by rw [Nat.shiftLeft_eq, Nat.one_mul]; exact Nat.pow_lt_pow_right (by decide) hd
  constructor
  · intro h
    obtain ⟨e, he, hr⟩ := it_sound hL n _ c h
    rw [tb_one] at he
    rw [of_decide_eq_true he] at hr
    exact hr
  · intro hr
    have hfix : passS l L (itS l L n (1 <<< d)) = itS l L n (1 <<< d) := by
      rw [← it_iter]
      exact it_stop hn hL n _ hlt (by omega)
    refine hr.closed (S := fun c => (itS l L n (1 <<< d)).testBit c = true) (it_sub l L n _ d (by rw [tb_one]; simp)) fun i hi ha => ?_
    exact pass_closed l L _ hfix _ hi ha
theorem Rc.lt (hL : InL n l L) {d c : Nat} (hd : d < n) (hr : Rc (aW l) (bW l) (fun i => (i : Int) ∈ L) d c) : c < n := by
  refine hr.closed (S := fun c => c < n) hd fun i hi _ => ?_
  have h := (wayOk_iff n _).1 (hL _ hi).2.2
  unfold bW
  omega
end
end Go.Proofs.Ytpmadffgdfholaa.B
namespace Go.Proofs.Ytpmadffgdfholaa.B
open Go.RowKit Go.Proofs.YtpmadffgdfholaaW.PrintWords Go.Proofs.YtpmadffgdfholaaW.PrintLast Go.Proofs.YtpmadffgdfholaaW.PrintMore
theorem hasB_nat {s c : Nat} (hs : s < 128) (hc : c < 7) : hasB (s : Int) (c : Int) = s.testBit c := by
  have h := fin_and ⟨s, hs⟩ ⟨c, hc⟩
  simp only [] at h
  unfold hasB
  cases ht : s.testBit c with
  | true => exact beq_iff_eq.mpr (h.2 ht)
  | false => exact beq_eq_false_iff_ne.mpr fun e => by rw [h.1 e] at ht; exact absurd ht (by decide)
/-- The streets that are not out. -/
def onT (l : List S30) (og : Int → Bool) (i : Nat) : Prop := i < l.length ∧ og (i : Int) = false
section
variable {n : Nat} {l : List S30}
end
end Go.Proofs.Ytpmadffgdfholaa.B
namespace Go.Proofs.Ytpmadffgdfholaa.B
set_option linter.unusedVariables false
open Go.RowKit Go.Proofs.YtpmadffgdfholaaW.PrintWords Go.Proofs.YtpmadffgdfholaaW.PrintLast Go.Proofs.YtpmadffgdfholaaW.PrintMore
/-- Street i enters the set q. -/
def entB (l : List S30) (q : Nat) (i : Nat) : Bool := !q.testBit (aW l i) && q.testBit (bW l i)
def entL (l : List S30) (q : Nat) : List Int := ((List.range l.length).filter (entB l q)).map fun i : Nat => (i : Int)
theorem entL_mem (l : List S30) (q i : Nat) : (i : Int) ∈ entL l q ↔ i < l.length ∧ entB l q i = true := by
  unfold entL
  simp only [List.mem_map, List.mem_filter, List.mem_range]
  constructor
  · rintro ⟨j, h, e⟩
    obtain rfl : j = i := by omega
    exact h
  · exact fun h => ⟨i, h, rfl⟩
theorem entL_nat (l : List S30) (q : Nat) : ∀ x ∈ entL l q, ∃ i : Nat, x = (i : Int) ∧ i < l.length := by
  intro x hx
  unfold entL at hx
  obtain ⟨i, hi, rfl⟩ := List.mem_map.1 hx
  exact ⟨i, rfl, by have := (List.mem_filter.1 hi).1; simpa using this⟩
theorem nodup_map_cast : ∀ {L : List Nat}, L.Nodup → (L.map fun i : Nat => (i : Int)).Nodup
  | [], _ => List.nodup_nil
  | x :: L, h => by
    rw [List.nodup_cons] at h
    rw [List.map_cons, List.nodup_cons]
    refine ⟨fun hm => ?_, nodup_map_cast h.2⟩
    obtain ⟨y, hy, e⟩ := List.mem_map.1 hm
    have e2 : y = x := by omega
    exact h.1 (e2 ▸ hy)
theorem entL_nodup (l : List S30) (q : Nat) : (entL l q).Nodup := nodup_map_cast (List.Pairwise.filter _ List.nodup_range)
theorem entL_length (l : List S30) (q : Nat) : (entL l q).length ≤ l.length := by
  unfold entL
  rw [List.length_map]
  exact Nat.le_trans (List.length_filter_le _ _) (by simp)
theorem entR_eq (l : List S30) (q : Nat) : ∀ (d i : Nat) (acc : List Int), i + d = l.length → acc = ((List.range i).filter (entB l q)).map (fun i : Nat => (i : Int)) → entR l q d i acc = entL l q
  | 0, i, acc, h, e => by
    obtain rfl : i = l.length := by omega
    exact e
  | d + 1, i, acc, h, e => by
    rw [entR]
    refine entR_eq l q d (i + 1) _ (by omega) ?_
    rw [List.range_succ, List.filter_append, List.map_append, ← e]
    have hb : (entB l q i = true) ↔ (q.testBit (rd_T30 l (i : Int)).f0.toNat = false ∧ q.testBit (rd_T30 l (i : Int)).f1.toNat = true) := by
      unfold entB aW bW
      rw [Bool.and_eq_true, Bool.not_eq_true']
    by_cases hc : entB l q i = true
    · rw [if_pos (hb.1 hc), List.filter_cons_of_pos hc]
      rfl
    · rw [if_neg (fun h => hc (hb.2 h)), List.filter_cons_of_neg hc]
      simp
theorem entering_f {n : Nat} {l : List S30} (hn : n ≤ 7) (hl : l.length ≤ 30) (hx : ∀ x ∈ l, wayOk n x = true) {q : Nat} (hq : q < 128) (k : Nat) (hk : 40 ≤ k) : branch_town_entering.f k (n : Int) l (q : Int) = some (entL l q) := by
  have c1 := ent_code (n := (n : Int)) (l := l) (s := q) (by omega) (by omega) hx hq l.length 0 (k - l.length - 1) [] (by omega) (by simp)
  rw [show k - l.length - 1 + l.length + 1 = k from by omega, entR_eq l q l.length 0 [] (by omega) (by simp)] at c1
  unfold branch_town_entering.f
  exact c1
def subL (m : Int) : List Int → List Int → List Int
  | left, [] => left
  | left, i :: E => subL m (left.set i.toNat (wrap64 (rd left i - m))) E
theorem subL_length (m : Int) : ∀ (E left : List Int), (subL m left E).length = left.length
  | [], _ => rfl
  | i :: E, left => by rw [subL, subL_length m E, List.length_set]
theorem rd_set (L : List Int) (i j : Nat) (x : Int) (h : i < L.length) : rd (L.set i x) (j : Int) = if j = i then x else rd L (j : Int) := by
  simp only [rd, Int.toNat_natCast, List.getD, List.getElem?_set]
  by_cases e : i = j
  · subst e; simp [h]
  · rw [if_neg e, if_neg (fun h => e h.symm)]
theorem subL_rd (m : Int) : ∀ (E left : List Int), (∀ x ∈ E, ∃ i : Nat, x = (i : Int) ∧ i < left.length) → E.Nodup → (∀ x ∈ E, wrap64 (rd left x - m) = rd left x - m) → ∀ j : Nat, rd (subL m left E) (j : Int) = if (j : Int) ∈ E then rd left (j : Int) - m else rd left (j : Int)
  | [], _, _, _, _, j => by simp [subL]
  | x :: E, left, hE, hd, hw, j => by
    obtain ⟨i, rfl, hi⟩ := hE x List.mem_cons_self
    rw [List.nodup_cons] at hd
    rw [subL, Int.toNat_natCast]
    have hr : ∀ j : Nat, rd (left.set i (wrap64 (rd left (i : Int) - m))) (j : Int) = if j = i then wrap64 (rd left (i : Int) - m) else rd left (j : Int) := fun j => rd_set left i j _ hi
    rw [subL_rd m E _ (fun y hy => by obtain ⟨t, e, ht⟩ := hE y (List.mem_cons_of_mem _ hy); exact ⟨t, e, by rw [List.length_set]; exact ht⟩) hd.2 (fun y hy => by
      obtain ⟨t, rfl, ht⟩ := hE y (List.mem_cons_of_mem _ hy)
      have hne : t ≠ i := fun e => hd.1 (e ▸ hy)
      rw [hr, if_neg hne]
      exact hw _ (List.mem_cons_of_mem _ hy)) j, hr]
    by_cases e : j = i
    · subst e
      rw [if_neg hd.1, if_pos rfl, if_pos List.mem_cons_self]
      exact hw _ List.mem_cons_self
    · rw [if_neg e]
      have : ((j : Int) ∈ (i : Int) :: E) ↔ (j : Int) ∈ E := by
        rw [List.mem_cons]
        exact ⟨fun h => h.resolve_left (by omega), .inr⟩
      by_cases hm : (j : Int) ∈ E
      · rw [if_pos hm, if_pos (this.2 hm)]
      · rw [if_neg hm, if_neg (fun h => hm (this.1 h))]
section
variable {n : Nat} {l : List S30}
end
/-- The worth of the sets that street i enters. -/
def worthAt (l : List S30) (i : Nat) : List S41 → Int
  | [] => 0
  | p :: P => worthAt l i P + if entB l p.f0.toNat i = true then p.f1 else 0
def worthAll : List S41 → Int
  | [] => 0
  | p :: P => worthAll P + p.f1
/-- A set of corners, as_ a price names it. -/
def IsSetN (n : Nat) (s : Int) : Prop := 0 < s ∧ s < 2 ^ n ∧ s.toNat.testBit 0 = false
structure ProofOk (n : Nat) (l : List S30) (T : Nat → Prop) (price : List Int) (P : List S41) (v : Int) : Prop where
  sets : ∀ p ∈ P, IsSetN n p.f0 ∧ 1 ≤ p.f1 ∧ p.f1 ≤ 1000
  apart : (P.map fun p => p.f0).Nodup
  worth : worthAll P = v
  below : ∀ i, T i → worthAt l i P ≤ rd price (i : Int)
section
variable {n : Nat} {l : List S30}
end
end Go.Proofs.Ytpmadffgdfholaa.B
namespace Go.Proofs.Ytpmadffgdfholaa.B
set_option linter.unusedVariables false
open Go.RowKit Go.Proofs.YtpmadffgdfholaaW.PrintWords Go.Proofs.YtpmadffgdfholaaW.PrintLast Go.Proofs.YtpmadffgdfholaaW.PrintMore
/-- Is street j one of the branching's? -/
def useB (n : Nat) (b : Nat → Nat) (f : Nat → Nat) (j : Nat) : Bool := decide (0 < b j) && decide (b j < n) && decide (f (b j) = j)
theorem useB_iff {n : Nat} {b f : Nat → Nat} {j : Nat} : useB n b f j = true ↔ 0 < b j ∧ b j < n ∧ f (b j) = j := by
  unfold useB
  simp [and_assoc]
/-- The indices of a choice of streets, ascending. -/
def selL (X : Nat → Bool) (i : Nat) : List Int := ((List.range i).filter X).map fun j : Nat => (j : Int)
theorem selL_succ (X : Nat → Bool) (i : Nat) : selL X (i + 1) = if X i = true then selL X i ++ [(i : Int)] else selL X i := by
  unfold selL
  rw [List.range_succ, List.filter_append, List.map_append]
  by_cases h : X i = true
  · rw [if_pos h, List.filter_cons_of_pos h]; rfl
  · rw [if_neg h, List.filter_cons_of_neg h]; simp
theorem selL_mem (X : Nat → Bool) (i j : Nat) : (j : Int) ∈ selL X i ↔ j < i ∧ X j = true := by
  unfold selL
  simp only [List.mem_map, List.mem_filter, List.mem_range]
  constructor
  · rintro ⟨q, h, e⟩
    obtain rfl : q = j := by omega
    exact h
  · exact fun h => ⟨j, h, rfl⟩
theorem selL_nat (X : Nat → Bool) (i : Nat) : ∀ x ∈ selL X i, ∃ j : Nat, x = (j : Int) ∧ j < i ∧ X j = true := by
  intro x hx
  unfold selL at hx
  obtain ⟨j, hj, rfl⟩ := List.mem_map.1 hx
  have := List.mem_filter.1 hj
  exact ⟨j, rfl, List.mem_range.1 this.1, this.2⟩
/-- Streets X come first before streets Y, up to i: they are the same, or where they differ for the first time, X has the street. -/
def Ahead (X Y : Nat → Bool) (i : Nat) : Prop := (∀ j, j < i → X j = Y j) ∨ ∃ j, j < i ∧ (∀ q, q < j → X q = Y q) ∧ X j = true ∧ Y j = false
/-- The first branching of the least cost. -/
structure FirstB (n : Nat) (l : List S30) (p : Nat → Int) (v : Int) (f : Nat → Nat) : Prop where
  is : IsB n (aW l) (bW l) (fun i => i < l.length) f
  cost : costF n p f = v
  least : ∀ g, IsB n (aW l) (bW l) (fun i => i < l.length) g → v ≤ costF n p g
  ahead : ∀ g, IsB n (aW l) (bW l) (fun i => i < l.length) g → costF n p g = v → Ahead (useB n (bW l) f) (useB n (bW l) g) l.length
/-- What stands ahead of street i. -/
structure FsInv (n : Nat) (l : List S30) (p : Nat → Int) (v : Int) (i : Nat) (X : Nat → Bool) (gone : Int → Bool) : Prop where
  some : ∃ f, IsB n (aW l) (bW l) (onT l gone) f ∧ costF n p f = v
  below : ∀ j, j < i → (X j = true ↔ gone (j : Int) = false)
  lone : ∀ j, j < i → X j = true → 0 < bW l j ∧ ∀ q, q < l.length → bW l q = bW l j → q ≠ j → gone (q : Int) = true
  why : ∀ q, i ≤ q → q < l.length → gone (q : Int) = true → ∃ j, j < i ∧ X j = true ∧ bW l q = bW l j
  first : ∀ g, IsB n (aW l) (bW l) (fun i => i < l.length) g → costF n p g = v → Ahead X (useB n (bW l) g) i
section
variable {n : Nat} {l : List S30} {p : Nat → Int} {v : Int}
theorem bW_eq {n : Nat} (hx : ∀ x ∈ l, wayOk n x = true) (i : Nat) (h : i < l.length) : (rd_T30 l (i : Int)).f1 = (bW l i : Int) ∧ (rd_T30 l (i : Int)).f0 = (aW l i : Int) ∧ bW l i < n ∧ aW l i < n := by
  have := (wayOk_iff n _).1 (hx _ (rd_T30_mem l i h))
  unfold bW aW
  omega
/-- Streets that agree with the list up to i are not gone. -/
theorem FsInv.agree {i : Nat} {X : Nat → Bool} {gone : Int → Bool} (h : FsInv n l p v i X gone) {g : Nat → Nat} (hg : IsB n (aW l) (bW l) (fun i => i < l.length) g) (ha : ∀ j, j < i → X j = useB n (bW l) g j) : IsB n (aW l) (bW l) (onT l gone) g := by
  refine hg.within fun c c0 c1 => ⟨(hg.on c c0 c1).1, ?_⟩
  have hb := (hg.on c c0 c1).2
  have hu : useB n (bW l) g (g c) = true := useB_iff.2 ⟨by omega, by omega, by rw [hb]⟩
  by_cases hlt : g c < i
  · exact (h.below _ hlt).1 ((ha _ hlt).trans hu)
  · cases hgo : gone ((g c : Nat) : Int) with
    | false => rfl
    | true =>
      obtain ⟨j, hj, hX, hbj⟩ := h.why (g c) (by omega) (hg.on c c0 c1).1 hgo
      have h2 := useB_iff.1 ((ha j hj).symm.trans hX)
      rw [← hbj, hb] at h2
      omega
theorem FsInv.skip {i : Nat} {X : Nat → Bool} {gone : Int → Bool} (h : FsInv n l p v i X gone) (hX : X i = false) (hno : ∀ g, IsB n (aW l) (bW l) (onT l gone) g → costF n p g = v → useB n (bW l) g i = false) :
    FsInv n l p v (i + 1) X (fun j => decide (j = (i : Int)) || gone j) := by
  refine ⟨?_, fun j hj => ?_, fun j hj hXj => ?_, fun q hq hql hgo => ?_, fun g hg hc => ?_⟩
  · obtain ⟨f, hf, hc⟩ := h.some
    refine ⟨f, hf.within fun c c0 c1 => ⟨(hf.on c c0 c1).1.1, ?_⟩, hc⟩
    dsimp only
    rw [(hf.on c c0 c1).1.2, Bool.or_false, decide_eq_false_iff_not]
    intro e
    have e2 : f c = i := by omega
    have := hno f hf hc
    have hu : useB n (bW l) f (f c) = true := useB_iff.2 ⟨by rw [(hf.on c c0 c1).2]; omega, by rw [(hf.on c c0 c1).2]; omega, by rw [(hf.on c c0 c1).2]⟩
    rw [e2, this] at hu
    exact absurd hu (by decide)
  · by_cases e : j = i
    · subst e; simp [hX]
    · rw [h.below j (by omega), decide_eq_false (by omega), Bool.false_or]
  · have hne : j ≠ i := by rintro rfl; rw [hX] at hXj; exact absurd hXj (by decide)
    obtain ⟨h1, h2⟩ := h.lone j (by omega) hXj
    exact ⟨h1, fun q hq hb hqj => by rw [h2 q hq hb hqj, Bool.or_true]⟩
  · rw [decide_eq_false (by omega), Bool.false_or] at hgo
    obtain ⟨j, hj, h2⟩ := h.why q (by omega) hql hgo
    exact ⟨j, by omega, h2⟩
  · rcases h.first g hg hc with ha | ⟨j, hj, h2⟩
    · refine .inl fun j hj => ?_
      by_cases e : j = i
      · subst e; rw [hX, hno g (h.agree hg ha) hc]
      · exact ha j (by omega)
    · exact .inr ⟨j, by omega, h2⟩
theorem FsInv.take {i : Nat} {X : Nat → Bool} {gone : Int → Bool} (h : FsInv n l p v i X gone) (hX : X i = false) (hb0 : 0 < bW l i) (hil : i < l.length) (more : Int → Bool) (hmore : ∀ q : Nat, q < l.length → (more (q : Int) = true ↔ bW l q = bW l i ∧ q ≠ i)) (hgi : gone (i : Int) = false)
    (hyes : ∃ g, IsB n (aW l) (bW l) (onT l (fun j => gone j || more j)) g ∧ costF n p g = v) (hfree : ∀ j, j < i → X j = true → bW l j ≠ bW l i) :
    FsInv n l p v (i + 1) (fun j => X j || decide (j = i)) (fun j => gone j || more j) := by
  refine ⟨hyes, fun j hj => ?_, fun j hj hXj => ?_, fun q hq hql hgo => ?_, fun g hg hc => ?_⟩
  · by_cases e : j = i
    · subst e
      rw [hgi, Bool.false_or]
      simp only [decide_true, Bool.or_true, true_iff]
      refine Bool.eq_false_iff.mpr fun hm => ?_
      exact ((hmore j hil).1 hm).2 rfl
    · rw [decide_eq_false e, Bool.or_false, h.below j (by omega), Bool.or_eq_false_iff]
      constructor
      · intro hgj
        refine ⟨hgj, Bool.eq_false_iff.mpr fun hm => ?_⟩
        have hXj := (h.below j (by omega)).2 hgj
        exact hfree j (by omega) hXj ((hmore j (by omega)).1 hm).1
      · exact fun hh => hh.1
  · by_cases e : j = i
    · subst e
      exact ⟨hb0, fun q hq hb hqj => by rw [(hmore q hq).2 ⟨hb, hqj⟩, Bool.or_true]⟩
    · rw [decide_eq_false e, Bool.or_false] at hXj
      obtain ⟨h1, h2⟩ := h.lone j (by omega) hXj
      exact ⟨h1, fun q hq hb hqj => by rw [h2 q hq hb hqj, Bool.true_or]⟩
  · rcases Bool.or_eq_true_iff.1 hgo with hgo | hgo
    · obtain ⟨j, hj, hXj, hb⟩ := h.why q (by omega) hql hgo
      exact ⟨j, by omega, by rw [hXj, Bool.true_or], hb⟩
    · exact ⟨i, by omega, by simp, ((hmore q hql).1 hgo).1⟩
  · rcases h.first g hg hc with ha | ⟨j, hj, hq, h2⟩
    · cases hu : useB n (bW l) g i with
      | true =>
        refine .inl fun j hj => ?_
        by_cases e : j = i
        · subst e; rw [hu]; simp
        · dsimp only; rw [decide_eq_false e, Bool.or_false]; exact ha j (by omega)
      | false =>
        refine .inr ⟨i, by omega, fun q hq => ?_, by simp, hu⟩
        dsimp only
        rw [decide_eq_false (by omega), Bool.or_false]; exact ha q hq
    · refine .inr ⟨j, by omega, fun q hq2 => ?_, by dsimp only; rw [h2.1, Bool.true_or], h2.2⟩
      dsimp only
      rw [decide_eq_false (by omega), Bool.or_false]; exact hq q hq2
end
end Go.Proofs.Ytpmadffgdfholaa.B
namespace Go.Proofs.Ytpmadffgdfholaa.B
set_option linter.unusedVariables false
open Go.RowKit Go.Proofs.YtpmadffgdfholaaW.PrintWords Go.Proofs.YtpmadffgdfholaaW.PrintLast Go.Proofs.YtpmadffgdfholaaW.PrintMore
def costW (l : List S30) (i : Nat) : Int := (rd_T30 l (i : Int)).f2
theorem sumZ_swap (g : Nat → Nat → Int) (n : Nat) : ∀ m, sumZ (fun i => sumZ (g i) n) m = sumZ (fun c => sumZ (fun i => g i c) m) n
  | 0 => (sumZ_zero n).symm
  | m + 1 => by
    simp only [sumZ]
    rw [sumZ_swap g n m, ← sumZ_add]
theorem sumZ_pick (x : Int) (t : Nat) : ∀ m, sumZ (fun i => if i = t then x else 0) m = if t < m then x else 0
  | 0 => by simp [sumZ]
  | m + 1 => by
    simp only [sumZ]
    rw [sumZ_pick x t m]
    by_cases h1 : t < m
    · rw [if_pos h1, if_neg (by omega), if_pos (by omega)]; omega
    · by_cases h2 : m = t
      · rw [if_neg h1, if_pos h2, if_pos (by omega)]; omega
      · rw [if_neg h1, if_neg h2, if_neg (by omega)]; rfl
section
variable {n : Nat} {l : List S30} {f : Nat → Nat}
/-- What is summed over the streets of a branching is summed over its corners. -/
theorem sum_used (b : Nat → Nat) (m : Nat) (hf : ∀ c, 0 < c → c < n → f c < m ∧ b (f c) = c) (p : Nat → Int) : sumZ (fun j => if useB n b f j = true then p j else 0) m = costF n p f := by
  have h1 : ∀ j, j < m → (if useB n b f j = true then p j else 0) = sumZ (fun c => if c = 0 then 0 else if j = f c then p j else 0) n := by
    intro j hj
    by_cases hu : useB n b f j = true
    · obtain ⟨u1, u2, u3⟩ := useB_iff.1 hu
      rw [if_pos hu]
      have : sumZ (fun c => if c = 0 then 0 else if j = f c then p j else 0) n = sumZ (fun c => if c = b j then p j else 0) n := by
        refine sumZ_congr n fun c hc => ?_
        by_cases e : c = b j
        · subst e; rw [if_neg (by omega), if_pos u3.symm, if_pos rfl]
        · rw [if_neg e]
          by_cases h0 : c = 0
          · rw [if_pos h0]
          · rw [if_neg h0, if_neg]
            intro h
            have := (hf c (by omega) hc).2
            rw [← h] at this
            exact e this.symm
      rw [this, sumZ_pick, if_pos u2]
    · rw [if_neg hu]
      refine ((sumZ_congr n fun c hc => ?_).trans (sumZ_zero n)).symm
      by_cases h0 : c = 0
      · rw [if_pos h0]
      · rw [if_neg h0, if_neg]
        intro h
        have h2 := (hf c (by omega) hc).2
        rw [← h] at h2
        exact hu (useB_iff.2 ⟨by omega, by omega, by rw [h2, h]⟩)
  rw [sumZ_congr m h1, sumZ_swap (fun j c => if c = 0 then 0 else if j = f c then p j else 0) n m]
  unfold costF
  refine sumZ_congr n fun c hc => ?_
  by_cases h0 : c = 0
  · rw [if_pos h0]
    refine (sumZ_congr m fun i _ => ?_).trans (sumZ_zero m)
    rw [if_pos h0]
  · rw [if_neg h0]
    have : sumZ (fun i => if c = 0 then 0 else if i = f c then p i else 0) m = sumZ (fun i => if i = f c then p (f c) else 0) m := by
      refine sumZ_congr m fun i _ => ?_
      rw [if_neg h0]
      by_cases e : i = f c
      · rw [if_pos e, if_pos e, e]
      · rw [if_neg e, if_neg e]
    rw [this, sumZ_pick, if_pos (hf c (by omega) hc).1]
theorem selL_count (X : Nat → Bool) : ∀ m, ((selL X m).length : Int) = sumZ (fun j => if X j = true then 1 else 0) m
  | 0 => rfl
  | m + 1 => by
    simp only [sumZ]
    rw [selL_succ, ← selL_count X m]
    split
    · rw [List.length_append, List.length_singleton]; omega
    · omega
theorem costF_one (n : Nat) (f : Nat → Nat) : ∀ m, m ≤ n → 1 ≤ m → sumZ (fun c => if c = 0 then 0 else (fun _ => (1 : Int)) (f c)) m = (m : Int) - 1
  | 0, _, h => absurd h (by decide)
  | 1, _, _ => rfl
  | m + 2, h, _ => by
    have ih := costF_one n f (m + 1) (by omega) (by omega)
    rw [sumZ, ih, if_neg (by omega)]
    dsimp only
    omega
theorem IsB.selLen (hn : 1 ≤ n) (hf : IsB n (aW l) (bW l) (fun i => i < l.length) f) : (selL (useB n (bW l) f) l.length).length = n - 1 := by
  have h1 := selL_count (useB n (bW l) f) l.length
  rw [sum_used (n := n) (f := f) (bW l) l.length hf.on (fun _ => 1)] at h1
  unfold costF at h1
  rw [costF_one n f n (Nat.le_refl _) hn] at h1
  omega
theorem asc_ext : ∀ (L M : List Int), L.Pairwise (· < ·) → M.Pairwise (· < ·) → (∀ x, x ∈ L ↔ x ∈ M) → L = M
  | [], [], _, _, _ => rfl
  | [], y :: M, _, _, h => absurd ((h y).2 List.mem_cons_self) (by simp)
  | x :: L, [], _, _, h => absurd ((h x).1 List.mem_cons_self) (by simp)
  | x :: L, y :: M, h1, h2, h => by
    rw [List.pairwise_cons] at h1 h2
    have hxy : x = y := by
      have a := (h x).1 List.mem_cons_self
      have b := (h y).2 List.mem_cons_self
      rcases List.mem_cons.1 a with a | a
      · exact a
      · rcases List.mem_cons.1 b with b | b
        · exact b.symm
        · have := h2.1 x a; have := h1.1 y b; omega
    subst hxy
    rw [asc_ext L M h1.2 h2.2 fun z => ?_]
    constructor
    · intro hz
      rcases List.mem_cons.1 ((h z).1 (List.mem_cons_of_mem _ hz)) with e | e
      · subst e; have := h1.1 z hz; omega
      · exact e
    · intro hz
      rcases List.mem_cons.1 ((h z).2 (List.mem_cons_of_mem _ hz)) with e | e
      · subst e; have := h2.1 z hz; omega
      · exact e
theorem selL_asc (X : Nat → Bool) : ∀ m, (selL X m).Pairwise (· < ·)
  | 0 => List.Pairwise.nil
  | m + 1 => by
    rw [selL_succ]
    split
    · rw [List.pairwise_append]
      refine ⟨selL_asc X m, List.pairwise_singleton _ _, fun a ha b hb => ?_⟩
      obtain ⟨j, rfl, hj, _⟩ := selL_nat X m a ha
      rw [List.mem_singleton] at hb
      omega
    · exact selL_asc X m
structure PreOk (l : List S30) (L : List Int) (q : Nat) : Prop where
  rng : ∀ j : Nat, j < q → 0 ≤ rd L (j : Int) ∧ rd L (j : Int) < (l.length : Int)
  asc : ∀ j : Nat, j + 1 < q → rd L (j : Int) < rd L ((j + 1 : Nat) : Int)
  far : ∀ i j : Nat, i < j → j < q → bW l (rd L (i : Int)).toNat ≠ bW l (rd L (j : Int)).toNat
  pos : ∀ j : Nat, j < q → bW l (rd L (j : Int)).toNat ≠ 0
theorem PreOk.le {L : List Int} {q r : Nat} (h : PreOk l L q) (hr : r ≤ q) : PreOk l L r :=
  ⟨fun j hj => h.rng j (by omega), fun j hj => h.asc j (by omega), fun i j hi hj => h.far i j hi (by omega), fun j hj => h.pos j (by omega)⟩
def metN (l : List S30) (L : List Int) : Nat → Nat
  | 0 => 1
  | q + 1 => metN l L q ||| 1 <<< bW l (rd L (q : Int)).toNat
def costN (l : List S30) (L : List Int) : Nat → Int
  | 0 => 0
  | q + 1 => costN l L q + costW l (rd L (q : Int)).toNat
theorem metN_bit (l : List S30) (L : List Int) (c : Nat) : ∀ q, (metN l L q).testBit c = true ↔ c = 0 ∨ ∃ j, j < q ∧ bW l (rd L (j : Int)).toNat = c
  | 0 => by
    rw [metN, show (1 : Nat) = 1 <<< 0 from rfl, tb_one, decide_eq_true_eq]
    exact ⟨.inl, fun h => h.resolve_right (fun ⟨j, hj, _⟩ => by omega)⟩
  | q + 1 => by
    rw [metN, tb_or, Bool.or_eq_true, metN_bit l L c q, decide_eq_true_eq]
    constructor
    · rintro ((h | ⟨j, hj, h⟩) | h)
      · exact .inl h
      · exact .inr ⟨j, by omega, h⟩
      · exact .inr ⟨q, by omega, h.symm⟩
    · rintro (h | ⟨j, hj, h⟩)
      · exact .inl (.inl h)
      · by_cases e : j = q
        · subst e; exact .inr h.symm
        · exact .inl (.inr ⟨j, by omega, h⟩)
theorem metN_lt (hn1 : 1 ≤ n) (hn : n ≤ 7) (hx : ∀ x ∈ l, wayOk n x = true) {L : List Int} : ∀ q, PreOk l L q → metN l L q < 128
  | 0, _ => (by decide : (1 : Nat) < 128)
  | q + 1, h => by
    have ih := metN_lt hn1 hn hx q (h.le (by omega))
    have hr := h.rng q (by omega)
    have hb := (bW_eq hx (rd L (q : Int)).toNat (by omega)).2.2.1
    exact fin_lt ⟨7, by decide⟩ ⟨metN l L q, ih⟩ ⟨bW l (rd L (q : Int)).toNat, by omega⟩ ih (by simp only []; omega)
theorem costN_bound (hx : ∀ x ∈ l, wayOk n x = true) {L : List Int} : ∀ q, PreOk l L q → 0 ≤ costN l L q ∧ costN l L q ≤ 1000 * q
  | 0, _ => by simp [costN]
  | q + 1, h => by
    have ih := costN_bound hx q (h.le (by omega))
    have hr := h.rng q (by omega)
    have hw := (wayOk_iff n _).1 (hx _ (rd_T30_mem l (rd L (q : Int)).toNat (by omega)))
    simp only [costN, costW]
    omega
/-- What stops at street q. -/
theorem PreOk.next {L : List Int} {q : Nat} (h : PreOk l L q) (h0 : 0 ≤ rd L (q : Int)) (h1 : rd L (q : Int) < (l.length : Int)) (h2 : 0 < q → rd L ((q - 1 : Nat) : Int) < rd L (q : Int)) (h3 : (metN l L q).testBit (bW l (rd L (q : Int)).toNat) = false) : PreOk l L (q + 1) := by
  have hm : ¬ (bW l (rd L (q : Int)).toNat = 0 ∨ ∃ j, j < q ∧ bW l (rd L (j : Int)).toNat = bW l (rd L (q : Int)).toNat) := fun hh => by
    rw [(metN_bit l L _ q).2 hh] at h3; exact absurd h3 (by decide)
  refine ⟨fun j hj => ?_, fun j hj => ?_, fun i j hi hj => ?_, fun j hj => ?_⟩
  · by_cases e : j = q
    · subst e; exact ⟨h0, h1⟩
    · exact h.rng j (by omega)
  · by_cases e : j + 1 = q
    · have := h2 (by omega)
      rw [show q - 1 = j by omega] at this
      rw [e]; exact this
    · exact h.asc j (by omega)
  · by_cases e : j = q
    · subst e; exact fun hh => hm (.inr ⟨i, hi, hh⟩)
    · exact h.far i j hi (by omega)
  · by_cases e : j = q
    · subst e; exact fun hh => hm (.inl hh)
    · exact h.pos j (by omega)
theorem PreOk.not_met {L : List Int} {q : Nat} (h : PreOk l L (q + 1)) : (metN l L q).testBit (bW l (rd L (q : Int)).toNat) = false := by
  refine Bool.eq_false_iff.mpr fun hh => ?_
  rcases (metN_bit l L _ q).1 hh with h1 | ⟨j, hj, h1⟩
  · exact h.pos q (by omega) h1
  · exact h.far j q hj (by omega) h1
theorem is_code (hn1 : 1 ≤ n) (hn : n ≤ 7) (hx : ∀ x ∈ l, wayOk n x = true) (hl : l.length ≤ 30) {L : List Int} (hL : L.length ≤ 60) : ∀ (d q k : Nat), q + d = L.length → PreOk l L q →
    (PreOk l L L.length → branch_town_is.l0 (k + 2 * d + 1) L (costN l L q) (metN l L q : Int) L (L.length : Int) (q : Int) (n : Int) l = (branch_town_reach.f k (n : Int) l L).bind fun t => (branch_town_everybody.f (n : Int) l).bind fun u => if t = u then some (costN l L L.length, true) else some (0, false)) ∧
    (¬ PreOk l L L.length → branch_town_is.l0 (k + 2 * d + 1) L (costN l L q) (metN l L q : Int) L (L.length : Int) (q : Int) (n : Int) l = some (0, false))
  | 0, q, k, h, hP => by
    obtain rfl : q = L.length := by omega
    refine ⟨fun _ => ?_, fun h => absurd hP h⟩
    rw [show k + 2 * 0 + 1 = k + 1 from rfl, branch_town_is.l0, if_neg (by omega)]
  | d + 1, q, k, h, hP => by
    have hq : q < L.length := by omega
    have hw := wrap_nat q (by omega)
    rw [show k + 2 * (d + 1) + 1 = (k + 2 * d + 1) + 1 + 1 from by omega]
    have ih := fun hP => is_code hn1 hn hx hl hL d (q + 1) k (by omega) hP
    simp only [costN, metN] at ih
    generalize hkk : k + 2 * d + 1 = kk at ih
    have hj1 : ∀ c m x, branch_town_is.j1 (kk + 1) L c m x L (L.length : Int) (q : Int) true (n : Int) l = some (0, false) := fun c m x => by rw [branch_town_is.j1, if_pos rfl]
    have hl0 : branch_town_is.l0 (kk + 1 + 1) L (costN l L q) (metN l L q : Int) L (L.length : Int) (q : Int) (n : Int) l =
        if rd L (q : Int) < 0 ∨ rd L (q : Int) ≥ (l.length : Int) ∨ (0 < q ∧ rd L (q : Int) ≤ rd L ((q - 1 : Nat) : Int)) then some (0, false) else branch_town_is.j1 (kk + 1) L (costN l L q) (metN l L q : Int) (rd L (q : Int)) L (L.length : Int) (q : Int) ((metN l L q).testBit (bW l (rd L (q : Int)).toNat)) (n : Int) l := by
      rw [branch_town_is.l0]
      rw [if_pos (by omega), if_pos (by omega), if_pos (by omega)]
      by_cases t1 : rd L (q : Int) < 0
      · rw [if_pos t1, hj1, if_pos (.inl t1)]
      rw [if_neg t1]
      by_cases t2 : rd L (q : Int) ≥ (l.length : Int)
      · rw [if_pos t2, hj1, if_pos (.inr (.inl t2))]
      rw [if_neg t2]
      obtain ⟨i, hi⟩ : ∃ i : Nat, rd L (q : Int) = (i : Int) := Int.eq_ofNat_of_zero_le (by omega)
      have hil : i < l.length := by omega
      obtain ⟨e1, _, e3, _⟩ := bW_eq hx i hil
      have hm7 := metN_lt hn1 hn hx q hP
      have hb := hasB_nat (s := metN l L q) (c := bW l i) hm7 (by omega)
      unfold hasB at hb
      by_cases t3 : 0 < q
      · have hw2 : wrap64 ((q : Int) - 1) = ((q - 1 : Nat) : Int) := by unfold wrap64; omega
        rw [if_pos (by omega), hw2, if_pos (by omega), if_pos (by omega)]
        by_cases t4 : rd L (q : Int) ≤ rd L ((q - 1 : Nat) : Int)
        · rw [if_pos t4, hj1, if_pos (.inr (.inr ⟨t3, t4⟩))]
        · have t : ¬ (rd L (q : Int) < 0 ∨ rd L (q : Int) ≥ (l.length : Int) ∨ (0 < q ∧ rd L (q : Int) ≤ rd L ((q - 1 : Nat) : Int))) := by omega
          rw [if_neg t4, if_pos (by omega), if_pos (by omega), if_neg t, hi, e1, if_pos (by omega), hb, Int.toNat_natCast]
      · have t : ¬ (rd L (q : Int) < 0 ∨ rd L (q : Int) ≥ (l.length : Int) ∨ (0 < q ∧ rd L (q : Int) ≤ rd L ((q - 1 : Nat) : Int))) := by omega
        rw [if_neg (by omega), if_pos (by omega), if_pos (by omega), if_neg t, hi, e1, if_pos (by omega), hb, Int.toNat_natCast]
    rw [hl0]
    by_cases t : rd L (q : Int) < 0 ∨ rd L (q : Int) ≥ (l.length : Int) ∨ (0 < q ∧ rd L (q : Int) ≤ rd L ((q - 1 : Nat) : Int))
    · rw [if_pos t]
      refine ⟨fun hF => ?_, fun _ => rfl⟩
      exfalso
      have h1 := hF.rng q hq
      rcases t with t | t | ⟨t0, t⟩
      · omega
      · omega
      · have := hF.asc (q - 1) (by omega)
        rw [show q - 1 + 1 = q by omega] at this
        omega
    · rw [if_neg t]
      have t1 : ¬ rd L (q : Int) < 0 := fun h => t (.inl h)
      have t2 : ¬ rd L (q : Int) ≥ (l.length : Int) := fun h => t (.inr (.inl h))
      have t3 : 0 < q → rd L ((q - 1 : Nat) : Int) < rd L (q : Int) := fun h0 => by
        refine Classical.byContradiction fun hh => t (.inr (.inr ⟨h0, by omega⟩))
      cases hb : (metN l L q).testBit (bW l (rd L (q : Int)).toNat) with
      | true =>
        rw [hj1]
        refine ⟨fun hF => ?_, fun _ => rfl⟩
        have := (hF.le (show q + 1 ≤ L.length by omega)).not_met
        rw [hb] at this
        exact absurd this (by decide)
      | false =>
        have hP2 := hP.next (by omega) (by omega) t3 hb
        have ih := ih hP2
        obtain ⟨i, hi⟩ : ∃ i : Nat, rd L (q : Int) = (i : Int) := Int.eq_ofNat_of_zero_le (by omega)
        have hil : i < l.length := by omega
        obtain ⟨e1, _, e3, _⟩ := bW_eq hx i hil
        have hm7 := metN_lt hn1 hn hx q hP
        have f2 := fin_or ⟨metN l L q, hm7⟩ ⟨bW l i, by omega⟩
        simp only [] at f2
        have hcb := costN_bound hx q hP
        have hwy := (wayOk_iff n _).1 (hx _ (rd_T30_mem l i hil))
        have hj : branch_town_is.j1 (kk + 1) L (costN l L q) (metN l L q : Int) (rd L (q : Int)) L (L.length : Int) (q : Int) false (n : Int) l = branch_town_is.l0 kk L (costN l L q + costW l (rd L (q : Int)).toNat) ((metN l L q ||| 1 <<< bW l (rd L (q : Int)).toNat : Nat) : Int) L (L.length : Int) ((q + 1 : Nat) : Int) (n : Int) l := by
          rw [branch_town_is.j1]
          rw [if_neg (by decide), if_pos (by omega), if_pos (by omega), hi, e1, if_pos (by omega), f2, hw, Int.toNat_natCast]
          rw [show wrap64 (costN l L q + (rd_T30 l (i : Int)).f2) = costN l L q + costW l i from by unfold costW wrap64; omega]
        rw [hj]
        exact ih
theorem is_ref (hn1 : 1 ≤ n) (hn : n ≤ 7) (hx : ∀ x ∈ l, wayOk n x = true) (hl : l.length ≤ 30) {L : List Int} (hL : L.length ≤ 60) : ∀ (d q k : Nat), q + d = L.length → PreOk l L q →
    (PreOk l L L.length → trishawref03_IsBranching.l0 (k + 2 * d + 1) (n : Int) l L (metN l L q : Int) (q : Int) = (trishawref03_reached.f k l L).bind fun t => some (t == (wrap64 ((shl .i64 1 (n : Int)) - 1)))) ∧
    (¬ PreOk l L L.length → trishawref03_IsBranching.l0 (k + 2 * d + 1) (n : Int) l L (metN l L q : Int) (q : Int) = some false)
  | 0, q, k, h, hP => by
    obtain rfl : q = L.length := by omega
    refine ⟨fun _ => ?_, fun h => absurd hP h⟩
    rw [show k + 2 * 0 + 1 = k + 1 from rfl, trishawref03_IsBranching.l0, if_neg (by omega)]
    refine congrArg _ (funext fun t => ?_)
    rw [if_pos (by omega)]
  | d + 1, q, k, h, hP => by
    have hq : q < L.length := by omega
    have hw := wrap_nat q (by omega)
    rw [show k + 2 * (d + 1) + 1 = (k + 2 * d + 1) + 1 + 1 from by omega]
    have ih := fun hP => is_ref hn1 hn hx hl hL d (q + 1) k (by omega) hP
    simp only [metN] at ih
    generalize hkk : k + 2 * d + 1 = kk at ih
    have hj1 : ∀ m, trishawref03_IsBranching.j1 (kk + 1) (n : Int) l L m (q : Int) true = some false := fun m => by rw [trishawref03_IsBranching.j1, if_pos rfl]
    have hl0 : trishawref03_IsBranching.l0 (kk + 1 + 1) (n : Int) l L (metN l L q : Int) (q : Int) =
        if rd L (q : Int) < 0 ∨ rd L (q : Int) ≥ (l.length : Int) ∨ (0 < q ∧ rd L (q : Int) ≤ rd L ((q - 1 : Nat) : Int)) then some false else trishawref03_IsBranching.j1 (kk + 1) (n : Int) l L (metN l L q : Int) (q : Int) ((metN l L q).testBit (bW l (rd L (q : Int)).toNat)) := by
      rw [trishawref03_IsBranching.l0]
      rw [if_pos (by omega), if_pos (by omega)]
      by_cases t1 : rd L (q : Int) < 0
      · rw [if_pos t1, hj1, if_pos (.inl t1)]
      rw [if_neg t1]
      by_cases t2 : rd L (q : Int) ≥ (l.length : Int)
      · rw [if_pos t2, hj1, if_pos (.inr (.inl t2))]
      rw [if_neg t2]
      obtain ⟨i, hi⟩ : ∃ i : Nat, rd L (q : Int) = (i : Int) := Int.eq_ofNat_of_zero_le (by omega)
      have hil : i < l.length := by omega
      obtain ⟨e1, _, e3, _⟩ := bW_eq hx i hil
      have hm7 := metN_lt hn1 hn hx q hP
      have f1 := fin_mod ⟨metN l L q, hm7⟩ ⟨bW l i, by omega⟩
      simp only [] at f1
      have hb : (Int.tmod (shr .i64 (metN l L q : Int) (bW l i : Int)) 2 == 1) = (metN l L q).testBit (bW l i) := by
        rw [f1]
        cases (metN l L q).testBit (bW l i) <;> rfl
      by_cases t3 : 0 < q
      · have hw2 : wrap64 ((q : Int) - 1) = ((q - 1 : Nat) : Int) := by unfold wrap64; omega
        rw [if_pos (by omega), hw2, if_pos (by omega), if_pos (by omega)]
        by_cases t4 : rd L (q : Int) ≤ rd L ((q - 1 : Nat) : Int)
        · rw [if_pos t4, hj1, if_pos (.inr (.inr ⟨t3, t4⟩))]
        · have t : ¬ (rd L (q : Int) < 0 ∨ rd L (q : Int) ≥ (l.length : Int) ∨ (0 < q ∧ rd L (q : Int) ≤ rd L ((q - 1 : Nat) : Int))) := by omega
          rw [if_neg t4, if_pos (by omega), if_pos (by omega), if_neg t, hi, e1, if_pos (by omega), hb, Int.toNat_natCast]
      · have t : ¬ (rd L (q : Int) < 0 ∨ rd L (q : Int) ≥ (l.length : Int) ∨ (0 < q ∧ rd L (q : Int) ≤ rd L ((q - 1 : Nat) : Int))) := by omega
        rw [if_neg (by omega), if_pos (by omega), if_pos (by omega), if_neg t, hi, e1, if_pos (by omega), hb, Int.toNat_natCast]
    rw [hl0]
    by_cases t : rd L (q : Int) < 0 ∨ rd L (q : Int) ≥ (l.length : Int) ∨ (0 < q ∧ rd L (q : Int) ≤ rd L ((q - 1 : Nat) : Int))
    · rw [if_pos t]
      refine ⟨fun hF => ?_, fun _ => rfl⟩
      exfalso
      have h1 := hF.rng q hq
      rcases t with t | t | ⟨t0, t⟩
      · omega
      · omega
      · have := hF.asc (q - 1) (by omega)
        rw [show q - 1 + 1 = q by omega] at this
        omega
    · rw [if_neg t]
      have t1 : ¬ rd L (q : Int) < 0 := fun h => t (.inl h)
      have t2 : ¬ rd L (q : Int) ≥ (l.length : Int) := fun h => t (.inr (.inl h))
      have t3 : 0 < q → rd L ((q - 1 : Nat) : Int) < rd L (q : Int) := fun h0 => by
        refine Classical.byContradiction fun hh => t (.inr (.inr ⟨h0, by omega⟩))
      cases hb : (metN l L q).testBit (bW l (rd L (q : Int)).toNat) with
      | true =>
        rw [hj1]
        refine ⟨fun hF => ?_, fun _ => rfl⟩
        have := (hF.le (show q + 1 ≤ L.length by omega)).not_met
        rw [hb] at this
        exact absurd this (by decide)
      | false =>
        have hP2 := hP.next (by omega) (by omega) t3 hb
        have ih := ih hP2
        obtain ⟨i, hi⟩ : ∃ i : Nat, rd L (q : Int) = (i : Int) := Int.eq_ofNat_of_zero_le (by omega)
        have hil : i < l.length := by omega
        obtain ⟨e1, _, e3, _⟩ := bW_eq hx i hil
        have hm7 := metN_lt hn1 hn hx q hP
        rw [hi, Int.toNat_natCast] at hb
        have f2 := fin_add ⟨metN l L q, hm7⟩ ⟨bW l i, by omega⟩ hb
        simp only [] at f2
        have hj : trishawref03_IsBranching.j1 (kk + 1) (n : Int) l L (metN l L q : Int) (q : Int) false = trishawref03_IsBranching.l0 kk (n : Int) l L ((metN l L q ||| 1 <<< bW l (rd L (q : Int)).toNat : Nat) : Int) ((q + 1 : Nat) : Int) := by
          rw [trishawref03_IsBranching.j1]
          rw [if_neg (by decide), if_pos (by omega), if_pos (by omega), if_pos (by omega), if_pos (by omega), hi, e1, if_pos (by omega), f2, hw, Int.toNat_natCast]
        rw [hj]
        exact ih
end
end Go.Proofs.Ytpmadffgdfholaa.B
namespace Go.Proofs.Ytpmadffgdfholaa.B
set_option linter.unusedVariables false
open Go.RowKit Go.Proofs.YtpmadffgdfholaaW.PrintWords Go.Proofs.YtpmadffgdfholaaW.PrintLast Go.Proofs.YtpmadffgdfholaaW.PrintMore
section
variable {n : Nat} {l : List S30} {f : Nat → Nat}
/-- The list of the streets of a branching. -/
def listB (n : Nat) (l : List S30) (f : Nat → Nat) : List Int := selL (useB n (bW l) f) l.length
abbrev BrB (n : Nat) (l : List S30) (f : Nat → Nat) : Prop := IsB n (aW l) (bW l) (fun i => i < l.length) f
theorem rd_get (L : List Int) (j : Nat) (h : j < L.length) : rd L (j : Int) = L[j] := by
  simp [rd, List.getD, List.getElem?_eq_getElem h]
theorem mem_rd (L : List Int) (x : Int) : x ∈ L ↔ ∃ j : Nat, j < L.length ∧ rd L (j : Int) = x := by
  constructor
  · intro h
    obtain ⟨j, hj, e⟩ := List.mem_iff_getElem.1 h
    exact ⟨j, hj, (rd_get L j hj).trans e⟩
  · rintro ⟨j, hj, e⟩
    rw [rd_get L j hj] at e
    exact e ▸ List.getElem_mem hj
theorem asc_pair (L : List Int) : (∀ j : Nat, j + 1 < L.length → rd L (j : Int) < rd L ((j + 1 : Nat) : Int)) ↔ L.Pairwise (· < ·) := by
  rw [List.pairwise_iff_getElem]
  constructor
  · intro h i j hi hj hij
    have key : ∀ d, i + 1 + d < L.length → rd L (i : Int) < rd L ((i + 1 + d : Nat) : Int) := by
      intro d
      induction d with
      | zero => exact fun h2 => h i h2
      | succ d ih => exact fun h2 => Int.lt_trans (ih (by omega)) (h (i + 1 + d) h2)
    have := key (j - i - 1) (by omega)
    rw [show i + 1 + (j - i - 1) = j by omega, rd_get L i hi, rd_get L j hj] at this
    exact this
  · intro h j hj
    rw [rd_get L j (by omega), rd_get L (j + 1) hj]
    exact h j (j + 1) (by omega) hj (by omega)
structure Full (n : Nat) (l : List S30) (L : List Int) : Prop where
  len : L.length = n - 1
  pre : PreOk l L L.length
  all : ∀ c, c < n → Rc (aW l) (bW l) (fun i => (i : Int) ∈ L) 0 c
theorem full_iff (hn1 : 1 ≤ n) (hn : n ≤ 7) (hx : ∀ x ∈ l, wayOk n x = true) (L : List Int) : Full n l L ↔ ∃ f, BrB n l f ∧ L = listB n l f := by
  constructor
  · intro hF
    have hnat : ∀ x ∈ L, ∃ i : Nat, x = (i : Int) ∧ i < l.length ∧ bW l i ≠ 0 := by
      intro x hxL
      obtain ⟨j, hj, e⟩ := (mem_rd L x).1 hxL
      have h1 := hF.pre.rng j hj
      have h2 := hF.pre.pos j hj
      rw [e] at h1 h2
      exact ⟨x.toNat, by omega, by omega, h2⟩
    have hone : ∀ i j : Nat, (i : Int) ∈ L → (j : Int) ∈ L → bW l i = bW l j → i = j := by
      intro i j hi hj hb
      obtain ⟨p, hp, e1⟩ := (mem_rd L i).1 hi
      obtain ⟨q, hq, e2⟩ := (mem_rd L j).1 hj
      rcases Nat.lt_trichotomy p q with h | h | h
      · have := hF.pre.far p q h hq
        rw [e1, e2] at this
        exact absurd hb this
      · subst h; omega
      · have := hF.pre.far q p h hp
        rw [e1, e2] at this
        exact absurd hb.symm this
    have hex : ∀ c, ∃ i : Nat, 0 < c → c < n → (i : Int) ∈ L ∧ bW l i = c := by
      intro c
      by_cases hc : 0 < c ∧ c < n
      · have hr := hF.all c hc.2
        generalize hz : (0 : Nat) = z at hr
        cases hr with
        | refl => omega
        | @step i t _ => exact ⟨i, fun _ _ => ⟨t, rfl⟩⟩
      · exact ⟨0, fun h1 h2 => absurd ⟨h1, h2⟩ hc⟩
    obtain ⟨f, hf⟩ : ∃ f : Nat → Nat, ∀ c, 0 < c → c < n → (f c : Int) ∈ L ∧ bW l (f c) = c := ⟨fun c => Classical.choose (hex c), fun c => Classical.choose_spec (hex c)⟩
    have hlt : ∀ i : Nat, (i : Int) ∈ L → i < l.length ∧ bW l i ≠ 0 := by
      intro i hi
      obtain ⟨j, e, h1, h2⟩ := hnat _ hi
      obtain rfl : i = j := by omega
      exact ⟨h1, h2⟩
    have hmem : ∀ i : Nat, (i : Int) ∈ L ↔ i < l.length ∧ useB n (bW l) f i = true := by
      intro i
      constructor
      · intro hi
        obtain ⟨h1, h2⟩ := hlt i hi
        have hb := (bW_eq hx i h1).2.2.1
        obtain ⟨g1, g2⟩ := hf (bW l i) (by omega) hb
        exact ⟨h1, useB_iff.2 ⟨by omega, hb, hone _ _ g1 hi g2⟩⟩
      · rintro ⟨h1, h2⟩
        obtain ⟨u1, u2, u3⟩ := useB_iff.1 h2
        have := (hf (bW l i) u1 u2).1
        rwa [u3] at this
    refine ⟨f, ⟨fun c c0 c1 => ⟨(hlt _ (hf c c0 c1).1).1, (hf c c0 c1).2⟩, fun c hc => (hF.all c hc).mono fun i hi => ?_⟩, ?_⟩
    · obtain ⟨h1, h2⟩ := (hmem i).1 hi
      obtain ⟨u1, u2, u3⟩ := useB_iff.1 h2
      exact ⟨bW l i, u1, u2, u3.symm⟩
    · refine asc_ext L _ ((asc_pair L).1 hF.pre.asc) (selL_asc _ _) fun x => ?_
      constructor
      · intro hxL
        obtain ⟨i, rfl, _⟩ := hnat x hxL
        exact (selL_mem _ _ _).2 ((hmem i).1 hxL)
      · intro hxS
        obtain ⟨i, rfl, h1, h2⟩ := selL_nat _ _ x hxS
        exact (hmem i).2 ⟨h1, h2⟩
  · rintro ⟨f, hf, rfl⟩
    have hnat : ∀ j : Nat, j < (listB n l f).length → ∃ i : Nat, rd (listB n l f) (j : Int) = (i : Int) ∧ i < l.length ∧ useB n (bW l) f i = true := by
      intro j hj
      exact selL_nat _ _ _ ((mem_rd _ _).2 ⟨j, hj, rfl⟩)
    have hasc := (asc_pair (listB n l f)).2 (selL_asc _ _)
    refine ⟨hf.selLen hn1, ⟨fun j hj => ?_, hasc, fun i j hij hj => ?_, fun j hj => ?_⟩, fun c hc => (hf.all c hc).mono ?_⟩
    · obtain ⟨i, e, h1, _⟩ := hnat j hj
      rw [e]; omega
    · obtain ⟨x, e1, _, u1⟩ := hnat i (by omega)
      obtain ⟨y, e2, _, u2⟩ := hnat j hj
      have hp := List.pairwise_iff_getElem.1 (selL_asc (useB n (bW l) f) l.length) i j (by exact (by omega : i < (listB n l f).length)) hj hij
      have hlt : rd (listB n l f) (i : Int) < rd (listB n l f) (j : Int) := by
        rw [rd_get _ i (by omega), rd_get _ j hj]; exact hp
      rw [e1, e2] at hlt ⊢
      rw [Int.toNat_natCast, Int.toNat_natCast]
      intro hb
      have h1 := (useB_iff.1 u1).2.2
      have h2 := (useB_iff.1 u2).2.2
      rw [hb, h2] at h1
      omega
    · obtain ⟨i, e, _, u⟩ := hnat j hj
      rw [e, Int.toNat_natCast]
      have := (useB_iff.1 u).1
      omega
    · rintro i ⟨c, c0, c1, rfl⟩
      obtain ⟨t, tb⟩ := hf.on c c0 c1
      exact (selL_mem _ _ _).2 ⟨t, useB_iff.2 ⟨by omega, by omega, by rw [tb]⟩⟩
theorem costN_app (l : List S30) (L M : List Int) : ∀ q, q ≤ L.length → costN l (L ++ M) q = costN l L q
  | 0, _ => rfl
  | q + 1, h => by
    simp only [costN]
    rw [costN_app l L M q (by omega)]
    have : rd (L ++ M) (q : Int) = rd L (q : Int) := by
      simp only [rd, Int.toNat_natCast, List.getD]
      rw [List.getElem?_append_left (by omega)]
    rw [this]
theorem costN_sel (l : List S30) (X : Nat → Bool) : ∀ m, costN l (selL X m) (selL X m).length = sumZ (fun j => if X j = true then costW l j else 0) m
  | 0 => rfl
  | m + 1 => by
    simp only [sumZ]
    rw [selL_succ, ← costN_sel l X m]
    split
    · rw [List.length_append, List.length_singleton]
      simp only [costN]
      rw [costN_app l _ _ _ (Nat.le_refl _)]
      have : rd (selL X m ++ [(m : Int)]) ((selL X m).length : Int) = (m : Int) := by
        simp [rd, List.getD]
      rw [this, Int.toNat_natCast]
    · omega
theorem costN_list (hf : BrB n l f) : costN l (listB n l f) (listB n l f).length = costF n (costW l) f := by
  unfold listB
  rw [costN_sel, sum_used (bW l) l.length hf.on]
theorem reach_code (hn1 : 1 ≤ n) (hn : n ≤ 7) {L : List Int} (hL : InL n l L) (hl : L.length ≤ 60) (k : Nat) (hk : 600 ≤ k) : branch_town_reach.f k (n : Int) l L = some ((itS l L n 1 : Nat) : Int) := by
  have h1 : (1 : Nat) < 2 ^ n := Nat.one_lt_two_pow (by omega)
  have hb : (L.length + 2) * n ≤ 62 * 7 := Nat.mul_le_mul (by omega) hn
  have := reach_l0 hn hL (by omega) n 0 (k - (L.length + 2) * n - 1) 1 (by omega) h1
  rw [show k - (L.length + 2) * n - 1 + (L.length + 2) * n + 1 = k from by omega] at this
  exact this
theorem reach_ref (hn1 : 1 ≤ n) (hn : n ≤ 7) {L : List Int} (hL : InL n l L) (hl : L.length ≤ 60) (k : Nat) (hk : 600 ≤ k) : trishawref03_reached.f k l L = some ((itS l L n 1 : Nat) : Int) := by
  have h1 : (1 : Nat) < 2 ^ n := Nat.one_lt_two_pow (by omega)
  have hb : (L.length + 2) * (n + 1) ≤ 62 * 8 := Nat.mul_le_mul (by omega) (by omega)
  have := reached_l0 hn hL (by omega) n (k - (L.length + 2) * (n + 1) - 1) 1 h1 (by omega)
  rw [show k - (L.length + 2) * (n + 1) - 1 + (L.length + 2) * (n + 1) + 1 = k from by omega] at this
  exact this
theorem all_reached (hn1 : 1 ≤ n) (hn : n ≤ 7) {L : List Int} (hL : InL n l L) : ((itS l L n 1 : Nat) : Int) = 2 ^ n - 1 ↔ ∀ c, c < n → Rc (aW l) (bW l) (fun i => (i : Int) ∈ L) 0 c := by
  have hlt : itS l L n 1 < 2 ^ n := it_lt hn hL n 1 (Nat.one_lt_two_pow (by omega))
  have hp : 1 ≤ 2 ^ n := Nat.one_le_two_pow
  have hiff : ∀ c, (itS l L n 1).testBit c = true ↔ Rc (aW l) (bW l) (fun i => (i : Int) ∈ L) 0 c := fun c => closure_iff (d := 0) hn hL (by omega)
  have h2 : ((2 : Int) ^ n) = ((2 ^ n : Nat) : Int) := by norm_cast
  rw [h2]
  constructor
  · intro e c hc
    have e2 : itS l L n 1 = 2 ^ n - 1 := by omega
    rw [← hiff, e2, Nat.testBit_two_pow_sub_one]
    exact decide_eq_true hc
  · intro h
    have : itS l L n 1 = 2 ^ n - 1 := by
      refine Nat.eq_of_testBit_eq fun c => ?_
      rw [Nat.testBit_two_pow_sub_one]
      by_cases hc : c < n
      · rw [(hiff c).2 (h c hc), decide_eq_true hc]
      · rw [decide_eq_false hc]
        exact Nat.testBit_lt_two_pow (Nat.lt_of_lt_of_le hlt (Nat.pow_le_pow_right (by decide) (by omega)))
    omega
theorem everybody_f (hn : n ≤ 7) (l : List S30) : branch_town_everybody.f (n : Int) l = some ((2 : Int) ^ n - 1) := by
  have e1 := fin_shl ⟨n, by omega⟩
  simp only [] at e1
  have hp : 2 ^ n ≤ 2 ^ 7 := Nat.pow_le_pow_right (by decide) hn
  have hp1 : 1 ≤ 2 ^ n := Nat.one_le_two_pow
  have h2 : ((2 : Int) ^ n) = ((2 ^ n : Nat) : Int) := by norm_cast
  unfold branch_town_everybody.f
  rw [e1, if_pos (by omega), h2]
  generalize 2 ^ n = p at hp hp1
  refine congrArg some ?_
  unfold wrap64; omega
theorem everyone_ref (hn : n ≤ 7) : wrap64 ((shl .i64 1 (n : Int)) - 1) = (2 : Int) ^ n - 1 := by
  have e1 := fin_shl ⟨n, by omega⟩
  simp only [] at e1
  have hp : 2 ^ n ≤ 2 ^ 7 := Nat.pow_le_pow_right (by decide) hn
  have hp1 : 1 ≤ 2 ^ n := Nat.one_le_two_pow
  have h2 : ((2 : Int) ^ n) = ((2 ^ n : Nat) : Int) := by norm_cast
  rw [e1, h2]
  generalize 2 ^ n = p at hp hp1
  unfold wrap64; omega
theorem preOk_in (hx : ∀ x ∈ l, wayOk n x = true) {L : List Int} (h : PreOk l L L.length) : InL n l L := by
  intro i hi
  obtain ⟨j, hj, rfl⟩ := (mem_rd L i).1 hi
  have := h.rng j hj
  refine ⟨this.1, this.2, ?_⟩
  have := hx _ (rd_T30_mem l (rd L (j : Int)).toNat (by omega))
  rwa [Int.toNat_of_nonneg (h.rng j hj).1] at this
theorem cost_ref (hx : ∀ x ∈ l, wayOk n x = true) {L : List Int} (hl : L.length ≤ 60) (hP : PreOk l L L.length) : ∀ (d q k : Nat), q + d = L.length → trishawref03_cost.l0 (k + d + 1) l L (costN l L q) (q : Int) = some (costN l L L.length)
  | 0, q, k, h => by
    obtain rfl : q = L.length := by omega
    rw [show k + 0 + 1 = k + 1 from rfl, trishawref03_cost.l0, if_neg (by omega)]
  | d + 1, q, k, h => by
    have hq : q < L.length := by omega
    have hw := wrap_nat q (by omega)
    have ih := cost_ref hx hl hP d (q + 1) k (by omega)
    have h1 := hP.rng q hq
    have hcb := costN_bound hx q (hP.le (by omega))
    have hwy := (wayOk_iff (n : Int) _).1 (hx _ (rd_T30_mem l (rd L (q : Int)).toNat (by omega)))
    rw [show k + (d + 1) + 1 = (k + d + 1) + 1 from by omega, trishawref03_cost.l0, if_pos (by omega), if_pos (by omega), if_pos (by omega), if_pos (by omega), hw]
    rw [show wrap64 (costN l L q + (rd_T30 l (rd L (q : Int))).f2) = costN l L (q + 1) from by
      simp only [costN, costW]
      rw [Int.toNat_of_nonneg h1.1] at hwy ⊢
      unfold wrap64; omega]
    exact ih
/-- Is, of both. -/
theorem is_spec (hr : readB (n : Int) l = 0) (L : List Int) : ∃ (c : Int) (b : Bool), (b = true → ∃ f, BrB n l f ∧ L = listB n l f ∧ c = costF n (costW l) f) ∧ (b = false → c = 0 ∧ ∀ f, BrB n l f → L ≠ listB n l f) ∧
    (∀ k, 2000 ≤ k → branch_Is.f k (n : Int) l L = some (c, b, 0)) ∧ (∀ k, 2000 ≤ k → trishawref03_Is.f k (n : Int) l L = some (c, b, 0)) ∧ ∀ k, 2000 ≤ k → trishawref03_IsBranching.f k (n : Int) l L = some b := by
  obtain ⟨h2, h7, h30, hx⟩ := readB_ok hr
  have hn1 : 1 ≤ n := by omega
  have hn : n ≤ 7 := by omega
  have hw : wrap64 ((n : Int) - 1) = (n : Int) - 1 := by unfold wrap64; omega
  have hcode : ∀ k, branch_Is.f k (n : Int) l L = (branch_town_is.f k (n : Int) l L).bind fun bt115 => some (bt115.1, bt115.2, 0) := by
    intro k
    unfold branch_Is.f branch_read.f
    rw [hr, Option.bind_some, if_pos rfl]
  have href : ∀ k, 2000 ≤ k → trishawref03_Is.f k (n : Int) l L = (trishawref03_IsBranching.f k (n : Int) l L).bind fun t162 => (if t162 = true then ((trishawref03_cost.f k l L).bind fun t163 => (some (t163, true, 0))) else (some (0, false, 0))) := by
    intro k hk
    unfold trishawref03_Is.f
    rw [town_eq _ _ k (.inr (by omega)), hr, Option.bind_some, if_pos rfl]
  have hno : ¬ Full n l L → ∀ f, BrB n l f → L ≠ listB n l f := fun h f hf e => h ((full_iff hn1 hn hx L).2 ⟨f, hf, e⟩)
  by_cases hlen : (L.length : Int) = (n : Int) - 1
  · have hP0 : PreOk l L 0 := ⟨fun j hj => absurd hj (by omega), fun j hj => absurd hj (by omega), fun i j hi hj => absurd hj (by omega), fun j hj => absurd hj (by omega)⟩
    have hc := fun k => is_code hn1 hn hx h30 (L := L) (by omega) L.length 0 k (by omega) hP0
    have hf := fun k => is_ref hn1 hn hx h30 (L := L) (by omega) L.length 0 k (by omega) hP0
    have e1 : ∀ k, branch_town_is.f k (n : Int) l L = branch_town_is.l0 k L 0 1 L (L.length : Int) 0 (n : Int) l := fun k => by
      unfold branch_town_is.f; rw [hw, if_pos hlen]
    have e2 : ∀ k, trishawref03_IsBranching.f k (n : Int) l L = trishawref03_IsBranching.l0 k (n : Int) l L 1 0 := fun k => by
      unfold trishawref03_IsBranching.f; rw [hw, if_pos hlen]
    by_cases hP : PreOk l L L.length
    · have hin := preOk_in hx hP
      have hrc := fun k hk => reach_code hn1 hn hin (by omega) k hk
      have hrr := fun k hk => reach_ref hn1 hn hin (by omega) k hk
      have hall := all_reached hn1 hn hin
      have c1 : ∀ k, 2000 ≤ k → branch_town_is.f k (n : Int) l L = if ((itS l L n 1 : Nat) : Int) = 2 ^ n - 1 then some (costN l L L.length, true) else some (0, false) := by
        intro k hk
        have := (hc (k - 2 * L.length - 1)).1 hP
        rw [show k - 2 * L.length - 1 + 2 * L.length + 1 = k from by omega, hrc _ (by omega), Option.bind_some, everybody_f hn, Option.bind_some] at this
        rw [e1]
        exact this
      have c2 : ∀ k, 2000 ≤ k → trishawref03_IsBranching.f k (n : Int) l L = some (((itS l L n 1 : Nat) : Int) == 2 ^ n - 1) := by
        intro k hk
        have := (hf (k - 2 * L.length - 1)).1 hP
        rw [show k - 2 * L.length - 1 + 2 * L.length + 1 = k from by omega, hrr _ (by omega), Option.bind_some, everyone_ref hn] at this
        rw [e2]
        exact this
      have c3 : ∀ k, 2000 ≤ k → trishawref03_cost.f k l L = some (costN l L L.length) := by
        intro k hk
        have := cost_ref hx (L := L) (by omega) hP L.length 0 (k - L.length - 1) (by omega)
        rw [show k - L.length - 1 + L.length + 1 = k from by omega] at this
        unfold trishawref03_cost.f
        exact this
      by_cases hA : ((itS l L n 1 : Nat) : Int) = 2 ^ n - 1
      · have hF : Full n l L := ⟨by omega, hP, hall.1 hA⟩
        obtain ⟨f, hfB, e⟩ := (full_iff hn1 hn hx L).1 hF
        refine ⟨costN l L L.length, true, fun _ => ⟨f, hfB, e, ?_⟩, fun h => absurd h (by decide), fun k hk => ?_, fun k hk => ?_, fun k hk => ?_⟩
        · rw [e]; exact costN_list hfB
        · rw [hcode, c1 k hk, if_pos hA]; rfl
        · rw [href k hk, c2 k hk, beq_iff_eq.mpr hA, Option.bind_some, if_pos rfl, c3 k hk]; rfl
        · rw [c2 k hk, beq_iff_eq.mpr hA]
      · have hA2 : (((itS l L n 1 : Nat) : Int) == 2 ^ n - 1) = false := beq_eq_false_iff_ne.mpr hA
        refine ⟨0, false, fun h => absurd h (by decide), fun _ => ⟨rfl, hno fun hF => hA (hall.2 hF.all)⟩, fun k hk => ?_, fun k hk => ?_, fun k hk => ?_⟩
        · rw [hcode, c1 k hk, if_neg hA]; rfl
        · rw [href k hk, c2 k hk, hA2]; rfl
        · rw [c2 k hk, hA2]
    · refine ⟨0, false, fun h => absurd h (by decide), fun _ => ⟨rfl, hno fun hF => hP hF.pre⟩, fun k hk => ?_, fun k hk => ?_, fun k hk => ?_⟩
      · have := (hc (k - 2 * L.length - 1)).2 hP
        rw [show k - 2 * L.length - 1 + 2 * L.length + 1 = k from by omega] at this
        rw [hcode, e1]
        exact congrArg (fun x : Option (Int × Bool) => x.bind fun bt115 => some (bt115.1, bt115.2, (0 : Int))) this
      · have := (hf (k - 2 * L.length - 1)).2 hP
        rw [show k - 2 * L.length - 1 + 2 * L.length + 1 = k from by omega] at this
        rw [href k hk, e2]
        exact congrArg (fun x : Option Bool => x.bind fun t162 => (if t162 = true then ((trishawref03_cost.f k l L).bind fun t163 => (some (t163, true, (0 : Int)))) else (some (0, false, 0)))) this
      · have := (hf (k - 2 * L.length - 1)).2 hP
        rw [show k - 2 * L.length - 1 + 2 * L.length + 1 = k from by omega] at this
        rw [e2]
        exact this
  · refine ⟨0, false, fun h => absurd h (by decide), fun _ => ⟨rfl, hno fun hF => hlen (by have := hF.len; omega)⟩, fun k hk => ?_, fun k hk => ?_, fun k hk => ?_⟩
    · rw [hcode]; unfold branch_town_is.f; rw [hw, if_neg hlen]; rfl
    · rw [href k hk]; unfold trishawref03_IsBranching.f; rw [hw, if_neg hlen]; rfl
    · unfold trishawref03_IsBranching.f; rw [hw, if_neg hlen]
end
end Go.Proofs.Ytpmadffgdfholaa.B
namespace Go.Proofs.Ytpmadffgdfholaa.B
open Go.RowKit Go.Proofs.YtpmadffgdfholaaW.PrintWords Go.Proofs.YtpmadffgdfholaaW.PrintLast Go.Proofs.YtpmadffgdfholaaW.PrintMore
attribute [local go_sem] max2_int min2_int max_two min_two max_three min_three max_four min_four   -- for this text's walks alone
set_option linter.unusedVariables false
set_option linter.unusedSimpArgs false
def branch_Proof.f (k : Nat) (a0 : Int) (l1 : List (S30)) : Option ((List (S41)) × Int) := (branch_read.f a0 l1).bind fun t139 => (if t139 = 0 then ((branch_town_costs.f k a0 l1).bind fun t141 => ((branch_town_cheapest.f k a0 l1 t141 (fun i_ => branch_Proof_1.f i_)).bind fun bt144 => (if bt144.2.2 = true then (some (bt144.2.1, 0)) else (some (([] : List (S41)), 10))))) else (some (([] : List (S41)), t139)))
end Go.Proofs.Ytpmadffgdfholaa.B
namespace Go.Proofs.Ytpmadffgdfholaa.B
set_option linter.unusedVariables false
open Go.RowKit Go.Proofs.YtpmadffgdfholaaW.PrintWords Go.Proofs.YtpmadffgdfholaaW.PrintLast Go.Proofs.YtpmadffgdfholaaW.PrintMore
section
variable {n : Nat} {l : List S30} {f : Nat → Nat}
def costL (l : List S30) : List Int := l.map fun x => x.f2
theorem costL_length (l : List S30) : (costL l).length = l.length := by simp [costL]
theorem costL_rd (l : List S30) (i : Nat) (h : i < l.length) : rd (costL l) (i : Int) = costW l i := by
  simp [rd, costL, costW, rd_T30, List.getD, List.getElem?_eq_getElem h]
theorem costs_l0 (l : List S30) (hl : l.length < 1000) : ∀ (d q k : Nat), q + d = l.length → branch_town_costs.l0 (k + d + 1) ((costL l).take q) l (l.length : Int) (q : Int) = some (costL l)
  | 0, q, k, h => by
    rw [show k + 0 + 1 = k + 1 from rfl, branch_town_costs.l0, if_neg (by omega), List.take_of_length_le (by rw [costL_length]; omega)]
  | d + 1, q, k, h => by
    have hq : q < l.length := by omega
    have hw := wrap_nat q (by omega)
    have ih := costs_l0 l hl d (q + 1) k (by omega)
    rw [take_rdI (costL l) q (by rw [costL_length]; exact hq), costL_rd l q hq] at ih
    rw [show k + (d + 1) + 1 = (k + d + 1) + 1 from by omega, branch_town_costs.l0, if_pos (by omega), if_pos (by omega), if_pos (by omega), if_pos (by rw [List.length_take]; omega), hw]
    exact ih
theorem costs_f (n : Int) (l : List S30) (hl : l.length ≤ 30) (k : Nat) (hk : 40 ≤ k) : branch_town_costs.f k n l = some (costL l) := by
  have := costs_l0 l (by omega) l.length 0 (k - l.length - 1) (by omega)
  rw [show k - l.length - 1 + l.length + 1 = k from by omega] at this
  exact this
theorem cost_low (hx : ∀ x ∈ l, wayOk n x = true) (i : Nat) (h : i < l.length) : 0 ≤ costW l i ∧ costW l i ≤ 1000 := by
  have := (wayOk_iff n _).1 (hx _ (rd_T30_mem l i h))
  unfold costW
  omega
theorem FirstB.congr {p q : Nat → Int} {v : Int} (h : FirstB n l p v f) (e : ∀ i, i < l.length → p i = q i) : FirstB n l q v f := by
  have hc : ∀ g, BrB n l g → costF n p g = costF n q g := fun g hg => costF_congr fun c c0 c1 => e _ (hg.on c c0 c1).1
  exact ⟨h.is, (hc f h.is) ▸ h.cost, fun g hg => (hc g hg) ▸ h.least g hg, fun g hg hv => h.ahead g hg ((hc g hg).trans hv)⟩
/-- A refused town. -/
theorem refused_spec {n : Int} (hr : readB n l ≠ 0) (k : Nat) : branch_Branching.f k n l = some ([], 0, readB n l) ∧ branch_Dear.f k n l = some ([], 0, readB n l) ∧ branch_Proof.f k n l = some ([], readB n l) ∧ ∀ L, branch_Is.f k n l L = some (0, false, readB n l) := by
  unfold branch_Branching.f branch_Dear.f branch_Proof.f branch_Is.f branch_read.f
  refine ⟨?_, ?_, ?_, fun L => ?_⟩ <;> rw [Option.bind_some, if_neg hr]
end
end Go.Proofs.Ytpmadffgdfholaa.B
namespace Go.Proofs.Ytpmadffgdfholaa.B
set_option linter.unusedVariables false
open Go.RowKit Go.Proofs.YtpmadffgdfholaaW.PrintWords Go.Proofs.YtpmadffgdfholaaW.PrintLast Go.Proofs.YtpmadffgdfholaaW.PrintMore
section
variable {n : Nat} {l : List S30}
theorem fin_odd : ∀ s : Fin 128, (Int.tmod ((s.val : Nat) : Int) 2 == 0) = !s.val.testBit 0 := by decide +kernel
theorem setN_f (hn : n ≤ 7) (s : Int) : ∃ b, trishawref03_IsSet.f (n : Int) s = some b ∧ branch_town_isSet.f (n : Int) l s = some b ∧ (b = true ↔ IsSetN n s) := by
  obtain ⟨e, b, h1, h2⟩ := isSet_eq hn l s
  refine ⟨b, h1, e.trans h1, ?_⟩
  have e1 := fin_shl ⟨n, by omega⟩
  simp only [] at e1
  have hp : 2 ^ n ≤ 2 ^ 7 := Nat.pow_le_pow_right (by decide) hn
  have hz : ((2 : Int) ^ n) = ((2 ^ n : Nat) : Int) := by norm_cast
  unfold trishawref03_IsSet.f at h1
  unfold IsSetN
  rw [e1] at h1
  rw [hz]
  generalize 2 ^ n = p at hp h1
  by_cases h0 : s > 0
  · rw [if_pos h0, if_pos (by omega)] at h1
    by_cases h3 : s < (p : Int)
    · rw [if_pos h3] at h1
      have := fin_odd ⟨s.toNat, by omega⟩
      simp only [← int_nat (show 0 ≤ s by omega)] at this
      rw [this] at h1
      obtain rfl := Option.some.inj h1
      rw [Bool.not_eq_true']
      exact ⟨fun h => ⟨h0, h3, h⟩, fun h => h.2.2⟩
    · rw [if_neg h3] at h1
      obtain rfl := Option.some.inj h1
      exact ⟨fun h => absurd h (by decide), fun h => absurd h.2.1 h3⟩
  · rw [if_neg h0] at h1
    obtain rfl := Option.some.inj h1
    exact ⟨fun h => absurd h (by decide), fun h => absurd h.1 h0⟩
structure PrOk (n : Nat) (l : List S30) (ps : List S41) (left : List Int) (met : Int → Bool) : Prop where
  sets : ∀ p ∈ ps, IsSetN n p.f0 ∧ 1 ≤ p.f1 ∧ p.f1 ≤ 1000 ∧ met p.f0 = false
  apart : (ps.map fun p => p.f0).Nodup
  below : ∀ i : Nat, i < l.length → worthAt l i ps ≤ rd left (i : Int)
theorem worthAt_nonneg (l : List S30) (i : Nat) : ∀ ps : List S41, (∀ p ∈ ps, 1 ≤ p.f1) → 0 ≤ worthAt l i ps
  | [], _ => Int.le_refl _
  | p :: ps, h => by
    have := worthAt_nonneg l i ps (fun q hq => h q (List.mem_cons_of_mem _ hq))
    have := h p List.mem_cons_self
    simp only [worthAt]
    split <;> omega
theorem takeB_ok (w : Int) : ∀ (E left : List Int), (∀ x ∈ E, ∃ i : Nat, x = (i : Int) ∧ i < left.length) → E.Nodup → (∀ x ∈ E, w ≤ rd left x) → takeB left E w = some (some (subL w left E))
  | [], _, _, _, _ => rfl
  | x :: E, left, hE, hd, hw => by
    obtain ⟨i, rfl, hi⟩ := hE x List.mem_cons_self
    rw [List.nodup_cons] at hd
    rw [takeB, subL, if_pos ⟨by omega, by omega⟩, if_neg (by have := hw _ List.mem_cons_self; omega), Int.toNat_natCast]
    refine takeB_ok w E _ (fun y hy => by obtain ⟨t, e, ht⟩ := hE y (List.mem_cons_of_mem _ hy); exact ⟨t, e, by rw [List.length_set]; exact ht⟩) hd.2 fun y hy => ?_
    obtain ⟨t, rfl, ht⟩ := hE y (List.mem_cons_of_mem _ hy)
    have hne : t ≠ i := fun e => hd.1 (e ▸ hy)
    rw [rd_set left i t _ hi, if_neg hne]
    exact hw _ (List.mem_cons_of_mem _ hy)
theorem takeB_no (w : Int) : ∀ (E left : List Int), (∀ x ∈ E, ∃ i : Nat, x = (i : Int) ∧ i < left.length) → E.Nodup → (∃ x ∈ E, rd left x < w) → takeB left E w = some none
  | [], _, _, _, h => by obtain ⟨x, hx, _⟩ := h; exact absurd hx (by simp)
  | x :: E, left, hE, hd, hw => by
    obtain ⟨i, rfl, hi⟩ := hE x List.mem_cons_self
    rw [List.nodup_cons] at hd
    rw [takeB, if_pos ⟨by omega, by omega⟩]
    by_cases h : rd left (i : Int) < w
    · rw [if_pos h]
    · rw [if_neg h, Int.toNat_natCast]
      refine takeB_no w E _ (fun y hy => by obtain ⟨t, e, ht⟩ := hE y (List.mem_cons_of_mem _ hy); exact ⟨t, e, by rw [List.length_set]; exact ht⟩) hd.2 ?_
      obtain ⟨y, hy, hyw⟩ := hw
      rcases List.mem_cons.1 hy with e | hy
      · rw [e] at hyw; exact absurd hyw h
      · refine ⟨y, hy, ?_⟩
        obtain ⟨t, rfl, ht⟩ := hE y (List.mem_cons_of_mem _ hy)
        have hne : t ≠ i := fun e => hd.1 (e ▸ hy)
        rw [rd_set left i t _ hi, if_neg hne]
        exact hyw
theorem provesL_spec (hn : n ≤ 7) (hl : l.length ≤ 30) (hx : ∀ x ∈ l, wayOk n x = true) : ∀ (ps : List S41) (left : List Int) (met : Int → Bool) (worth : Int), ps.length ≤ 60 → left.length = l.length → (∀ i : Nat, i < l.length → 0 ≤ rd left (i : Int) ∧ rd left (i : Int) ≤ 1000) → 0 ≤ worth → worth + 1000 * ps.length ≤ 100000 →
    (PrOk n l ps left met → ∀ k, 40 ≤ k → provesL k (n : Int) l ps left met worth = some (worth + worthAll ps, true, 0)) ∧
    (¬ PrOk n l ps left met → ∀ k, 40 ≤ k → provesL k (n : Int) l ps left met worth = some (0, false, 0))
  | [], left, met, worth, _, _, hlow, _, _ => by
    refine ⟨fun _ k _ => by rw [provesL, worthAll, Int.add_zero], fun h => absurd ⟨fun p hp => absurd hp (by simp), by simp, fun i hi => (hlow i hi).1⟩ h⟩
  | p :: ps, left, met, worth, hlen, hleft, hlow, hw0, hwb => by
    obtain ⟨b, _, hb, hbi⟩ := setN_f (l := l) hn p.f0
    by_cases hbad : (!b || decide (p.f1 < 1) || decide (1000 < p.f1) || met p.f0) = true
    · refine ⟨fun h => ?_, fun _ k _ => by rw [provesL, hb, Option.bind_some, if_pos hbad]⟩
      exfalso
      obtain ⟨a1, a2, a3, a4⟩ := h.sets p List.mem_cons_self
      have hbt := hbi.2 a1
      rw [hbt, a4, decide_eq_false (by omega), decide_eq_false (by omega)] at hbad
      exact absurd hbad (by decide)
    · have hb2 : b = true ∧ 1 ≤ p.f1 ∧ p.f1 ≤ 1000 ∧ met p.f0 = false := by
        rw [Bool.not_eq_true, Bool.or_eq_false_iff, Bool.or_eq_false_iff, Bool.or_eq_false_iff] at hbad
        obtain ⟨⟨⟨c1, c2⟩, c3⟩, c4⟩ := hbad
        have d2 := of_decide_eq_false c2
        have d3 := of_decide_eq_false c3
        exact ⟨by simpa using c1, by omega, by omega, c4⟩
      obtain ⟨c1, c2, c3, c4⟩ := hb2
      have hset := hbi.1 c1
      have hp7 : (2 : Int) ^ n ≤ 128 := by
        have : 2 ^ n ≤ 2 ^ 7 := Nat.pow_le_pow_right (by decide) hn
        have hz : ((2 : Int) ^ n) = ((2 ^ n : Nat) : Int) := by norm_cast
        rw [hz]; omega
      obtain ⟨q, hq⟩ : ∃ q : Nat, p.f0 = (q : Int) := Int.eq_ofNat_of_zero_le (by have := hset.1; omega)
      have hq7 : q < 128 := by have := hset.2.1; omega
      have hE := fun k (hk : 40 ≤ k) => entering_f (n := n) hn hl hx hq7 k hk
      have hEn : ∀ x ∈ entL l q, ∃ i : Nat, x = (i : Int) ∧ i < left.length := fun x hxE => by
        obtain ⟨i, e, hi⟩ := entL_nat l q x hxE
        exact ⟨i, e, by rw [hleft]; exact hi⟩
      have hEd := entL_nodup l q
      have hEl := entL_length l q
      have hstep : ∀ k, 40 ≤ k → provesL k (n : Int) l (p :: ps) left met worth = (takeB left (entL l q) p.f1).bind fun o => match o with
        | none => some (0, false, 0)
        | some left' => provesL k n l ps left' (fun j => decide (j = p.f0) || met j) (wrap64 (worth + p.f1)) := by
        intro k hk
        rw [provesL, hb, Option.bind_some, if_neg hbad, hq, hE k hk, Option.bind_some, if_pos (by omega)]
        rcases takeB left (entL l q) p.f1 with _ | _ | _ <;> rfl
      by_cases htake : ∀ x ∈ entL l q, p.f1 ≤ rd left x
      · have htk := takeB_ok p.f1 (entL l q) left hEn hEd htake
        have hwr : ∀ x ∈ entL l q, wrap64 (rd left x - p.f1) = rd left x - p.f1 := by
          intro x hxE
          obtain ⟨i, rfl, hi⟩ := hEn x hxE
          have := hlow i (by omega)
          unfold wrap64; omega
        have hrd := subL_rd p.f1 (entL l q) left hEn hEd hwr
        have hrd2 : ∀ i : Nat, i < l.length → rd (subL p.f1 left (entL l q)) (i : Int) = rd left (i : Int) - if entB l p.f0.toNat i = true then p.f1 else 0 := by
          intro i hi
          rw [hrd i, hq, Int.toNat_natCast]
          by_cases he : entB l q i = true
          · rw [if_pos ((entL_mem l q i).2 ⟨hi, he⟩), if_pos he]
          · rw [if_neg (fun h => he ((entL_mem l q i).1 h).2), if_neg he]; omega
        have hlow2 : ∀ i : Nat, i < l.length → 0 ≤ rd (subL p.f1 left (entL l q)) (i : Int) ∧ rd (subL p.f1 left (entL l q)) (i : Int) ≤ 1000 := by
          intro i hi
          have h1 := hlow i hi
          rw [hrd2 i hi, hq, Int.toNat_natCast]
          by_cases he : entB l q i = true
          · rw [if_pos he]
            have := htake _ ((entL_mem l q i).2 ⟨hi, he⟩)
            omega
          · rw [if_neg he]; omega
        have hw64 : wrap64 (worth + p.f1) = worth + p.f1 := by
          rw [List.length_cons] at hwb
          unfold wrap64; omega
        have ih := provesL_spec hn hl hx ps (subL p.f1 left (entL l q)) (fun j => decide (j = p.f0) || met j) (worth + p.f1) (by rw [List.length_cons] at hlen; omega) (by rw [subL_length]; exact hleft) hlow2 (by omega) (by rw [List.length_cons] at hwb; omega)
        have hiff : PrOk n l (p :: ps) left met ↔ PrOk n l ps (subL p.f1 left (entL l q)) (fun j => decide (j = p.f0) || met j) := by
          constructor
          · intro h
            have hd := h.apart
            rw [List.map_cons, List.nodup_cons] at hd
            refine ⟨fun r hr => ?_, hd.2, fun i hi => ?_⟩
            · obtain ⟨a1, a2, a3, a4⟩ := h.sets r (List.mem_cons_of_mem _ hr)
              refine ⟨a1, a2, a3, ?_⟩
              rw [a4, Bool.or_false]
              exact decide_eq_false fun e => hd.1 (e ▸ List.mem_map.2 ⟨r, hr, rfl⟩)
            · have := h.below i hi
              simp only [worthAt] at this
              rw [hrd2 i hi]
              omega
          · intro h
            refine ⟨fun r hr => ?_, ?_, fun i hi => ?_⟩
            · rcases List.mem_cons.1 hr with rfl | hr
              · exact ⟨hset, c2, c3, c4⟩
              · obtain ⟨a1, a2, a3, a4⟩ := h.sets r hr
                exact ⟨a1, a2, a3, (Bool.or_eq_false_iff.1 a4).2⟩
            · rw [List.map_cons, List.nodup_cons]
              refine ⟨fun hm => ?_, h.apart⟩
              obtain ⟨r, hr, e⟩ := List.mem_map.1 hm
              have := (Bool.or_eq_false_iff.1 (h.sets r hr).2.2.2).1
              exact of_decide_eq_false this e
            · have := h.below i hi
              rw [hrd2 i hi] at this
              simp only [worthAt]
              omega
        constructor
        · intro h k hk
          rw [hstep k hk, htk, Option.bind_some, hw64]
          refine (ih.1 (hiff.1 h) k hk).trans ?_
          simp only [worthAll]
          rw [show worth + p.f1 + worthAll ps = worth + (worthAll ps + p.f1) by omega]
        · intro h k hk
          rw [hstep k hk, htk, Option.bind_some, hw64]
          exact ih.2 (fun h2 => h (hiff.2 h2)) k hk
      · have hno : ∃ x ∈ entL l q, rd left x < p.f1 := by
          refine Classical.byContradiction fun hh => htake fun x hxE => ?_
          exact Classical.byContradiction fun h2 => hh ⟨x, hxE, by omega⟩
        have htk := takeB_no p.f1 (entL l q) left hEn hEd hno
        refine ⟨fun h => ?_, fun _ k hk => by rw [hstep k hk, htk, Option.bind_some]⟩
        exfalso
        obtain ⟨x, hxE, hxw⟩ := hno
        obtain ⟨i, rfl, hi⟩ := entL_nat l q x hxE
        have h1 := h.below i hi
        have h2 := worthAt_nonneg l i ps (fun r hr => (h.sets r (List.mem_cons_of_mem _ hr)).2.1)
        simp only [worthAt] at h1
        rw [hq, Int.toNat_natCast, if_pos ((entL_mem l q i).1 hxE).2] at h1
        omega
/-- Proves. -/
theorem proves_spec (hr : readB (n : Int) l = 0) (ps : List S41) (hps : ps.length ≤ 60) :
    (ProofOk n l (fun i => i < l.length) (costL l) ps (worthAll ps) → ∀ k, 40 ≤ k → branch_Proves.f k (n : Int) l ps = some (worthAll ps, true, 0)) ∧
    (¬ ProofOk n l (fun i => i < l.length) (costL l) ps (worthAll ps) → ∀ k, 40 ≤ k → branch_Proves.f k (n : Int) l ps = some (0, false, 0)) := by
  obtain ⟨h2, h7, h30, hx⟩ := readB_ok hr
  have hlow : ∀ i : Nat, i < l.length → 0 ≤ rd (costL l) (i : Int) ∧ rd (costL l) (i : Int) ≤ 1000 := fun i hi => by rw [costL_rd l i hi]; exact cost_low hx i hi
  have h := provesL_spec (n := n) (by omega) h30 hx ps (costL l) (fun _ => false) 0 hps (costL_length l) hlow (by omega) (by omega)
  have hiff : PrOk n l ps (costL l) (fun _ => false) ↔ ProofOk n l (fun i => i < l.length) (costL l) ps (worthAll ps) :=
    ⟨fun h => ⟨fun p hp => ⟨(h.sets p hp).1, (h.sets p hp).2.1, (h.sets p hp).2.2.1⟩, h.apart, rfl, h.below⟩, fun h => ⟨fun p hp => ⟨(h.sets p hp).1, (h.sets p hp).2.1, (h.sets p hp).2.2, rfl⟩, h.apart, h.below⟩⟩
  have hstep : ∀ k, 40 ≤ k → branch_Proves.f k (n : Int) l ps = provesL k (n : Int) l ps (costL l) (fun _ => false) 0 := by
    intro k hk
    unfold branch_Proves.f
    rw [if_pos (by omega), if_pos hr, costs_f _ l h30 k hk, Option.bind_some]
  rw [← hiff]
  refine ⟨fun hh k hk => ?_, fun hh k hk => (hstep k hk).trans (h.2 hh k hk)⟩
  rw [hstep k hk, h.1 hh k hk, Int.zero_add]
theorem proves_refused {n : Int} (hr : readB n l ≠ 0) (ps : List S41) (hps : ps.length ≤ 60) (k : Nat) : branch_Proves.f k n l ps = some (0, false, readB n l) := by
  unfold branch_Proves.f
  rw [if_pos (by omega), if_neg hr]
end
end Go.Proofs.Ytpmadffgdfholaa.B
namespace Go.Proofs.Ytpmadffgdfholaa.B
set_option linter.unusedVariables false
open Go.RowKit Go.Proofs.YtpmadffgdfholaaW.PrintWords Go.Proofs.YtpmadffgdfholaaW.PrintLast Go.Proofs.YtpmadffgdfholaaW.PrintMore
section
variable {n : Nat} {l : List S30}
theorem rd_T41_mem (ps : List S41) (i : Nat) (h : i < ps.length) : rd_T41 ps (i : Int) ∈ ps := by
  simp [rd_T41, List.getD, List.getElem?_eq_getElem h]
def OkPr (n : Nat) (p : S41) : Prop := IsSetN n p.f0 ∧ 1 ≤ p.f1 ∧ p.f1 ≤ 1000
theorem rp_l3 (ps : List S41) (hl : ps.length ≤ 60) (hp : ∀ p ∈ ps, OkPr n p) : ∀ (d q k : Nat) (acc : Int), q + d = ps.length → 0 ≤ acc → acc ≤ 1000 * q → trishawref03_Proves.l3 (k + d + 1) ps acc (q : Int) = some (acc + worthAll (ps.drop q), true, 0)
  | 0, q, k, acc, h, _, _ => by
    rw [show k + 0 + 1 = k + 1 from rfl, trishawref03_Proves.l3, if_neg (by omega), List.drop_eq_nil_of_le (by omega)]
    simp [worthAll]
  | d + 1, q, k, acc, h, h0, h1 => by
    have hq : q < ps.length := by omega
    have hw := wrap_nat q (by omega)
    have ho := hp _ (rd_T41_mem ps q hq)
    have ih := rp_l3 ps hl hp d (q + 1) k (acc + (rd_T41 ps (q : Int)).f1) (by omega) (by have := ho.2; omega) (by have := ho.2; omega)
    rw [show k + (d + 1) + 1 = (k + d + 1) + 1 from by omega, trishawref03_Proves.l3, if_pos (by omega), if_pos (by omega), hw]
    rw [show wrap64 (acc + (rd_T41 ps (q : Int)).f1) = acc + (rd_T41 ps (q : Int)).f1 from by have := ho.2; unfold wrap64; omega, ih, drop_rd41 ps q hq]
    simp only [worthAll]
    rw [show acc + (rd_T41 ps (q : Int)).f1 + worthAll (ps.drop (q + 1)) = acc + (worthAll (ps.drop (q + 1)) + (rd_T41 ps (q : Int)).f1) by omega]
theorem enters_f (hn : n ≤ 7) {x : S30} (hx : wayOk n x = true) {s : Int} (hs : IsSetN n s) : trishawref03_Enters.f x.f0 x.f1 x.f2 s = some (!s.toNat.testBit x.f0.toNat && s.toNat.testBit x.f1.toNat) := by
  obtain ⟨h1, h2, h3, h4, _⟩ := (wayOk_iff n x).1 hx
  have hp7 : (2 : Int) ^ n ≤ 128 := by
    have : 2 ^ n ≤ 2 ^ 7 := Nat.pow_le_pow_right (by decide) hn
    have hz : ((2 : Int) ^ n) = ((2 ^ n : Nat) : Int) := by norm_cast
    rw [hz]; omega
  obtain ⟨q, rfl⟩ := Int.eq_ofNat_of_zero_le (show 0 ≤ s by have := hs.1; omega)
  have hq : q < 128 := by have := hs.2.1; omega
  have f1 := fin_mod ⟨q, hq⟩ ⟨x.f0.toNat, by omega⟩
  have f2 := fin_mod ⟨q, hq⟩ ⟨x.f1.toNat, by omega⟩
  simp only [← int_nat h1, ← int_nat h3] at f1 f2
  unfold trishawref03_Enters.f
  rw [if_pos h1, f1, f2, if_pos h3, Int.toNat_natCast]
  cases q.testBit x.f0.toNat <;> cases q.testBit x.f1.toNat <;> rfl
theorem rp_l2 (hn : n ≤ 7) (hx : ∀ x ∈ l, wayOk n x = true) (ps : List S41) (hl : ps.length ≤ 60) (hp : ∀ p ∈ ps, OkPr n p) (i : Nat) (hi : i < l.length) : ∀ (d q k : Nat) (left : Int), q + d = ps.length → 0 ≤ left → left ≤ 1000 →
    (worthAt l i (ps.drop q) ≤ left → trishawref03_Proves.l2 (k + d + 1) l ps (i : Int) left (q : Int) = trishawref03_Proves.l1 k l ps (wrap64 ((i : Int) + 1))) ∧
    (¬ worthAt l i (ps.drop q) ≤ left → trishawref03_Proves.l2 (k + d + 1) l ps (i : Int) left (q : Int) = some (0, false, 0))
  | 0, q, k, left, h, h0, _ => by
    rw [show k + 0 + 1 = k + 1 from rfl, trishawref03_Proves.l2, if_neg (by omega), List.drop_eq_nil_of_le (by omega)]
    exact ⟨fun _ => rfl, fun hh => absurd h0 hh⟩
  | d + 1, q, k, left, h, h0, h1 => by
    have hq : q < ps.length := by omega
    have hw := wrap_nat q (by omega)
    have ho := hp _ (rd_T41_mem ps q hq)
    have hen := enters_f hn (hx _ (rd_T30_mem l i hi)) ho.1
    have hnn := worthAt_nonneg l i (ps.drop (q + 1)) (fun p hp' => (hp p (List.mem_of_mem_drop hp')).2.1)
    have he : (!(rd_T41 ps (q : Int)).f0.toNat.testBit (rd_T30 l (i : Int)).f0.toNat && (rd_T41 ps (q : Int)).f0.toNat.testBit (rd_T30 l (i : Int)).f1.toNat) = entB l (rd_T41 ps (q : Int)).f0.toNat i := rfl
    rw [he] at hen
    rw [show k + (d + 1) + 1 = (k + d + 1) + 1 from by omega, trishawref03_Proves.l2, if_pos (by omega), if_pos (by omega), if_pos (by omega), if_pos (by omega), hen, Option.bind_some, drop_rd41 ps q hq, hw]
    simp only [worthAt]
    by_cases hb : entB l (rd_T41 ps (q : Int)).f0.toNat i = true
    · rw [if_pos hb, if_pos hb]
      by_cases hgt : (rd_T41 ps (q : Int)).f1 > left
      · rw [if_pos hgt]
        exact ⟨fun hh => by omega, fun _ => rfl⟩
      · rw [if_neg hgt, show wrap64 (left - (rd_T41 ps (q : Int)).f1) = left - (rd_T41 ps (q : Int)).f1 from by have := ho.2; unfold wrap64; omega]
        obtain ⟨a, b⟩ := rp_l2 hn hx ps hl hp i hi d (q + 1) k (left - (rd_T41 ps (q : Int)).f1) (by omega) (by omega) (by have := ho.2; omega)
        exact ⟨fun hh => a (by omega), fun hh => b (by omega)⟩
    · rw [if_neg hb, if_neg hb]
      obtain ⟨a, b⟩ := rp_l2 hn hx ps hl hp i hi d (q + 1) k left (by omega) h0 h1
      exact ⟨fun hh => a (by omega), fun hh => b (by omega)⟩
theorem rp_l1 (hn : n ≤ 7) (hx : ∀ x ∈ l, wayOk n x = true) (hll : l.length ≤ 30) (ps : List S41) (hl : ps.length ≤ 60) (hp : ∀ p ∈ ps, OkPr n p) : ∀ (d i k : Nat), i + d = l.length →
    ((∀ j, i ≤ j → j < l.length → worthAt l j ps ≤ costW l j) → trishawref03_Proves.l1 (k + (ps.length + 2) * d + 1) l ps (i : Int) = trishawref03_Proves.l3 k ps 0 0) ∧
    (¬ (∀ j, i ≤ j → j < l.length → worthAt l j ps ≤ costW l j) → trishawref03_Proves.l1 (k + (ps.length + 2) * d + 1) l ps (i : Int) = some (0, false, 0))
  | 0, i, k, h => by
    rw [show k + (ps.length + 2) * 0 + 1 = k + 1 from by omega, trishawref03_Proves.l1, if_neg (by omega)]
    exact ⟨fun _ => rfl, fun hh => absurd (fun j hj hj2 => by omega) hh⟩
  | d + 1, i, k, h => by
    have hi : i < l.length := by omega
    have hw := wrap_nat i (by omega)
    have hc := cost_low hx i hi
    obtain ⟨ih1, ih2⟩ := rp_l1 hn hx hll ps hl hp d (i + 1) k (by omega)
    obtain ⟨a, b⟩ := rp_l2 hn hx ps hl hp i hi ps.length 0 (k + (ps.length + 2) * d + 1) (costW l i) (by omega) hc.1 hc.2
    rw [List.drop_zero, hw] at a
    rw [List.drop_zero] at b
    rw [show k + (ps.length + 2) * (d + 1) + 1 = (k + (ps.length + 2) * d + 1 + ps.length + 1) + 1 from by rw [Nat.mul_succ]; omega, trishawref03_Proves.l1, if_pos (by omega), if_pos (by omega)]
    show (_ → trishawref03_Proves.l2 _ l ps (i : Int) (costW l i) ((0 : Nat) : Int) = _) ∧ (_ → trishawref03_Proves.l2 _ l ps (i : Int) (costW l i) ((0 : Nat) : Int) = _)
    by_cases hle : worthAt l i ps ≤ costW l i
    · rw [a hle]
      refine ⟨fun hh => ih1 fun j hj hj2 => hh j (by omega) hj2, fun hh => ih2 fun h2 => hh fun j hj hj2 => ?_⟩
      by_cases e : j = i
      · subst e; exact hle
      · exact h2 j (by omega) hj2
    · rw [b hle]
      exact ⟨fun hh => absurd (hh i (Nat.le_refl _) hi) hle, fun _ => rfl⟩
/-- The sets from q on are right, and new. -/
structure SetsOk (n : Nat) (ps : List S41) (met : Int → Prop) : Prop where
  ok : ∀ p ∈ ps, OkPr n p ∧ ¬ met p.f0
  apart : (ps.map fun p => p.f0).Nodup
theorem rp_l0 (hn : n ≤ 7) (ps : List S41) (hl : ps.length ≤ 60) : ∀ (d q k : Nat) (mt : List Bool), q + d = ps.length → mt.length = 2 ^ n →
    (SetsOk n (ps.drop q) (fun s => rdOf false mt s = true) → trishawref03_Proves.l0 (k + 2 * d + 1) (n : Int) l ps mt (q : Int) = trishawref03_Proves.l1 k l ps 0) ∧
    (¬ SetsOk n (ps.drop q) (fun s => rdOf false mt s = true) → trishawref03_Proves.l0 (k + 2 * d + 1) (n : Int) l ps mt (q : Int) = some (0, false, 0))
  | 0, q, k, mt, h, hm => by
    rw [show k + 2 * 0 + 1 = k + 1 from rfl, trishawref03_Proves.l0, if_neg (by omega), List.drop_eq_nil_of_le (by omega)]
    exact ⟨fun _ => rfl, fun hh => absurd ⟨fun p hp => absurd hp (by simp), by simp⟩ hh⟩
  | d + 1, q, k, mt, h, hm => by
    have hq : q < ps.length := by omega
    have hw := wrap_nat q (by omega)
    obtain ⟨b, hb, _, hbi⟩ := setN_f (l := l) hn (rd_T41 ps (q : Int)).f0
    have hz : ((2 : Int) ^ n) = ((2 ^ n : Nat) : Int) := by norm_cast
    rw [show k + 2 * (d + 1) + 1 = (k + 2 * d + 1) + 1 + 1 from by omega, trishawref03_Proves.l0, if_pos (by omega), if_pos (by omega), hb, Option.bind_some, drop_rd41 ps q hq]
    have hbad : ∀ mt', trishawref03_Proves.j1 (k + 2 * d + 1 + 1) (n : Int) l ps mt' (q : Int) true = some (0, false, 0) := fun mt' => by rw [trishawref03_Proves.j1, if_pos rfl]
    cases b with
    | false =>
      rw [if_neg (by decide), hbad]
      refine ⟨fun hS => ?_, fun _ => rfl⟩
      have := hbi.2 (hS.ok _ List.mem_cons_self).1.1
      exact absurd this (by decide)
    | true =>
      have hset := hbi.1 rfl
      have hs0 := hset.1
      have hs1 := hset.2.1
      rw [if_pos rfl, if_pos (by omega), if_pos (by rw [hm]; omega)]
      by_cases hmet : rdOf false mt (rd_T41 ps (q : Int)).f0 = true
      · rw [if_pos hmet, hbad]
        exact ⟨fun hS => absurd hmet (hS.ok _ List.mem_cons_self).2, fun _ => rfl⟩
      · rw [if_neg hmet]
        by_cases hw1 : (rd_T41 ps (q : Int)).f1 < 1
        · rw [if_pos hw1, hbad]
          exact ⟨fun hS => by have := (hS.ok _ List.mem_cons_self).1.2.1; omega, fun _ => rfl⟩
        · rw [if_neg hw1]
          by_cases hw2 : (rd_T41 ps (q : Int)).f1 > 1000
          · rw [decide_eq_true hw2, hbad]
            exact ⟨fun hS => by have := (hS.ok _ List.mem_cons_self).1.2.2; omega, fun _ => rfl⟩
          · rw [decide_eq_false hw2, trishawref03_Proves.j1, if_neg (by decide), if_pos (by omega), if_pos (by omega), if_pos (by omega), if_pos (by rw [hm]; omega), hw]
            obtain ⟨a, c⟩ := rp_l0 hn ps hl d (q + 1) k (mt.set (rd_T41 ps (q : Int)).f0.toNat true) (by omega) (by rw [List.length_set]; exact hm)
            obtain ⟨s, hs⟩ := Int.eq_ofNat_of_zero_le (show 0 ≤ (rd_T41 ps (q : Int)).f0 by omega)
            have hrd : ∀ t : Nat, rdOf false (mt.set s true) (t : Int) = true ↔ t = s ∨ rdOf false mt (t : Int) = true := by
              intro t
              have hsl : s < mt.length := by rw [hm]; omega
              simp only [rdOf, Int.toNat_natCast, List.getD, List.getElem?_set]
              by_cases e : s = t
              · subst e; simp [hsl]
              · rw [if_neg e]
                exact ⟨.inr, fun hh => hh.resolve_left fun h2 => e h2.symm⟩
            have hiff : SetsOk n (rd_T41 ps (q : Int) :: ps.drop (q + 1)) (fun s => rdOf false mt s = true) ↔ SetsOk n (ps.drop (q + 1)) (fun s_1 => rdOf false (mt.set (rd_T41 ps (q : Int)).f0.toNat true) s_1 = true) := by
              rw [hs, Int.toNat_natCast]
              constructor
              · intro hS
                have hd := hS.apart
                rw [List.map_cons, List.nodup_cons] at hd
                refine ⟨fun p hp => ?_, hd.2⟩
                obtain ⟨o1, o2⟩ := hS.ok p (List.mem_cons_of_mem _ hp)
                refine ⟨o1, fun hh => ?_⟩
                obtain ⟨t, ht⟩ := Int.eq_ofNat_of_zero_le (show 0 ≤ p.f0 by have := o1.1.1; omega)
                rw [ht] at hh o2
                rcases (hrd t).1 hh with e | e
                · exact hd.1 (List.mem_map.2 ⟨p, hp, by omega⟩)
                · exact o2 e
              · intro hS
                refine ⟨fun p hp => ?_, ?_⟩
                · rcases List.mem_cons.1 hp with rfl | hp
                  · exact ⟨⟨hset, by omega, by omega⟩, hmet⟩
                  · obtain ⟨o1, o2⟩ := hS.ok p hp
                    refine ⟨o1, fun hh => o2 ?_⟩
                    obtain ⟨t, ht⟩ := Int.eq_ofNat_of_zero_le (show 0 ≤ p.f0 by have := o1.1.1; omega)
                    rw [ht] at hh ⊢
                    exact (hrd t).2 (.inr hh)
                · rw [List.map_cons, List.nodup_cons]
                  refine ⟨fun hm2 => ?_, hS.apart⟩
                  obtain ⟨p, hp, e⟩ := List.mem_map.1 hm2
                  refine (hS.ok p hp).2 ?_
                  have e2 : p.f0 = (s : Int) := e.trans hs
                  show rdOf false (mt.set s true) p.f0 = true
                  rw [e2]
                  exact (hrd s).2 (.inl rfl)
            exact ⟨fun hS => a (hiff.1 hS), fun hS => c fun h2 => hS (hiff.2 h2)⟩
/-- Proves of the reference. -/
theorem proves_ref (hr : readB (n : Int) l = 0) (ps : List S41) (hps : ps.length ≤ 60) :
    (ProofOk n l (fun i => i < l.length) (costL l) ps (worthAll ps) → ∀ k, 3000 ≤ k → trishawref03_Proves.f k (n : Int) l ps = some (worthAll ps, true, 0)) ∧
    (¬ ProofOk n l (fun i => i < l.length) (costL l) ps (worthAll ps) → ∀ k, 3000 ≤ k → trishawref03_Proves.f k (n : Int) l ps = some (0, false, 0)) := by
  obtain ⟨h2, h7, h30, hx⟩ := readB_ok hr
  have hn : n ≤ 7 := by omega
  have e1 := fin_shl ⟨n, by omega⟩
  simp only [] at e1
  have hp7 : 2 ^ n ≤ 2 ^ 7 := Nat.pow_le_pow_right (by decide) hn
  have hm : (List.replicate (2 ^ n) false).length = 2 ^ n := by simp
  have hmet : ∀ s : Int, ¬ rdOf false (List.replicate (2 ^ n) false) s = true := by
    intro s
    unfold rdOf
    rw [List.getD_eq_getElem?_getD, List.getElem?_replicate]
    split <;> simp
  have hstep : ∀ k, 3000 ≤ k → trishawref03_Proves.f k (n : Int) l ps = trishawref03_Proves.l0 k (n : Int) l ps (List.replicate (2 ^ n) false) 0 := by
    intro k hk
    unfold trishawref03_Proves.f
    rw [town_eq _ _ k (.inr (by omega)), hr, Option.bind_some, if_pos rfl, e1, if_pos (by omega), if_pos (by omega), Int.toNat_natCast, if_pos (by omega)]
  have h0 := fun k => rp_l0 (l := l) hn ps hps ps.length 0 k (List.replicate (2 ^ n) false) (by omega) hm
  rw [List.drop_zero] at h0
  by_cases hS : SetsOk n ps (fun s => rdOf false (List.replicate (2 ^ n) false) s = true)
  · have hp : ∀ p ∈ ps, OkPr n p := fun p hp => (hS.ok p hp).1
    have h1 := fun k => rp_l1 hn hx h30 ps hps hp l.length 0 k (by omega)
    have hb : (ps.length + 2) * l.length ≤ 62 * 30 := Nat.mul_le_mul (by omega) h30
    have hgo : ∀ k, 3000 ≤ k → trishawref03_Proves.f k (n : Int) l ps = trishawref03_Proves.l1 (k - 2 * ps.length - 1) l ps 0 := by
      intro k hk
      have := (h0 (k - 2 * ps.length - 1)).1 hS
      rw [show k - 2 * ps.length - 1 + 2 * ps.length + 1 = k from by omega] at this
      rw [hstep k hk]
      exact this
    by_cases hA : ∀ j, 0 ≤ j → j < l.length → worthAt l j ps ≤ costW l j
    · have hP : ProofOk n l (fun i => i < l.length) (costL l) ps (worthAll ps) := ⟨hp, hS.apart, rfl, fun i hi => by rw [costL_rd l i hi]; exact hA i (by omega) hi⟩
      refine ⟨fun _ k hk => ?_, fun h => absurd hP h⟩
      have := (h1 (k - 2 * ps.length - 1 - (ps.length + 2) * l.length - 1)).1 hA
      rw [show k - 2 * ps.length - 1 - (ps.length + 2) * l.length - 1 + (ps.length + 2) * l.length + 1 = k - 2 * ps.length - 1 from by omega] at this
      have h3 := rp_l3 ps hps hp ps.length 0 (k - 2 * ps.length - 1 - (ps.length + 2) * l.length - 1 - ps.length - 1) 0 (by omega) (by omega) (by omega)
      rw [show k - 2 * ps.length - 1 - (ps.length + 2) * l.length - 1 - ps.length - 1 + ps.length + 1 = k - 2 * ps.length - 1 - (ps.length + 2) * l.length - 1 from by omega, List.drop_zero, Int.zero_add] at h3
      rw [hgo k hk]
      exact this.trans h3
    · refine ⟨fun hP => absurd (fun j _ hj => by have := hP.below j hj; rwa [costL_rd l j hj] at this) hA, fun _ k hk => ?_⟩
      have := (h1 (k - 2 * ps.length - 1 - (ps.length + 2) * l.length - 1)).2 hA
      rw [show k - 2 * ps.length - 1 - (ps.length + 2) * l.length - 1 + (ps.length + 2) * l.length + 1 = k - 2 * ps.length - 1 from by omega] at this
      rw [hgo k hk]
      exact this
  · refine ⟨fun hP => absurd ⟨fun p hp => ⟨hP.sets p hp, hmet _⟩, hP.apart⟩ hS, fun _ k hk => ?_⟩
    have := (h0 (k - 2 * ps.length - 1)).2 hS
    rw [show k - 2 * ps.length - 1 + 2 * ps.length + 1 = k from by omega] at this
    rw [hstep k hk]
    exact this
theorem ref_refused {n : Int} (hr : readB n l ≠ 0) (k : Nat) (hk : 62 ≤ k) : (∀ L, trishawref03_Is.f k n l L = some (0, false, readB n l)) ∧ ∀ ps, trishawref03_Proves.f k n l ps = some (0, false, readB n l) := by
  unfold trishawref03_Is.f trishawref03_Proves.f
  refine ⟨fun L => ?_, fun ps => ?_⟩ <;> rw [town_eq _ _ k (.inr hk), Option.bind_some, if_neg hr]
end
end Go.Proofs.Ytpmadffgdfholaa.B
namespace Go.Proofs.Ytpmadffgdfholaa.Pure
set_option linter.unusedVariables false
open Go.RowKit Go.Proofs.Ytpmadffgdfholaa.B Go.Proofs.YtpmadffgdfholaaW.PrintWords Go.Proofs.YtpmadffgdfholaaW.PrintLast Go.Proofs.YtpmadffgdfholaaW.PrintMore
theorem BranchIs : trishawlaw03_BranchIs.Pure := by
  intro a0 l1 l2 l3 _ _ _ _ _ _ _
  obtain ⟨q, hq⟩ : ∃ q, q = 4000 := ⟨_, rfl⟩
  refine ⟨q + 2, ?_⟩
  have al := fun k hk => alive_from k hk
  have hj : trishawlaw03_BranchIs.j0 (q + 2) a0 l1 l2 l3 true = some true := by
    rw [trishawlaw03_BranchIs.j0, if_pos rfl, al _ (by omega)]; rfl
  unfold trishawlaw03_BranchIs.f
  by_cases hf : (l1.length : Int) ≤ 60
  case neg => unfold trishawlaw03_few.f; rw [if_neg hf, Option.bind_some, if_neg (by decide)]; exact hj
  by_cases hf2 : (l2.length : Int) ≤ 60
  case neg => unfold trishawlaw03_few.f; rw [if_pos hf, Option.bind_some, decide_eq_false hf2, if_neg (by decide)]; exact hj
  have hfew : trishawlaw03_few.f l1 l2 = some true := by unfold trishawlaw03_few.f; rw [if_pos hf, decide_eq_true hf2]
  rw [hfew, Option.bind_some, if_pos rfl]
  by_cases hf3 : (l3.length : Int) > 60
  · rw [decide_eq_true hf3]; exact hj
  have his : ∃ c b e, branch_Is.f (q + 1) a0 l1 l2 = some (c, b, e) ∧ trishawref03_Is.f (q + 1) a0 l1 l2 = some (c, b, e) := by
    by_cases hr : readB a0 l1 = 0
    · obtain ⟨h2, h7, h30, hx⟩ := readB_ok hr
      obtain ⟨n, rfl⟩ := Int.eq_ofNat_of_zero_le (show 0 ≤ a0 by omega)
      obtain ⟨c, b, _, _, i3, i4, _⟩ := is_spec hr l2
      exact ⟨c, b, 0, i3 _ (by omega), i4 _ (by omega)⟩
    · exact ⟨_, _, _, (refused_spec hr (q + 1)).2.2.2 l2, (ref_refused hr (q + 1) (by omega)).1 l2⟩
  have hpr : ∃ c b e, branch_Proves.f q a0 l1 l3 = some (c, b, e) ∧ trishawref03_Proves.f q a0 l1 l3 = some (c, b, e) := by
    by_cases hr : readB a0 l1 = 0
    · obtain ⟨h2, h7, h30, hx⟩ := readB_ok hr
      obtain ⟨n, rfl⟩ := Int.eq_ofNat_of_zero_le (show 0 ≤ a0 by omega)
      obtain ⟨p1, p2⟩ := proves_spec hr l3 (by omega)
      obtain ⟨r1, r2⟩ := proves_ref hr l3 (by omega)
      by_cases hP : ProofOk n l1 (fun i => i < l1.length) (costL l1) l3 (worthAll l3)
      · exact ⟨_, _, _, p1 hP _ (by omega), r1 hP _ (by omega)⟩
      · exact ⟨_, _, _, p2 hP _ (by omega), r2 hP _ (by omega)⟩
    · exact ⟨_, _, _, proves_refused hr l3 (by omega) q, (ref_refused hr q (by omega)).2 l3⟩
  obtain ⟨c, b, e, e1, e2⟩ := his
  obtain ⟨c', b', e', e3, e4⟩ := hpr
  rw [decide_eq_false hf3, trishawlaw03_BranchIs.j0, if_neg (by decide), e1, Option.bind_some, e2, Option.bind_some, if_pos rfl]
  simp only [bne_self_eq_false, Bool.false_eq_true, if_false]
  rw [trishawlaw03_BranchIs.j1, if_neg (by decide), e3, Option.bind_some, e4, Option.bind_some, if_pos rfl]
  simp only [beq_self_eq_true, if_true]
  rw [al _ (by omega)]; rfl
end Go.Proofs.Ytpmadffgdfholaa.Pure
