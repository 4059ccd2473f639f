/- Texts behind the row of BranchBetween, part 5: contracts of the functions it reaches, words that their walks use, and lemmas in plain Lean. -/
import Derived.Below
import Derived.Deep.Draws
import Derived.Deep.AppendLies
import Derived.Maps.AppendAt
import Derived.OwnWalk
import Derived.Laws.BytesArg
import Derived.Laws.MakeOwn
import Derived.Laws.OwnMore
import Derived.Deep.OwnRows
import Derived.Tactics
import Derived.Lib.ConvBytes
import Derived.Laws.Slices
import Derived.WalkKit
import Derived.KernelRfl
import Derived.RowKit3
import Derived.Deep.LoopGhost
import Derived.Deep.QuietTactic
import Derived.BigQuiet
import Derived.WideLaws
import Derived.Deep.DeepCutAuto
import Derived.Deep.CutBlock
import Derived.Deep.RegionHeld3
import Derived.Laws.Rows
import Derived.Lib.AppendStr
import Derived.ArgAppend
import Derived.Laws.IdiomCopy
import Derived.RowKit
import Derived.OrdersHeld
import Derived.Laws.BitsLemmas
import Derived.Test.YtpmadffgdfholaaProg
import Derived.Laws.StructEq
import Derived.MapKept
import Derived.WalkSpells
import Derived.Deep.DrawnRows
import Derived.Maps.RangeWalk
import Derived.Laws.EntriesVeiled
import Derived.Deep.Slices
import Derived.Deep.Fields
import Derived.ChangeSame
import Derived.ChangeSlices
import Derived.Test.YtpmadffgdfholaaE1
import Derived.Test.YtpmadffgdfholaaE2
import Derived.Test.YtpmadffgdfholaaE3
import Derived.Test.YtpmadffgdfholaaE4
namespace Go.Proofs.Ytpmadffgdfholaa.B
/-- Corners that are reached from s along streets of T. -/
inductive Rc (a b : Nat → Nat) (T : Nat → Prop) (s : Nat) : Nat → Prop
  | refl : Rc a b T s s
  | step {i : Nat} : T i → Rc a b T s (a i) → Rc a b T s (b i)
/-- The same, in k steps. -/
inductive Rk (a b : Nat → Nat) (T : Nat → Prop) (s : Nat) : Nat → Nat → Prop
  | refl : Rk a b T s 0 s
  | step {i k : Nat} : T i → Rk a b T s k (a i) → Rk a b T s (k + 1) (b i)
section
variable {n : Nat} {a b : Nat → Nat} {T U : Nat → Prop} {s c d : Nat}
theorem Rc.mono (h : ∀ i, T i → U i) (r : Rc a b T s c) : Rc a b U s c := by
  induction r with
  | refl => exact .refl
  | step t _ ih => exact .step (h _ t) ih
theorem Rc.trans (r : Rc a b T s c) (q : Rc a b T c d) : Rc a b T s d := by
  induction q with
  | refl => exact r
  | step t _ ih => exact .step t ih
theorem Rc.one {i : Nat} (t : T i) : Rc a b T (a i) (b i) := .step t .refl
theorem Rc.rk (r : Rc a b T s c) : ∃ k, Rk a b T s k c := by
  induction r with
  | refl => exact ⟨0, .refl⟩
  | step t _ ih => obtain ⟨k, h⟩ := ih; exact ⟨k + 1, .step t h⟩
/-- What is closed under the streets and has s has all that is reached. -/
theorem Rc.closed {S : Nat → Prop} (hs : S s) (h : ∀ i, T i → S (a i) → S (b i)) (r : Rc a b T s c) : S c := by
  induction r with
  | refl => exact hs
  | step t _ ih => exact h _ t ih
theorem least_nat {P : Nat → Prop} (h : ∃ k, P k) : ∃ k, P k ∧ ∀ j, j < k → ¬ P j := by
  obtain ⟨k, hk⟩ := h
  induction k using Nat.strongRecOn with
  | _ k ih =>
    by_cases hj : ∃ j, j < k ∧ P j
    · obtain ⟨j, h1, h2⟩ := hj; exact ih j h1 h2
    · exact ⟨k, hk, fun j h1 h2 => hj ⟨j, h1, h2⟩⟩
/-- A branching: the street that leads to each corner but 0. -/
structure IsB (n : Nat) (a b : Nat → Nat) (T : Nat → Prop) (f : Nat → Nat) : Prop where
  on : ∀ c, 0 < c → c < n → T (f c) ∧ b (f c) = c
  all : ∀ c, c < n → Rc a b (fun i => ∃ c, 0 < c ∧ c < n ∧ i = f c) 0 c
theorem IsB.mono {f : Nat → Nat} (h : IsB n a b T f) (hT : ∀ i, T i → U i) : IsB n a b U f :=
  ⟨fun c h0 h1 => ⟨hT _ (h.on c h0 h1).1, (h.on c h0 h1).2⟩, h.all⟩
theorem IsB.within {f : Nat → Nat} (h : IsB n a b T f) (hU : ∀ c, 0 < c → c < n → U (f c)) : IsB n a b U f :=
  ⟨fun c h0 h1 => ⟨hU c h0 h1, (h.on c h0 h1).2⟩, h.all⟩
theorem IsB.congr {f g : Nat → Nat} (h : IsB n a b T f) (e : ∀ c, 0 < c → c < n → f c = g c) : IsB n a b T g :=
  ⟨fun c h0 h1 => e c h0 h1 ▸ h.on c h0 h1, fun c hc => (h.all c hc).mono fun _ ⟨c, h0, h1, q⟩ => ⟨c, h0, h1, q.trans (e c h0 h1)⟩⟩
/-- If all corners are reached, there is a branching. -/
theorem exists_branching (hT : ∀ i, T i → a i < n) (h : ∀ c, c < n → Rc a b T 0 c) : ∃ f, IsB n a b T f := by
  have hd : ∀ c, ∃ k, c < n → Rk a b T 0 k c ∧ ∀ j, j < k → ¬ Rk a b T 0 j c := by
    intro c
    by_cases hc : c < n
    · obtain ⟨k, hk⟩ := least_nat (h c hc).rk
      exact ⟨k, fun _ => hk⟩
    · exact ⟨0, fun h => absurd h hc⟩
  obtain ⟨d, hd⟩ : ∃ d : Nat → Nat, ∀ c, c < n → Rk a b T 0 (d c) c ∧ ∀ j, j < d c → ¬ Rk a b T 0 j c :=
    ⟨fun c => Classical.choose (hd c), fun c => Classical.choose_spec (hd c)⟩
  have hs : ∀ c, ∃ i, 0 < c → c < n → T i ∧ b i = c ∧ a i < n ∧ d (a i) < d c := by
    intro c
    by_cases hc : 0 < c ∧ c < n
    · obtain ⟨h1, h2⟩ := hd c hc.2
      generalize hk : d c = k at h1 h2
      cases h1 with
      | refl => omega
      | @step i k t r =>
        refine ⟨i, fun _ _ => ⟨t, rfl, hT i t, ?_⟩⟩
        have hq : ¬ k < d (a i) := fun hlt => (hd (a i) (hT i t)).2 k hlt r
        omega
    · exact ⟨0, fun h1 h2 => absurd ⟨h1, h2⟩ hc⟩
  obtain ⟨f, hf⟩ : ∃ f : Nat → Nat, ∀ c, 0 < c → c < n → T (f c) ∧ b (f c) = c ∧ a (f c) < n ∧ d (a (f c)) < d c :=
    ⟨fun c => Classical.choose (hs c), fun c => Classical.choose_spec (hs c)⟩
  refine ⟨f, fun c h0 h1 => ⟨(hf c h0 h1).1, (hf c h0 h1).2.1⟩, ?_⟩
  have key : ∀ k c, c < n → d c ≤ k → Rc a b (fun i => ∃ c, 0 < c ∧ c < n ∧ i = f c) 0 c := by
    intro k
    induction k with
    | zero =>
      intro c hc hk
      have hr := (hd c hc).1
      rw [show d c = 0 by omega] at hr
      cases hr
      exact .refl
    | succ k ih =>
      intro c hc hk
      by_cases h0 : 0 < c
      · obtain ⟨_, h2, h3, h4⟩ := hf c h0 hc
        have := Rc.step (a := a) (b := b) (T := fun i => ∃ c, 0 < c ∧ c < n ∧ i = f c) (i := f c) ⟨c, h0, hc, rfl⟩ (ih (a (f c)) h3 (by omega))
        rw [h2] at this
        exact this
      · obtain rfl : c = 0 := by omega
        exact .refl
  exact fun c hc => key (d c) c hc (Nat.le_refl _)
/-- A set of corners is entered by a street of the branching. -/
theorem IsB.enters {f : Nat → Nat} (h : IsB n a b T f) (S : Nat → Prop) (h0 : ¬ S 0) (hs : ∃ c, c < n ∧ S c) : ∃ c, 0 < c ∧ c < n ∧ S c ∧ ¬ S (a (f c)) := by
  refine Classical.byContradiction fun hn => ?_
  obtain ⟨c, hc, hS⟩ := hs
  have hr : ¬ S c := (h.all c hc).closed (S := fun c => ¬ S c) h0 (by
    rintro i ⟨e, e0, e1, rfl⟩ ha hb
    have hbe := (h.on e e0 e1).2
    rw [hbe] at hb
    exact hn ⟨e, e0, e1, hb, ha⟩)
  exact hr hS
def sumZ (g : Nat → Int) : Nat → Int
  | 0 => 0
  | k + 1 => sumZ g k + g k
theorem sumZ_congr {g h : Nat → Int} : ∀ k, (∀ i, i < k → g i = h i) → sumZ g k = sumZ h k
  | 0, _ => rfl
  | k + 1, e => by simp only [sumZ]; rw [sumZ_congr k (fun i hi => e i (by omega)), e k (by omega)]
theorem sumZ_le {g h : Nat → Int} : ∀ k, (∀ i, i < k → g i ≤ h i) → sumZ g k ≤ sumZ h k
  | 0, _ => Int.le_refl _
  | k + 1, e => by simp only [sumZ]; have := sumZ_le k (fun i hi => e i (by omega)); have := e k (by omega); omega
theorem sumZ_add (g h : Nat → Int) : ∀ k, sumZ (fun i => g i + h i) k = sumZ g k + sumZ h k
  | 0 => rfl
  | k + 1 => by simp only [sumZ]; rw [sumZ_add g h k]; omega
theorem sumZ_zero : ∀ k, sumZ (fun _ => 0) k = 0
  | 0 => rfl
  | k + 1 => by simp only [sumZ]; rw [sumZ_zero k]; rfl
/-- At most one number is not 0, and it is at most x. -/
theorem sumZ_one {g : Nat → Int} {v : Nat} {x : Int} (hx : 0 ≤ x) (hv : g v ≤ x) : ∀ k, (∀ i, i < k → i ≠ v → g i ≤ 0) → sumZ g k ≤ x
  | 0, _ => hx
  | k + 1, h => by
    simp only [sumZ]
    by_cases e : k = v
    · have : sumZ g k ≤ sumZ (fun _ => 0) k := sumZ_le k (fun i hi => h i (by omega) (by omega))
      rw [sumZ_zero] at this
      rw [e] at this ⊢
      omega
    · have := sumZ_one hx hv k (fun i hi => h i (by omega))
      have := h k (by omega) e
      omega
theorem sumZ_ge_one {g : Nat → Int} {v : Nat} : ∀ k, v < k → (∀ i, i < k → 0 ≤ g i) → g v ≤ sumZ g k
  | k + 1, hv, h => by
    simp only [sumZ]
    have h0 : sumZ (fun _ => 0) k ≤ sumZ g k := sumZ_le k (fun i hi => h i (by omega))
    rw [sumZ_zero] at h0
    by_cases e : v = k
    · subst e; omega
    · have h1 := sumZ_ge_one (g := g) (v := v) k (by omega) (fun i hi => h i (by omega)); have := h k (by omega); omega
/-- What a branching costs. -/
def costF (n : Nat) (p : Nat → Int) (f : Nat → Nat) : Int := sumZ (fun c => if c = 0 then 0 else p (f c)) n
theorem costF_congr {p q : Nat → Int} {f g : Nat → Nat} (h : ∀ c, 0 < c → c < n → p (f c) = q (g c)) : costF n p f = costF n q g := by
  refine sumZ_congr n fun c hc => ?_
  split
  · rfl
  · exact h c (by omega) hc
theorem costF_le {p q : Nat → Int} {f g : Nat → Nat} (h : ∀ c, 0 < c → c < n → p (f c) ≤ q (g c)) : costF n p f ≤ costF n q g := by
  refine sumZ_le n fun c hc => ?_
  split
  · exact Int.le_refl _
  · exact h c (by omega) hc
theorem costF_nonneg {p : Nat → Int} {f : Nat → Nat} (h : ∀ c, 0 < c → c < n → 0 ≤ p (f c)) : 0 ≤ costF n p f := by
  have := sumZ_le (g := fun _ => 0) (h := fun c => if c = 0 then 0 else p (f c)) n (fun c hc => by split; exact Int.le_refl _; exact h c (by omega) hc)
  rwa [sumZ_zero] at this
/-- v is the least cost of a branching of streets of T. -/
def Opt (n : Nat) (a b : Nat → Nat) (T : Nat → Prop) (p : Nat → Int) (v : Int) : Prop :=
  (∃ f, IsB n a b T f ∧ costF n p f = v) ∧ ∀ f, IsB n a b T f → v ≤ costF n p f
/-- A set that is to be priced: no street that is left for nothing enters it, and it holds together by such streets. -/
structure Alone (n : Nat) (a b : Nat → Nat) (T : Nat → Prop) (p : Nat → Int) (S : Nat → Prop) : Prop where
  h0 : ¬ S 0
  ne : ∃ c, c < n ∧ S c
  out : ∀ i, T i → p i = 0 → S (b i) → S (a i)
  conn : ∀ u v, S u → S v → Rc a b (fun i => T i ∧ p i = 0 ∧ S (a i) ∧ S (b i)) u v
/-- The branching enters the set once, and does not cost more where it counts. -/
theorem shrink {p : Nat → Int} {S : Nat → Prop} (hT : ∀ i, T i → a i < n) (hA : Alone n a b T p S) {g : Nat → Nat} (hg : IsB n a b T g) :
    ∃ f v, IsB n a b T f ∧ (∀ c, 0 < c → c < n → ¬ S c → f c = g c) ∧ S v ∧ 0 < v ∧ v < n ∧ (∀ c, 0 < c → c < n → S c → (c = v ∧ f c = g c) ∨ (T (f c) ∧ p (f c) = 0 ∧ S (a (f c)))) := by
  let T0 : Nat → Prop := fun i => ∃ c, 0 < c ∧ c < n ∧ ¬ S c ∧ i = g c
  have hfirst : ∀ c, Rc a b (fun i => ∃ c, 0 < c ∧ c < n ∧ i = g c) 0 c → Rc a b T0 0 c ∨ ∃ v, S v ∧ 0 < v ∧ v < n ∧ Rc a b T0 0 (a (g v)) := by
    intro c r
    induction r with
    | refl => exact .inl .refl
    | @step i t _ ih =>
      rcases ih with ih | ih
      · obtain ⟨e, e0, e1, rfl⟩ := t
        have hb := (hg.on e e0 e1).2
        by_cases hS : S e
        · exact .inr ⟨e, hS, e0, e1, ih⟩
        · exact .inl (.step ⟨e, e0, e1, hS, rfl⟩ ih)
      · exact .inr ih
  have hT0 : ∀ c, Rc a b T0 0 c → ¬ S c := by
    intro c r
    refine r.closed (S := fun c => ¬ S c) hA.h0 ?_
    rintro i ⟨e, e0, e1, hS, rfl⟩ _
    rw [(hg.on e e0 e1).2]
    exact hS
  obtain ⟨x, hx, hSx⟩ := hA.ne
  obtain ⟨v, hv, v0, v1, hrv⟩ : ∃ v, S v ∧ 0 < v ∧ v < n ∧ Rc a b T0 0 (a (g v)) := by
    rcases hfirst x (hg.all x hx) with h | h
    · exact absurd hSx (hT0 x h)
    · exact h
  let T1 : Nat → Prop := fun i => T0 i ∨ i = g v ∨ (T i ∧ p i = 0 ∧ S (a i) ∧ S (b i))
  have hT1 : ∀ i, T1 i → T i := by
    rintro i (⟨e, e0, e1, _, rfl⟩ | rfl | h)
    · exact (hg.on e e0 e1).1
    · exact (hg.on v v0 v1).1
    · exact h.1
  have hbv := (hg.on v v0 v1).2
  have hrS : ∀ u, S u → Rc a b T1 0 u := by
    intro u hu
    have h1 : Rc a b T1 0 v := by
      have := Rc.step (T := T1) (i := g v) (.inr (.inl rfl)) (hrv.mono fun i h => .inl h)
      rwa [hbv] at this
    exact h1.trans ((hA.conn v u hv hu).mono fun i h => .inr (.inr h))
  have hrA : ∀ c, c < n → Rc a b T1 0 c := by
    intro c hc
    have : ∀ c, Rc a b (fun i => ∃ c, 0 < c ∧ c < n ∧ i = g c) 0 c → Rc a b T1 0 c := by
      intro c r
      induction r with
      | refl => exact .refl
      | @step i t _ ih =>
        obtain ⟨e, e0, e1, rfl⟩ := t
        by_cases hS : S e
        · rw [(hg.on e e0 e1).2]; exact hrS e hS
        · exact .step (.inl ⟨e, e0, e1, hS, rfl⟩) ih
    exact this c (hg.all c hc)
  obtain ⟨f, hf⟩ := exists_branching (fun i h => hT i (hT1 i h)) hrA
  refine ⟨f, v, hf.mono hT1, ?_, hv, v0, v1, ?_⟩
  · intro c c0 c1 hS
    obtain ⟨t, tb⟩ := hf.on c c0 c1
    rcases t with ⟨e, e0, e1, _, q⟩ | q | h
    · have := (hg.on e e0 e1).2
      rw [← q, tb] at this
      rw [q, this]
    · rw [q, hbv] at tb
      exact absurd (tb ▸ hv) hS
    · rw [tb] at h
      exact absurd h.2.2.2 hS
  · intro c c0 c1 hS
    obtain ⟨t, tb⟩ := hf.on c c0 c1
    rcases t with ⟨e, e0, e1, hSe, q⟩ | q | h
    · have := (hg.on e e0 e1).2
      rw [← q, tb] at this
      exact absurd (this ▸ hS) hSe
    · rw [q, hbv] at tb
      exact .inl ⟨tb.symm, by rw [q, tb]⟩
    · exact .inr ⟨h.1, h.2.1, h.2.2.1⟩
/-- One price. -/
theorem Opt.priced {p q : Nat → Int} {S : Nat → Prop} {mm v : Int} (hT : ∀ i, T i → a i < n) (hA : Alone n a b T p S) (hm : 0 ≤ mm)
    (hp : ∀ i, T i → 0 ≤ p i) (hmin : ∀ i, T i → S (b i) → ¬ S (a i) → mm ≤ p i) (hq1 : ∀ i, T i → S (b i) → ¬ S (a i) → q i = p i - mm) (hq2 : ∀ i, T i → ¬ (S (b i) ∧ ¬ S (a i)) → q i = p i)
    (h : Opt n a b T q v) : Opt n a b T p (v + mm) := by
  have hq0 : ∀ i, T i → 0 ≤ q i := by
    intro i t
    by_cases e : S (b i) ∧ ¬ S (a i)
    · have := hmin i t e.1 e.2; rw [hq1 i t e.1 e.2]; omega
    · rw [hq2 i t e]; exact hp i t
  have hlow : ∀ f, IsB n a b T f → v + mm ≤ costF n p f := by
    intro f hf
    obtain ⟨c, c0, c1, cS, cA⟩ := hf.enters S hA.h0 hA.ne
    have h1 := h.2 f hf
    have h2 : costF n p f = costF n q f + sumZ (fun c => if c = 0 then 0 else p (f c) - q (f c)) n := by
      unfold costF
      rw [← sumZ_add]
      refine sumZ_congr n fun i _ => ?_
      split <;> omega
    have h3 := sumZ_ge_one (g := fun c => if c = 0 then 0 else p (f c) - q (f c)) (v := c) n c1 (by
      intro i hi
      split
      · exact Int.le_refl _
      · obtain ⟨t, tb⟩ := hf.on i (by omega) hi
        by_cases e : S (b (f i)) ∧ ¬ S (a (f i))
        · rw [hq1 _ t e.1 e.2]; omega
        · rw [hq2 _ t e]; omega)
    obtain ⟨t, tb⟩ := hf.on c c0 c1
    rw [if_neg (by omega), hq1 _ t (tb.symm ▸ cS) cA] at h3
    omega
  refine ⟨?_, hlow⟩
  obtain ⟨⟨g, hg, hgv⟩, _⟩ := h
  obtain ⟨f, u, hf, hfg, hSu, u0, u1, hfS⟩ := shrink hT hA hg
  refine ⟨f, hf, ?_⟩
  have h1 := hlow f hf
  have h2 : costF n p f = costF n q f + sumZ (fun c => if c = 0 then 0 else p (f c) - q (f c)) n := by
    unfold costF
    rw [← sumZ_add]
    refine sumZ_congr n fun i _ => ?_
    split <;> omega
  have h3 : sumZ (fun c => if c = 0 then 0 else p (f c) - q (f c)) n ≤ mm := by
    refine sumZ_one (v := u) hm ?_ n ?_
    · rw [if_neg (by omega)]
      obtain ⟨t, tb⟩ := hf.on u u0 u1
      by_cases e : S (b (f u)) ∧ ¬ S (a (f u))
      · rw [hq1 _ t e.1 e.2]; omega
      · rw [hq2 _ t e]; omega
    · intro i hi hiu
      split
      · exact Int.le_refl _
      · obtain ⟨t, tb⟩ := hf.on i (by omega) hi
        by_cases hS : S i
        · rcases hfS i (by omega) hi hS with ⟨e, _⟩ | ⟨_, _, e⟩
          · exact absurd e hiu
          · rw [hq2 _ t (fun x => x.2 e)]; omega
        · rw [hq2 _ t (fun x => hS (tb ▸ x.1))]; omega
  have h4 : costF n q f ≤ costF n q g := by
    refine costF_le fun c c0 c1 => ?_
    by_cases hS : S c
    · rcases hfS c c0 c1 hS with ⟨_, e⟩ | ⟨t, e1, e2⟩
      · rw [e]; exact Int.le_refl _
      · rw [hq2 _ t (fun x => x.2 e2), e1]; exact hq0 _ (hg.on c c0 c1).1
    · rw [hfg c c0 c1 hS]; exact Int.le_refl _
  omega
/-- All corners are reached for nothing. -/
theorem Opt.nothing {p : Nat → Int} (hT : ∀ i, T i → a i < n) (hp : ∀ i, T i → 0 ≤ p i) (h : ∀ c, c < n → Rc a b (fun i => T i ∧ p i = 0) 0 c) : Opt n a b T p 0 := by
  obtain ⟨f, hf⟩ := exists_branching (T := fun i => T i ∧ p i = 0) (fun i t => hT i t.1) h
  refine ⟨⟨f, hf.mono fun _ t => t.1, ?_⟩, fun g hg => costF_nonneg fun c c0 c1 => hp _ (hg.on c c0 c1).1⟩
  have : costF n p f = costF n (fun _ => 0) f := costF_congr fun c c0 c1 => (hf.on c c0 c1).1.2
  rw [this]
  unfold costF
  exact (sumZ_congr n fun c _ => by split <;> rfl).trans (sumZ_zero n)
/-- A set that no street enters. -/
theorem no_branching {S : Nat → Prop} (h0 : ¬ S 0) (ne : ∃ c, c < n ∧ S c) (h : ∀ i, T i → S (b i) → S (a i)) (f : Nat → Nat) : ¬ IsB n a b T f := by
  intro hf
  obtain ⟨c, c0, c1, cS, cA⟩ := hf.enters S h0 ne
  obtain ⟨t, tb⟩ := hf.on c c0 c1
  exact cA (h _ t (tb.symm ▸ cS))
/-- R d c: c is reached from d by streets for nothing. If some corner is not reached from 0, then some corner that is not reached from 0 is reached back from all that reach it. -/
theorem exists_back {R : Nat → Nat → Prop} (htr : ∀ x y z, R x y → R y z → R x z) (cnt : Nat → Nat)
    (hcnt : ∀ x y, R x y → ¬ R y x → cnt x < cnt y) {c : Nat} (hc : c < n) (h0 : ¬ R 0 c) (hn : ∀ x y, R x y → y < n → x < n) : ∃ c, c < n ∧ ¬ R 0 c ∧ ∀ d, R d c → R c d := by
  obtain ⟨k, ⟨c, h1, h2, h3⟩, hmin⟩ := least_nat (P := fun k => ∃ c, c < n ∧ ¬ R 0 c ∧ cnt c = k) ⟨_, c, hc, h0, rfl⟩
  refine ⟨c, h1, h2, fun d hd => Classical.byContradiction fun hnd => ?_⟩
  have := hcnt d c hd hnd
  exact hmin (cnt d) (by omega) ⟨d, hn d c hd h1, fun h => h2 (htr _ _ _ h hd), rfl⟩
end
end Go.Proofs.Ytpmadffgdfholaa.B
namespace Go.Proofs.Ytpmadffgdfholaa.B
open Go.RowKit Go.Proofs.YtpmadffgdfholaaW.PrintWords Go.Proofs.YtpmadffgdfholaaW.PrintLast Go.Proofs.YtpmadffgdfholaaW.PrintMore
/-- Where street i begins, and where it ends. -/
def aW (l : List S30) (i : Nat) : Nat := (rd_T30 l (i : Int)).f0.toNat
def bW (l : List S30) (i : Nat) : Nat := (rd_T30 l (i : Int)).f1.toNat
theorem tb_one (b c : Nat) : (1 <<< b).testBit c = decide (c = b) := by
  rw [Nat.shiftLeft_eq, Nat.one_mul, Nat.testBit_two_pow]
  exact decide_eq_decide.mpr eq_comm
theorem tb_or (s b c : Nat) : (s ||| 1 <<< b).testBit c = (s.testBit c || decide (c = b)) := by
  rw [Nat.testBit_or, tb_one]
theorem step_sub (s : Nat) (x : S30) (c : Nat) (h : s.testBit c = true) : (stepS s x).testBit c = true := by
  unfold stepS
  split
  · rw [tb_or, h]; rfl
  · exact h
theorem pass_sub (l : List S30) : ∀ (L : List Int) (s c : Nat), s.testBit c = true → (passS l L s).testBit c = true
  | [], _, _, h => h
  | i :: L, s, c, h => pass_sub l L (stepS s (rd_T30 l i)) c (step_sub s _ c h)
theorem it_sub (l : List S30) (L : List Int) : ∀ (d s c : Nat), s.testBit c = true → (itS l L d s).testBit c = true
  | 0, _, _, h => h
  | d + 1, s, c, h => it_sub l L d _ c (pass_sub l L s c h)
theorem it_iter (l : List S30) (L : List Int) : ∀ d s, itS l L (d + 1) s = passS l L (itS l L d s)
  | 0, _ => rfl
  | d + 1, s => by show itS l L (d + 1) (passS l L s) = passS l L (itS l L d (passS l L s)); exact it_iter l L d _
theorem pass_closed (l : List S30) : ∀ (L : List Int) (s : Nat), passS l L s = s → ∀ i ∈ L, s.testBit (rd_T30 l i).f0.toNat = true → s.testBit (rd_T30 l i).f1.toNat = true
  | [], _, _, i, hi, _ => absurd hi (by simp)
  | j :: L, s, h, i, hi, ha => by
    have h1 : passS l L (stepS s (rd_T30 l j)) = s := h
    have e : stepS s (rd_T30 l j) = s := by
      refine Nat.eq_of_testBit_eq fun c => ?_
      cases hc : s.testBit c with
      | true => exact step_sub s _ c hc
      | false =>
        cases hd : (stepS s (rd_T30 l j)).testBit c with
        | false => rfl
        | true =>
          have := pass_sub l L _ c hd
          rw [h1, hc] at this
          exact absurd this (by decide)
    rw [e] at h1
    rcases List.mem_cons.1 hi with rfl | hi
    · rw [← e]
      unfold stepS
      rw [if_pos ha, tb_or]
      simp
    · exact pass_closed l L s h1 i hi ha
section
variable {n : Nat} {l : List S30} {L : List Int}
theorem pass_sound (hL : InL n l L) : ∀ (L' : List Int), (∀ i ∈ L', i ∈ L) → ∀ (s c : Nat), (passS l L' s).testBit c = true → ∃ e, s.testBit e = true ∧ Rc (aW l) (bW l) (fun i => (i : Int) ∈ L) e c
  | [], _, _, c, h => ⟨c, h, .refl⟩
  | i :: L', hs, s, c, h => by
    obtain ⟨e, he, hr⟩ := pass_sound hL L' (fun j hj => hs j (List.mem_cons_of_mem _ hj)) (stepS s (rd_T30 l i)) c h
    unfold stepS at he
    split at he
    · rename_i ha
      rw [tb_or] at he
      rcases Bool.or_eq_true_iff.1 he with he | he
      · exact ⟨e, he, hr⟩
      · have h2 := hL i (hs i List.mem_cons_self)
        have hi : ((i.toNat : Nat) : Int) = i := by omega
        have e1 : e = bW l i.toNat := by unfold bW; rw [hi]; exact of_decide_eq_true he
        have ea : (rd_T30 l i).f0.toNat = aW l i.toNat := by unfold aW; rw [hi]
        rw [ea] at ha
        refine ⟨aW l i.toNat, ha, Rc.trans (Rc.one (i := i.toNat) (by rw [hi]; exact hs i List.mem_cons_self)) (e1 ▸ hr)⟩
    · exact ⟨e, he, hr⟩
theorem it_sound (hL : InL n l L) : ∀ (d s c : Nat), (itS l L d s).testBit c = true → ∃ e, s.testBit e = true ∧ Rc (aW l) (bW l) (fun i => (i : Int) ∈ L) e c
  | 0, _, c, h => ⟨c, h, .refl⟩
  | d + 1, s, c, h => by
    obtain ⟨e, he, hr⟩ := it_sound hL d _ c h
    obtain ⟨e2, he2, hr2⟩ := pass_sound hL L (fun _ h => h) s e he
    exact ⟨e2, he2, hr2.trans hr⟩
/-- The closure of a set is what is reached from it. -/
theorem closure_iff (hn : n ≤ 7) (hL : InL n l L) {d c : Nat} (hd : d < n) : (itS l L n (1 <<< d)).testBit c = true ↔ Rc (aW l) (bW l) (fun i => (i : Int) ∈ L) d c := by
  have hlt : 1 <<< d < 2 ^ n := by rw [Nat.shiftLeft_eq, Nat.one_mul]; exact Nat.pow_lt_pow_right (by decide) hd
  constructor
  · intro h
    obtain ⟨e, he, hr⟩ := it_sound hL n _ c h
    rw [tb_one] at he
    rw [of_decide_eq_true he] at hr
    exact hr
  · intro hr
    have hfix : passS l L (itS l L n (1 <<< d)) = itS l L n (1 <<< d) := by
      rw [← it_iter]
      exact it_stop hn hL n _ hlt (by omega)
    refine hr.closed (S := fun c => (itS l L n (1 <<< d)).testBit c = true) (it_sub l L n _ d (by rw [tb_one]; simp)) fun i hi ha => ?_
    exact pass_closed l L _ hfix _ hi ha
theorem Rc.lt (hL : InL n l L) {d c : Nat} (hd : d < n) (hr : Rc (aW l) (bW l) (fun i => (i : Int) ∈ L) d c) : c < n := by
  refine hr.closed (S := fun c => c < n) hd fun i hi _ => ?_
  have h := (wayOk_iff n _).1 (hL _ hi).2.2
  unfold bW
  omega
/-- The streets that a test lets through. -/
def someW (l : List S30) (og : Int → Bool) : List Int := (idx l).filter og
theorem idx_rd (l : List S30) (q : Nat) (h : q < l.length) : rd (idx l) (q : Int) = (q : Int) := by
  simp [rd, idx, List.getD, h]
theorem idx_mem (l : List S30) (i : Nat) : (i : Int) ∈ idx l ↔ i < l.length := by
  unfold idx
  simp only [List.mem_map, List.mem_range]
  exact ⟨fun ⟨j, h, e⟩ => by omega, fun h => ⟨i, h, rfl⟩⟩
theorem someW_mem (l : List S30) (og : Int → Bool) (i : Nat) : (i : Int) ∈ someW l og ↔ i < l.length ∧ og (i : Int) = true := by
  unfold someW
  rw [List.mem_filter, idx_mem]
theorem someW_in {l : List S30} (hx : ∀ x ∈ l, wayOk n x = true) (og : Int → Bool) : InL n l (someW l og) :=
  fun i hi => idx_in hx i (List.mem_filter.1 hi).1
theorem al2_l1 (hn : n ≤ 7) (hx : ∀ x ∈ l, wayOk n x = true) (hl : l.length < 1000) (o : Int → Option Bool) (og : Int → Bool) (ho : ∀ i : Nat, i < l.length → o (i : Int) = some (og (i : Int))) (N j : Int) : ∀ (d q k s : Nat), q + d = l.length → s < 2 ^ n →
    branch_town_alone_2.l1 (k + d + 1) (s : Int) N j l (l.length : Int) (q : Int) (n : Int) l o = branch_town_alone_2.l0 k ((passS l (((idx l).drop q).filter og) s : Nat) : Int) N (wrap64 (j + 1)) (n : Int) l o
  | 0, q, k, s, h, _ => by
    simp only [branch_town_alone_2.l1]
    rw [if_neg (by omega), List.drop_eq_nil_of_le (by rw [idx_length]; omega)]
    rfl
  | d + 1, q, k, s, h, hs => by
    have hq : q < l.length := by omega
    have hw := wrap_nat q (by omega)
    have hok := hx _ (rd_T30_mem l q hq)
    have sf := step_facts hn hs hok
    have ih := fun s hs => al2_l1 hn hx hl o og ho N j d (q + 1) k s (by omega) hs
    have h128 : s < 128 := Nat.lt_of_lt_of_le hs (show 2 ^ n ≤ 2 ^ 7 from Nat.pow_le_pow_right (by decide) hn)
    rw [drop_rdI4 (idx l) q (by rw [idx_length]; exact hq), idx_rd l q hq, List.filter_cons]
    rw [show k + (d + 1) + 1 = (k + d + 1) + 1 from by omega]
    generalize hqq : k + d + 1 = qq at ih
    simp only [branch_town_alone_2.l1, hw]
    rw [if_pos (by omega), if_pos (by omega), if_pos (by omega), ho q hq, Option.bind_some]
    cases og (q : Int) with
    | false =>
      rw [if_neg (by decide), if_neg (by decide)]
      exact ih s hs
    | true =>
      rw [if_pos rfl, if_pos rfl]
      show _ = branch_town_alone_2.l0 k ((passS l (((idx l).drop (q + 1)).filter og) (stepS s (rd_T30 l (q : Int))) : Nat) : Int) N (wrap64 (j + 1)) (n : Int) l o
      rw [← ih _ sf.1]
      generalize rd_T30 l (q : Int) = x at hok
      obtain ⟨h1, h2, h3, h4, _⟩ := (wayOk_iff n x).1 hok
      have f1 := fin_and ⟨s, h128⟩ ⟨x.f0.toNat, by omega⟩
      have f2 := fin_or ⟨s, h128⟩ ⟨x.f1.toNat, by omega⟩
      simp only [← int_nat h1, ← int_nat h3] at f1 f2
      rw [if_pos h1]
      unfold stepS
      by_cases t : s.testBit x.f0.toNat = true
      · rw [if_pos (f1.2 t), if_pos h3, if_pos t, f2]
      · rw [if_neg (fun hh => t (f1.1 hh)), if_neg t]
theorem al2_l0 (hn : n ≤ 7) (hx : ∀ x ∈ l, wayOk n x = true) (hl : l.length < 1000) (o : Int → Option Bool) (og : Int → Bool) (ho : ∀ i : Nat, i < l.length → o (i : Int) = some (og (i : Int))) : ∀ (d j k s : Nat), j + d = n → s < 2 ^ n →
    branch_town_alone_2.l0 (k + (l.length + 2) * d + 1) (s : Int) (n : Int) (j : Int) (n : Int) l o = some ((itS l (someW l og) d s : Nat) : Int)
  | 0, j, k, s, h, _ => by
    simp only [branch_town_alone_2.l0, Nat.mul_zero, Nat.add_zero]
    rw [if_neg (by omega)]
    rfl
  | d + 1, j, k, s, h, hs => by
    have hw := wrap_nat j (by omega)
    have ih := al2_l0 hn hx hl o og ho d (j + 1) k (passS l (someW l og) s) (by omega) (pass_facts hn _ (someW_in hx og) s hs).1
    have h1 := al2_l1 hn hx hl o og ho (n : Int) (j : Int) l.length 0 (k + (l.length + 2) * d + 1) s (by omega) hs
    rw [show k + (l.length + 2) * (d + 1) + 1 = (k + (l.length + 2) * d + 1 + l.length + 1) + 1 from by rw [Nat.mul_succ]; omega]
    generalize hq : k + (l.length + 2) * d + 1 + l.length + 1 = qq at h1
    simp only [branch_town_alone_2.l0]
    rw [if_pos (by omega)]
    rw [List.drop_zero, hw] at h1
    exact h1.trans ih
theorem fin_shl1 : ∀ a : Fin 7, shl .i64 1 ((a.val : Nat) : Int) = ((1 <<< a.val : Nat) : Int) := by decide +kernel
theorem al2_f (hn : n ≤ 7) (hx : ∀ x ∈ l, wayOk n x = true) (hl : l.length ≤ 30) (o : Int → Option Bool) (og : Int → Bool) (ho : ∀ i : Nat, i < l.length → o (i : Int) = some (og (i : Int))) (d : Nat) (hd : d < n) (k : Nat) (hk : 300 ≤ k) :
    branch_town_alone_2.f k (d : Int) (n : Int) l o = some ((itS l (someW l og) n (1 <<< d) : Nat) : Int) := by
  have hlt : 1 <<< d < 2 ^ n := by rw [Nat.shiftLeft_eq, Nat.one_mul]; exact Nat.pow_lt_pow_right (by decide) hd
  have hb : (l.length + 2) * n ≤ 32 * 7 := Nat.mul_le_mul (by omega) hn
  have h := al2_l0 hn hx (by omega) o og ho n 0 (k - (l.length + 2) * n - 1) (1 <<< d) (by omega) hlt
  rw [show k - (l.length + 2) * n - 1 + (l.length + 2) * n + 1 = k from by omega] at h
  unfold branch_town_alone_2.f
  have e := fin_shl1 ⟨d, by omega⟩
  simp only [] at e
  rw [if_pos (by omega), e]
  exact h
end
end Go.Proofs.Ytpmadffgdfholaa.B
namespace Go.Proofs.Ytpmadffgdfholaa.B
open Go.RowKit Go.Proofs.YtpmadffgdfholaaW.PrintWords Go.Proofs.YtpmadffgdfholaaW.PrintLast Go.Proofs.YtpmadffgdfholaaW.PrintMore
def cntN (P : Nat → Bool) : Nat → Nat
  | 0 => 0
  | k + 1 => cntN P k + if P k then 1 else 0
theorem cntN_le {P Q : Nat → Bool} : ∀ k, (∀ i, i < k → P i = true → Q i = true) → cntN P k ≤ cntN Q k
  | 0, _ => Nat.le_refl _
  | k + 1, h => by
    have ih := cntN_le k (fun i hi => h i (by omega))
    have hk := h k (by omega)
    simp only [cntN]
    cases hP : P k with
    | false => simp; split <;> omega
    | true => simp [hk hP]; exact ih
theorem cntN_lt {P Q : Nat → Bool} : ∀ k, (∀ i, i < k → P i = true → Q i = true) → ∀ j, j < k → Q j = true → P j = false → cntN P k < cntN Q k
  | k + 1, h, j, hj, hQ, hP => by
    simp only [cntN]
    by_cases e : j = k
    · subst e
      have := cntN_le (P := P) (Q := Q) j (fun i hi => h i (by omega))
      simp [hQ, hP]; omega
    · have ih := cntN_lt k (fun i hi => h i (by omega)) j (by omega) hQ hP
      have hk := h k (by omega)
      cases hPk : P k with
      | false => simp; split <;> omega
      | true => simp [hk hPk]; exact ih
theorem cntN_bound (P : Nat → Bool) : ∀ k, cntN P k ≤ k
  | 0 => Nat.le_refl _
  | k + 1 => by have := cntN_bound P k; simp only [cntN]; split <;> omega
theorem hasB_nat {s c : Nat} (hs : s < 128) (hc : c < 7) : hasB (s : Int) (c : Int) = s.testBit c := by
  have h := fin_and ⟨s, hs⟩ ⟨c, hc⟩
  simp only [] at h
  unfold hasB
  cases ht : s.testBit c with
  | true => exact beq_iff_eq.mpr (h.2 ht)
  | false => exact beq_eq_false_iff_ne.mpr fun e => by rw [h.1 e] at ht; exact absurd ht (by decide)
theorem noB_nat {s c : Nat} (hs : s < 128) (hc : c < 7) : (Go.bits .and .i64 (shr .i64 (s : Int) (c : Int)) 1 == 0) = !s.testBit c := by
  have h := fin_and0 ⟨s, hs⟩ ⟨c, hc⟩
  simp only [] at h
  cases ht : s.testBit c with
  | false => exact beq_iff_eq.mpr (h.2 ht)
  | true => exact beq_eq_false_iff_ne.mpr fun e => by rw [h.1 e] at ht; exact absurd ht (by decide)
theorem gather_nat {R : Int → Int} {r : Nat → Nat} {n : Nat} (hn : n ≤ 7) (hR : ∀ d : Nat, d < n → R (d : Int) = (r d : Int) ∧ r d < 128) {c : Nat} (hc : c < n) : ∀ j, j ≤ n → ∃ q : Nat, gatherB R (c : Int) j = (q : Int) ∧ q < 128 ∧ ∀ d, q.testBit d = (decide (d < j) && (r d).testBit c)
  | 0, _ => ⟨0, rfl, by decide, fun d => by simp⟩
  | j + 1, hj => by
    obtain ⟨q, h1, h2, h3⟩ := gather_nat hn hR hc j (by omega)
    obtain ⟨e1, e2⟩ := hR j (by omega)
    simp only [gatherB]
    rw [e1, hasB_nat e2 (by omega), h1]
    cases ht : (r j).testBit c with
    | true =>
      have f := fin_or ⟨q, h2⟩ ⟨j, by omega⟩
      have f2 := fin_lt ⟨7, by decide⟩ ⟨q, h2⟩ ⟨j, by omega⟩ h2 (by simp only []; omega)
      simp only [] at f f2
      refine ⟨q ||| 1 <<< j, by rw [if_pos rfl, f], f2, fun d => ?_⟩
      rw [tb_or, h3]
      by_cases hd : d = j
      · subst hd; simp [ht]
      · by_cases hl : d < j
        · simp [hd, hl, show d < j + 1 by omega]
        · simp [hd, hl, show ¬ d < j + 1 by omega]
    | false =>
      refine ⟨q, by rw [if_neg (by decide)], h2, fun d => ?_⟩
      rw [h3]
      by_cases hd : d = j
      · subst hd; simp [ht]
      · by_cases hl : d < j
        · simp [hl, show d < j + 1 by omega]
        · simp [hl, show ¬ d < j + 1 by omega]
theorem closed_nat {R : Int → Int} {r : Nat → Nat} {n : Nat} (hn : n ≤ 7) (hR : ∀ d : Nat, d < n → R (d : Int) = (r d : Int) ∧ r d < 128) {c q : Nat} (hc : c < n) (hq : q < 128) : ∀ j, j ≤ n → (closedB R (c : Int) (q : Int) j = true ↔ ∀ d, d < j → q.testBit d = true → (r c).testBit d = true)
  | 0, _ => ⟨fun _ d hd => absurd hd (by omega), fun _ => rfl⟩
  | j + 1, hj => by
    have ih := closed_nat hn hR hc hq j (by omega)
    obtain ⟨e1, e2⟩ := hR c hc
    simp only [closedB]
    rw [e1, hasB_nat hq (by omega), noB_nat e2 (by omega), Bool.and_eq_true, ih]
    constructor
    · rintro ⟨h1, h2⟩ d hd hqd
      by_cases e : d = j
      · subst e
        rw [hqd] at h2
        simpa using h2
      · exact h1 d (by omega) hqd
    · intro h
      refine ⟨fun d hd => h d (by omega), ?_⟩
      cases hb : q.testBit j with
      | false => rfl
      | true => rw [h j (by omega) hb]; rfl
theorem alone_cases {R : Int → Int} {r : Nat → Nat} {n : Nat} (hn : n ≤ 7) (hR : ∀ d : Nat, d < n → R (d : Int) = (r d : Int) ∧ r d < 128 ∧ (r d).testBit d = true) : ∀ j, j ≤ n →
    (aloneB R n j = 0 ∧ ∀ c, n - j ≤ c → c < n → ¬ ((r 0).testBit c = false ∧ ∀ d, d < n → (r d).testBit c = true → (r c).testBit d = true)) ∨
    ∃ c q : Nat, c < n ∧ aloneB R n j = (q : Int) ∧ q < 128 ∧ q ≠ 0 ∧ (r 0).testBit c = false ∧ (∀ d, d < n → (r d).testBit c = true → (r c).testBit d = true) ∧ ∀ d, q.testBit d = (decide (d < n) && (r d).testBit c)
  | 0, _ => .inl ⟨rfl, fun c h1 h2 => by omega⟩
  | j + 1, hj => by
    have hR2 : ∀ d : Nat, d < n → R (d : Int) = (r d : Int) ∧ r d < 128 := fun d hd => ⟨(hR d hd).1, (hR d hd).2.1⟩
    have hc : n - (j + 1) < n := by omega
    obtain ⟨q, g1, g2, g3⟩ := gather_nat hn hR2 hc n (Nat.le_refl _)
    obtain ⟨z1, z2⟩ := hR2 0 (by omega)
    have hcl := closed_nat hn hR2 hc g2 n (Nat.le_refl _)
    simp only [aloneB]
    have hal : isAloneB R n ((n - (j + 1) : Nat) : Int) = true ↔ (r 0).testBit (n - (j + 1)) = false ∧ ∀ d, d < n → (r d).testBit (n - (j + 1)) = true → (r (n - (j + 1))).testBit d = true := by
      unfold isAloneB
      rw [show (R 0) = (r 0 : Int) from z1, hasB_nat z2 (by omega), g1, Bool.and_eq_true, hcl, Bool.not_eq_true']
      refine and_congr Iff.rfl ⟨fun h d hd hr => h d hd (by rw [g3]; simp [hd, hr]), fun h d hd hq => h d hd (by rw [g3] at hq; exact (Bool.and_eq_true _ _ |>.mp hq).2)⟩
    by_cases ha : isAloneB R n ((n - (j + 1) : Nat) : Int) = true
    · rw [if_pos ha]
      obtain ⟨a1, a2⟩ := hal.1 ha
      refine .inr ⟨n - (j + 1), q, hc, g1, g2, ?_, a1, a2, g3⟩
      rintro rfl
      have := g3 (n - (j + 1))
      rw [(hR _ hc).2.2] at this
      simp [hc] at this
    · rw [if_neg ha]
      rcases alone_cases hn hR j (by omega) with ⟨h1, h2⟩ | h
      · refine .inl ⟨h1, fun c c1 c2 hh => ?_⟩
        by_cases e : c = n - (j + 1)
        · subst e; exact ha (hal.2 hh)
        · exact h2 c (by omega) c2 hh
      · exact .inr h
/-- The streets that are not out. -/
def onT (l : List S30) (og : Int → Bool) (i : Nat) : Prop := i < l.length ∧ og (i : Int) = false
theorem onT_lt {n : Nat} {l : List S30} (hx : ∀ x ∈ l, wayOk n x = true) {og : Int → Bool} (i : Nat) (h : onT l og i) : aW l i < n := by
  have := (wayOk_iff n _).1 (hx _ (rd_T30_mem l i h.1))
  unfold aW; omega
theorem onT_ltb {n : Nat} {l : List S30} (hx : ∀ x ∈ l, wayOk n x = true) {og : Int → Bool} (i : Nat) (h : onT l og i) : bW l i < n := by
  have := (wayOk_iff n _).1 (hx _ (rd_T30_mem l i h.1))
  unfold bW; omega
section
variable {n : Nat} {l : List S30}
/-- alone's answer. -/
theorem alone_spec (hn1 : 1 ≤ n) (hn : n ≤ 7) (hl : l.length ≤ 30) (hx : ∀ x ∈ l, wayOk n x = true) (left : List Int) (hleft : left.length = l.length) (o : Int → Option Bool) (og : Int → Bool) (ho : ∀ i : Nat, i < l.length → o (i : Int) = some (og (i : Int))) :
    ∃ q : Nat, q < 2 ^ n ∧ (∀ k, 300 ≤ k → branch_town_alone.f k (n : Int) l left o = some (q : Int)) ∧
      (q = 0 → ∀ c, c < n → Rc (aW l) (bW l) (fun i => onT l og i ∧ rd left (i : Int) = 0) 0 c) ∧
      (q ≠ 0 → Alone n (aW l) (bW l) (onT l og) (fun i => rd left (i : Int)) (fun c => q.testBit c = true)) := by
  have ho1 : ∀ i : Nat, i < l.length → branch_town_alone_1.f (i : Int) left o = some (decide (rd left (i : Int) = 0) && !og (i : Int)) := by
    intro i hi
    unfold branch_town_alone_1.f
    rw [if_pos (by omega), if_pos (by omega), ho i hi]
    by_cases h : rd left (i : Int) = 0
    · rw [if_pos h, Option.bind_some, decide_eq_true h, Bool.true_and]
    · rw [if_neg h, decide_eq_false h, Bool.false_and]
  let fg : Int → Bool := fun i => decide (rd left i = 0) && !og i
  have hFL := someW_in (n := n) hx fg
  let r : Nat → Nat := fun d => itS l (someW l fg) n (1 <<< d)
  have hlt : ∀ d, d < n → 1 <<< d < 2 ^ n := fun d hd => by rw [Nat.shiftLeft_eq, Nat.one_mul]; exact Nat.pow_lt_pow_right (by decide) hd
  have hp : 2 ^ n ≤ 2 ^ 7 := Nat.pow_le_pow_right (by decide) hn
  have hrlt : ∀ d, d < n → r d < 2 ^ n := fun d hd => it_lt hn hFL n _ (hlt d hd)
  have hiff : ∀ d c, d < n → ((r d).testBit c = true ↔ Rc (aW l) (bW l) (fun i => onT l og i ∧ rd left (i : Int) = 0) d c) := by
    intro d c hd
    refine (closure_iff hn hFL hd).trans ⟨fun h => h.mono fun i hi => ?_, fun h => h.mono fun i hi => ?_⟩
    · obtain ⟨h1, h2⟩ := (someW_mem l fg i).1 hi
      simp only [fg, Bool.and_eq_true, decide_eq_true_eq, Bool.not_eq_true'] at h2
      exact ⟨⟨h1, h2.2⟩, h2.1⟩
    · refine (someW_mem l fg i).2 ⟨hi.1.1, ?_⟩
      simp only [fg, Bool.and_eq_true, decide_eq_true_eq, Bool.not_eq_true']
      exact ⟨hi.2, hi.1.2⟩
  have hRk : ∀ k, 300 ≤ k → ∀ d : Nat, d < n → branch_town_alone_2.f k (d : Int) (n : Int) l (fun i => branch_town_alone_1.f i left o) = some (r d : Int) := fun k hk d hd => al2_f hn hx hl _ fg ho1 d hd k hk
  have hval : ∀ k, 300 ≤ k → branch_town_alone.f k (n : Int) l left o = some (aloneB (fun d => (r d.toNat : Int)) n n) := by
    intro k hk
    unfold branch_town_alone.f
    rw [if_pos ⟨by omega, by omega, fun d hd => by rw [hRk k hk d (by have := List.mem_range.1 hd; omega)]; rfl⟩]
    refine congrArg some ?_
    rw [show ((n : Int)).toNat = n from rfl]
    refine aloneB_congr (fun d h0 h1 => ?_) n (Nat.le_refl _)
    have := hRk k hk d.toNat (by omega)
    rw [Int.toNat_of_nonneg h0] at this
    rw [this]; rfl
  have hRr : ∀ d : Nat, d < n → (fun d : Int => (r d.toNat : Int)) (d : Int) = (r d : Int) ∧ r d < 128 ∧ (r d).testBit d = true := by
    intro d hd
    exact ⟨rfl, Nat.lt_of_lt_of_le (hrlt d hd) hp, (hiff d d hd).2 .refl⟩
  have hTn : ∀ i, (onT l og i ∧ rd left (i : Int) = 0) → aW l i < n := fun i h => onT_lt hx i h.1
  have hTb : ∀ i, (onT l og i ∧ rd left (i : Int) = 0) → bW l i < n := fun i h => onT_ltb hx i h.1
  rcases alone_cases (R := fun d : Int => (r d.toNat : Int)) (r := r) hn hRr n (Nat.le_refl _) with ⟨h1, h2⟩ | ⟨c, q, hc, h1, h2, h3, h4, h5, h6⟩
  · refine ⟨0, Nat.pow_pos (by decide), fun k hk => (hval k hk).trans (congrArg some h1), fun _ c hc => ?_, fun h => absurd rfl h⟩
    refine Classical.byContradiction fun hno => ?_
    obtain ⟨e, e1, e2, e3⟩ := exists_back (n := n) (R := fun x y => Rc (aW l) (bW l) (fun i => onT l og i ∧ rd left (i : Int) = 0) x y) (fun _ _ _ => Rc.trans) (fun x => cntN (fun d => (r d).testBit x) n) (by
      intro x y hxy hyx
      by_cases hy : y < n
      · refine cntN_lt n (fun i hi h => (hiff i y hi).2 (((hiff i x hi).1 h).trans hxy)) y hy ((hiff y y hy).2 .refl) ?_
        cases hb : (r y).testBit x with
        | false => rfl
        | true => exact absurd ((hiff y x hy).1 hb) hyx
      · exfalso
        have : x = y ∨ y < n := by
          cases hxy with
          | refl => exact .inl rfl
          | step t _ => exact .inr (hTb _ t)
        rcases this with rfl | h
        · exact hyx .refl
        · exact hy h) hc hno (by
      intro x y hxy
      induction hxy with
      | refl => exact id
      | step t _ ih => exact fun _ => ih (hTn _ t))
    refine h2 e (by omega) e1 ⟨?_, fun d hd hdc => (hiff e d e1).2 (e3 d ((hiff d e hd).1 hdc))⟩
    cases hb : (r 0).testBit e with
    | false => rfl
    | true => exact absurd ((hiff 0 e (by omega)).1 hb) e2
  · refine ⟨q, ?_, fun k hk => (hval k hk).trans (congrArg some h1), fun h => absurd h h3, fun _ => ?_⟩
    · refine Nat.lt_pow_two_of_testBit q fun i hi => ?_
      rw [h6, decide_eq_false (by omega), Bool.false_and]
    · have hS : ∀ d, q.testBit d = true ↔ d < n ∧ Rc (aW l) (bW l) (fun i => onT l og i ∧ rd left (i : Int) = 0) d c := by
        intro d
        rw [h6, Bool.and_eq_true, decide_eq_true_eq]
        exact ⟨fun ⟨a, b⟩ => ⟨a, (hiff d c a).1 b⟩, fun ⟨a, b⟩ => ⟨a, (hiff d c a).2 b⟩⟩
      refine ⟨fun h => ?_, ⟨c, hc, (hS c).2 ⟨hc, .refl⟩⟩, fun i t t0 tb => ?_, fun u v hu hv => ?_⟩
      · have := (hiff 0 c (by omega)).2 ((hS 0).1 h).2
        rw [h4] at this
        exact absurd this (by decide)
      · have hb := ((hS _).1 tb).2
        exact (hS _).2 ⟨onT_lt hx i t, (Rc.one (a := aW l) (b := bW l) (T := fun i => onT l og i ∧ rd left (i : Int) = 0) ⟨t, t0⟩).trans hb⟩
      · have hcv : Rc (aW l) (bW l) (fun i => onT l og i ∧ rd left (i : Int) = 0) c v := by
          obtain ⟨v1, v2⟩ := (hS v).1 hv
          exact (hiff c v hc).1 (h5 v v1 ((hiff v c v1).2 v2))
        have huv := ((hS u).1 hu).2.trans hcv
        have hvc := ((hS v).1 hv).2
        clear hcv
        have key : ∀ y, Rc (aW l) (bW l) (fun i => onT l og i ∧ rd left (i : Int) = 0) u y → Rc (aW l) (bW l) (fun i => onT l og i ∧ rd left (i : Int) = 0) y c → Rc (aW l) (bW l) (fun i => onT l og i ∧ rd left (i : Int) = 0 ∧ q.testBit (aW l i) = true ∧ q.testBit (bW l i) = true) u y := by
          intro y hy
          induction hy with
          | refl => exact fun _ => .refl
          | @step i t _ ih =>
            intro hyc
            have hac := (Rc.one (a := aW l) (b := bW l) (T := fun i => onT l og i ∧ rd left (i : Int) = 0) t).trans hyc
            exact .step ⟨t.1, t.2, (hS _).2 ⟨hTn _ t, hac⟩, (hS _).2 ⟨hTb _ t, hyc⟩⟩ (ih hac)
        exact key v huv hvc
end
end Go.Proofs.Ytpmadffgdfholaa.B
namespace Go.Proofs.Ytpmadffgdfholaa.B
set_option linter.unusedVariables false
open Go.RowKit Go.Proofs.YtpmadffgdfholaaW.PrintWords Go.Proofs.YtpmadffgdfholaaW.PrintLast Go.Proofs.YtpmadffgdfholaaW.PrintMore
/-- Street i enters the set q. -/
def entB (l : List S30) (q : Nat) (i : Nat) : Bool := !q.testBit (aW l i) && q.testBit (bW l i)
def entL (l : List S30) (q : Nat) : List Int := ((List.range l.length).filter (entB l q)).map fun i : Nat => (i : Int)
theorem entL_mem (l : List S30) (q i : Nat) : (i : Int) ∈ entL l q ↔ i < l.length ∧ entB l q i = true := by
  unfold entL
  simp only [List.mem_map, List.mem_filter, List.mem_range]
  constructor
  · rintro ⟨j, h, e⟩
    obtain rfl : j = i := by omega
    exact h
  · exact fun h => ⟨i, h, rfl⟩
theorem entL_nat (l : List S30) (q : Nat) : ∀ x ∈ entL l q, ∃ i : Nat, x = (i : Int) ∧ i < l.length := by
  intro x hx
  unfold entL at hx
  obtain ⟨i, hi, rfl⟩ := List.mem_map.1 hx
  exact ⟨i, rfl, by have := (List.mem_filter.1 hi).1; simpa using this⟩
theorem nodup_map_cast : ∀ {L : List Nat}, L.Nodup → (L.map fun i : Nat => (i : Int)).Nodup
  | [], _ => List.nodup_nil
  | x :: L, h => by
    rw [List.nodup_cons] at h
    rw [List.map_cons, List.nodup_cons]
    refine ⟨fun hm => ?_, nodup_map_cast h.2⟩
    obtain ⟨y, hy, e⟩ := List.mem_map.1 hm
    have e2 : y = x := by omega
    exact h.1 (e2 ▸ hy)
theorem entL_nodup (l : List S30) (q : Nat) : (entL l q).Nodup := nodup_map_cast (List.Pairwise.filter _ List.nodup_range)
theorem entL_length (l : List S30) (q : Nat) : (entL l q).length ≤ l.length := by
  unfold entL
  rw [List.length_map]
  exact Nat.le_trans (List.length_filter_le _ _) (by simp)
theorem entR_eq (l : List S30) (q : Nat) : ∀ (d i : Nat) (acc : List Int), i + d = l.length → acc = ((List.range i).filter (entB l q)).map (fun i : Nat => (i : Int)) → entR l q d i acc = entL l q
  | 0, i, acc, h, e => by
    obtain rfl : i = l.length := by omega
    exact e
  | d + 1, i, acc, h, e => by
    rw [entR]
    refine entR_eq l q d (i + 1) _ (by omega) ?_
    rw [List.range_succ, List.filter_append, List.map_append, ← e]
    have hb : (entB l q i = true) ↔ (q.testBit (rd_T30 l (i : Int)).f0.toNat = false ∧ q.testBit (rd_T30 l (i : Int)).f1.toNat = true) := by
      unfold entB aW bW
      rw [Bool.and_eq_true, Bool.not_eq_true']
    by_cases hc : entB l q i = true
    · rw [if_pos (hb.1 hc), List.filter_cons_of_pos hc]
      rfl
    · rw [if_neg (fun h => hc (hb.2 h)), List.filter_cons_of_neg hc]
      simp
theorem entering_f {n : Nat} {l : List S30} (hn : n ≤ 7) (hl : l.length ≤ 30) (hx : ∀ x ∈ l, wayOk n x = true) {q : Nat} (hq : q < 128) (k : Nat) (hk : 40 ≤ k) : branch_town_entering.f k (n : Int) l (q : Int) = some (entL l q) := by
  have c1 := ent_code (n := (n : Int)) (l := l) (s := q) (by omega) (by omega) hx hq l.length 0 (k - l.length - 1) [] (by omega) (by simp)
  rw [show k - l.length - 1 + l.length + 1 = k from by omega, entR_eq l q l.length 0 [] (by omega) (by simp)] at c1
  unfold branch_town_entering.f
  exact c1
def minL (left : List Int) (og : Int → Bool) : List Int → Int → Int
  | [], m => m
  | i :: E, m => minL left og E (if og i = true then m else if m < 0 then rd left i else if rd left i < m then rd left i else m)
theorem minL_spec (left : List Int) (og : Int → Bool) : ∀ (E : List Int) (m : Int), (∀ i ∈ E, og i = false → 0 ≤ rd left i) → -1 ≤ m →
    (minL left og E m = m ∨ ∃ i ∈ E, og i = false ∧ minL left og E m = rd left i) ∧ (0 ≤ m → minL left og E m ≤ m) ∧ (∀ i ∈ E, og i = false → 0 ≤ minL left og E m ∧ minL left og E m ≤ rd left i) ∧ -1 ≤ minL left og E m ∧ (0 ≤ m → 0 ≤ minL left og E m)
  | [], m, _, hm => ⟨.inl rfl, fun _ => Int.le_refl _, fun i hi => absurd hi (by simp), hm, fun h => h⟩
  | j :: E, m, h, hm => by
    have hj := h j List.mem_cons_self
    have hE : ∀ i ∈ E, og i = false → 0 ≤ rd left i := fun i hi => h i (List.mem_cons_of_mem _ hi)
    simp only [minL]
    cases hog : og j with
    | true =>
      obtain ⟨h1, h2, h3, h4, h5⟩ := minL_spec left og E m hE hm
      simp only [if_true]
      refine ⟨h1.imp id fun ⟨i, hi, e⟩ => ⟨i, List.mem_cons_of_mem _ hi, e⟩, h2, fun i hi ho => ?_, h4, h5⟩
      rcases List.mem_cons.1 hi with rfl | hi
      · rw [hog] at ho; exact absurd ho (by decide)
      · exact h3 i hi ho
    | false =>
      have hj0 := hj hog
      simp only [Bool.false_eq_true, if_false]
      generalize hm2 : (if m < 0 then rd left j else if rd left j < m then rd left j else m) = m2
      have e2 : (m2 = rd left j ∨ m2 = m) ∧ 0 ≤ m2 ∧ m2 ≤ rd left j ∧ (0 ≤ m → m2 ≤ m) := by
        rw [← hm2]
        split
        · exact ⟨.inl rfl, hj0, Int.le_refl _, fun h => by omega⟩
        · split
          · exact ⟨.inl rfl, hj0, Int.le_refl _, fun h => by omega⟩
          · exact ⟨.inr rfl, by omega, by omega, fun h => by omega⟩
      obtain ⟨h1, h2, h3, h4, h5⟩ := minL_spec left og E m2 hE (by omega)
      refine ⟨?_, fun h => by have := h2 e2.2.1; have := e2.2.2.2 h; omega, fun i hi ho => ?_, h4, fun _ => h5 e2.2.1⟩
      · rcases h1 with h1 | ⟨i, hi, e⟩
        · rcases e2.1 with e | e
          · exact .inr ⟨j, List.mem_cons_self, hog, h1.trans e⟩
          · exact .inl (h1.trans e)
        · exact .inr ⟨i, List.mem_cons_of_mem _ hi, e⟩
      · rcases List.mem_cons.1 hi with rfl | hi
        · exact ⟨h5 e2.2.1, by have := h2 e2.2.1; omega⟩
        · exact h3 i hi ho
def subL (m : Int) : List Int → List Int → List Int
  | left, [] => left
  | left, i :: E => subL m (left.set i.toNat (wrap64 (rd left i - m))) E
theorem subL_length (m : Int) : ∀ (E left : List Int), (subL m left E).length = left.length
  | [], _ => rfl
  | i :: E, left => by rw [subL, subL_length m E, List.length_set]
theorem rd_set (L : List Int) (i j : Nat) (x : Int) (h : i < L.length) : rd (L.set i x) (j : Int) = if j = i then x else rd L (j : Int) := by
  simp only [rd, Int.toNat_natCast, List.getD, List.getElem?_set]
  by_cases e : i = j
  · subst e; simp [h]
  · rw [if_neg e, if_neg (fun h => e h.symm)]
theorem subL_rd (m : Int) : ∀ (E left : List Int), (∀ x ∈ E, ∃ i : Nat, x = (i : Int) ∧ i < left.length) → E.Nodup → (∀ x ∈ E, wrap64 (rd left x - m) = rd left x - m) → ∀ j : Nat, rd (subL m left E) (j : Int) = if (j : Int) ∈ E then rd left (j : Int) - m else rd left (j : Int)
  | [], _, _, _, _, j => by simp [subL]
  | x :: E, left, hE, hd, hw, j => by
    obtain ⟨i, rfl, hi⟩ := hE x List.mem_cons_self
    rw [List.nodup_cons] at hd
    rw [subL, Int.toNat_natCast]
    have hr : ∀ j : Nat, rd (left.set i (wrap64 (rd left (i : Int) - m))) (j : Int) = if j = i then wrap64 (rd left (i : Int) - m) else rd left (j : Int) := fun j => rd_set left i j _ hi
    rw [subL_rd m E _ (fun y hy => by obtain ⟨t, e, ht⟩ := hE y (List.mem_cons_of_mem _ hy); exact ⟨t, e, by rw [List.length_set]; exact ht⟩) hd.2 (fun y hy => by
      obtain ⟨t, rfl, ht⟩ := hE y (List.mem_cons_of_mem _ hy)
      have hne : t ≠ i := fun e => hd.1 (e ▸ hy)
      rw [hr, if_neg hne]
      exact hw _ (List.mem_cons_of_mem _ hy)) j, hr]
    by_cases e : j = i
    · subst e
      rw [if_neg hd.1, if_pos rfl, if_pos List.mem_cons_self]
      exact hw _ List.mem_cons_self
    · rw [if_neg e]
      have : ((j : Int) ∈ (i : Int) :: E) ↔ (j : Int) ∈ E := by
        rw [List.mem_cons]
        exact ⟨fun h => h.resolve_left (by omega), .inr⟩
      by_cases hm : (j : Int) ∈ E
      · rw [if_pos hm, if_pos (this.2 hm)]
      · rw [if_neg hm, if_neg (fun h => hm (this.1 h))]
section
variable {n : Nat} {l : List S30}
def chEnd (n : Int) (l : List S30) (k : Nat) (o : Int → Option Bool) (left : List Int) (cost : Int) (proof : List S41) (t m : Int) : Option (Int × List S41 × Bool) :=
  if m < 0 then some (0, [], false) else (branch_town_entering.f k n l t).bind fun e => branch_town_cheapest.l2 k o left cost proof t m e (e.length : Int) 0 n l
theorem ch_l1 (o : Int → Option Bool) (og : Int → Bool) (left : List Int) (cost : Int) (proof : List S41) (t : Int) (E : List Int) (ho : ∀ x ∈ E, o x = some (og x)) (hE : ∀ x ∈ E, ∃ i : Nat, x = (i : Int) ∧ i < left.length) (hlen : E.length < 1000) :
    ∀ (d q k : Nat) (m : Int), q + d = E.length →
    branch_town_cheapest.l1 (k + d + 1) o left cost proof t m E (E.length : Int) (q : Int) (n : Int) l =
      chEnd (n : Int) l k o left cost proof t (minL left og (E.drop q) m)
  | 0, q, k, m, h => by
    simp only [branch_town_cheapest.l1]
    rw [if_neg (by omega), List.drop_eq_nil_of_le (by omega)]
    rfl
  | d + 1, q, k, m, h => by
    have hq : q < E.length := by omega
    have hw := wrap_nat q (by omega)
    have hm := rd_mem4 E q hq
    have hox := ho _ hm
    obtain ⟨i, hi, hil⟩ := hE _ hm
    have ih := fun m => ch_l1 o og left cost proof t E ho hE hlen d (q + 1) k m (by omega)
    rw [show k + (d + 1) + 1 = (k + d + 1) + 1 from by omega]
    rw [drop_rdI4 E q hq]
    simp only [minL]
    generalize k + d + 1 = qq at ih
    simp only [branch_town_cheapest.l1, hw]
    rw [if_pos (by omega), if_pos (by omega), if_pos (by omega), hox, Option.bind_some]
    generalize rd E (q : Int) = x at hi
    subst hi
    by_cases hog : og (i : Int) = true
    · rw [if_pos hog, if_pos hog]
      exact ih m
    · rw [if_neg hog, if_neg hog]
      by_cases h1 : m < 0
      · rw [if_pos h1, if_pos h1, if_pos (by omega), if_pos (by omega)]
        exact ih _
      · rw [if_neg h1, if_neg h1, if_pos (by omega), if_pos (by omega)]
        by_cases h2 : rd left (i : Int) < m
        · rw [if_pos h2, if_pos h2]; exact ih _
        · rw [if_neg h2, if_neg h2]; exact ih _
theorem ch_l2 (o : Int → Option Bool) (cost : Int) (proof : List S41) (t m : Int) (E : List Int) (hlen : E.length < 1000) :
    ∀ (d q k : Nat) (left : List Int), (∀ x ∈ E, ∃ i : Nat, x = (i : Int) ∧ i < left.length) → q + d = E.length →
    branch_town_cheapest.l2 (k + d + 1) o left cost proof t m E (E.length : Int) (q : Int) (n : Int) l =
      if m > 0 then (if proof.length < 8796093022208 then branch_town_cheapest.l0 k o (subL m left (E.drop q)) (wrap64 (cost + m)) (proof ++ [(⟨t, m⟩ : S41)]) (n : Int) l else none) else branch_town_cheapest.l0 k o (subL m left (E.drop q)) cost proof (n : Int) l
  | 0, q, k, left, _, h => by
    simp only [branch_town_cheapest.l2]
    rw [if_neg (by omega), List.drop_eq_nil_of_le (by omega)]
    rfl
  | d + 1, q, k, left, hE, h => by
    have hq : q < E.length := by omega
    have hw := wrap_nat q (by omega)
    have hm := rd_mem4 E q hq
    obtain ⟨i, hi, hil⟩ := hE _ hm
    have ih := ch_l2 o cost proof t m E hlen d (q + 1) k (left.set (rd E (q : Int)).toNat (wrap64 (rd left (rd E (q : Int)) - m))) (fun y hy => by obtain ⟨z, e, hz⟩ := hE y hy; exact ⟨z, e, by rw [List.length_set]; exact hz⟩) (by omega)
    rw [show k + (d + 1) + 1 = (k + d + 1) + 1 from by omega]
    rw [drop_rdI4 E q hq]
    simp only [subL]
    rw [← ih]
    clear ih
    generalize k + d + 1 = qq
    simp only [branch_town_cheapest.l2, hw]
    rw [if_pos (by omega), if_pos (by omega), if_pos (by omega), if_pos (by omega), if_pos (by omega)]
end
/-- The worth of the sets that street i enters. -/
def worthAt (l : List S30) (i : Nat) : List S41 → Int
  | [] => 0
  | p :: P => worthAt l i P + if entB l p.f0.toNat i = true then p.f1 else 0
def worthAll : List S41 → Int
  | [] => 0
  | p :: P => worthAll P + p.f1
theorem worthAt_app (l : List S30) (i : Nat) (p : S41) : ∀ P, worthAt l i (P ++ [p]) = worthAt l i P + if entB l p.f0.toNat i = true then p.f1 else 0
  | [] => by simp [worthAt]
  | x :: P => by
    simp only [List.cons_append, worthAt]
    rw [worthAt_app l i p P]
    omega
theorem worthAll_app (p : S41) : ∀ P, worthAll (P ++ [p]) = worthAll P + p.f1
  | [] => by simp [worthAll]
  | x :: P => by
    simp only [List.cons_append, worthAll]
    rw [worthAll_app p P]
    omega
/-- A set of corners, as_ a price names it. -/
def IsSetN (n : Nat) (s : Int) : Prop := 0 < s ∧ s < 2 ^ n ∧ s.toNat.testBit 0 = false
structure ProofOk (n : Nat) (l : List S30) (T : Nat → Prop) (price : List Int) (P : List S41) (v : Int) : Prop where
  sets : ∀ p ∈ P, IsSetN n p.f0 ∧ 1 ≤ p.f1 ∧ p.f1 ≤ 1000
  apart : (P.map fun p => p.f0).Nodup
  worth : worthAll P = v
  below : ∀ i, T i → worthAt l i P ≤ rd price (i : Int)
/-- What stands at each round. -/
structure ChInv (n : Nat) (l : List S30) (og : Int → Bool) (price left : List Int) (cost : Int) (P : List S41) : Prop where
  len : left.length = l.length
  low : ∀ i : Nat, i < l.length → -(1000 * (P.length : Int)) ≤ rd left (i : Int) ∧ rd left (i : Int) ≤ 1000
  pos : ∀ i, onT l og i → 0 ≤ rd left (i : Int)
  opt : ∀ v, Opt n (aW l) (bW l) (onT l og) (fun i => rd left (i : Int)) v → Opt n (aW l) (bW l) (onT l og) (fun i => rd price (i : Int)) (v + cost)
  sets : ∀ p ∈ P, IsSetN n p.f0 ∧ 1 ≤ p.f1 ∧ p.f1 ≤ 1000 ∧ ∃ i, onT l og i ∧ rd left (i : Int) = 0 ∧ entB l p.f0.toNat i = true
  apart : (P.map fun p => p.f0).Nodup
  worth : worthAll P = cost
  bal : ∀ i : Nat, i < l.length → worthAt l i P + rd left (i : Int) = rd price (i : Int)
  many : cost ≤ 1000 * (P.length : Int) ∧ 0 ≤ cost
def zerosB (l : List S30) (og : Int → Bool) (left : List Int) (i : Nat) : Bool := !og (i : Int) && decide (rd left (i : Int) = 0)
section
variable {n : Nat} {l : List S30}
theorem ch_loop (hn1 : 1 ≤ n) (hn : n ≤ 7) (hl : l.length ≤ 30) (hx : ∀ x ∈ l, wayOk n x = true) (o : Int → Option Bool) (og : Int → Bool) (ho : ∀ i : Nat, i < l.length → o (i : Int) = some (og (i : Int))) (price : List Int) (hpl : price.length = l.length) :
    ∀ (c : Nat) (left : List Int) (cost : Int) (P : List S41), ChInv n l og price left cost P → l.length ≤ cntN (zerosB l og left) l.length + c → P.length + c ≤ 31 →
    ∃ r : Int × List S41 × Bool, (∀ k, 400 + 70 * c ≤ k → branch_town_cheapest.l0 k o left cost P (n : Int) l = some r) ∧
      ((r.2.2 = true ∧ Opt n (aW l) (bW l) (onT l og) (fun i => rd price (i : Int)) r.1 ∧ ProofOk n l (onT l og) price r.2.1 r.1 ∧ r.2.1.length ≤ 31) ∨ (r = (0, [], false) ∧ ∀ f, ¬ IsB n (aW l) (bW l) (onT l og) f)) := by
  intro c
  induction c with
  | zero => ?_
  | succ c ih => ?_
  all_goals
    intro left cost P hI hc hc2
    obtain ⟨q, hq, hal, hz, hS⟩ := alone_spec hn1 hn hl hx left hI.len o og ho
    have hp7 : 2 ^ n ≤ 2 ^ 7 := Nat.pow_le_pow_right (by decide) hn
    have hq7 : q < 128 := Nat.lt_of_lt_of_le hq hp7
    by_cases hq0 : q = 0
    · refine ⟨(cost, P, true), fun k hk => ?_, .inl ⟨rfl, ?_, ⟨fun p hp => ⟨(hI.sets p hp).1, (hI.sets p hp).2.1, (hI.sets p hp).2.2.1⟩, hI.apart, hI.worth, fun i hi => ?_⟩, by show P.length ≤ 31; omega⟩⟩
      · obtain ⟨k, rfl⟩ : ∃ k', k = k' + 1 := ⟨k - 1, by omega⟩
        simp only [branch_town_cheapest.l0]
        rw [hal k (by omega), Option.bind_some, hq0, if_pos (by rfl)]
      · have := hI.opt 0 (Opt.nothing (fun i h => onT_lt hx i h) hI.pos (hz hq0))
        rwa [Int.zero_add] at this
      · have h1 := hI.bal i hi.1
        have h2 := hI.pos i hi
        show worthAt l i P ≤ _
        omega
    have hA := hS hq0
    have hzs : ∀ i, onT l og i → rd left (i : Int) = 0 → entB l q i = false := by
      intro i ht h0
      have := hA.out i ht h0
      unfold entB
      cases hb : q.testBit (bW l i) with
      | false => simp
      | true => rw [this hb]; rfl
    have hE := fun k (hk : 40 ≤ k) => entering_f (n := n) hn hl hx hq7 k hk
    have hEm := entL_mem l q
    have hEn := entL_nat l q
    have hEl := entL_length l q
    have hEpos : ∀ x ∈ entL l q, og x = false → 0 ≤ rd left x := by
      intro x hxE hox
      obtain ⟨i, rfl, hi⟩ := hEn x hxE
      exact hI.pos i ⟨hi, hox⟩
    obtain ⟨m1, m2, m3, m4, m5⟩ := minL_spec left og (entL l q) (-1) hEpos (by omega)
    have M1 := Aside0.mk m1
    clear m1
    have hl0 : ∀ k, 400 ≤ k → branch_town_cheapest.l0 k o left cost P (n : Int) l = if minL left og (entL l q) (-1) < 0 then some (0, [], false) else branch_town_cheapest.l2 (k - (entL l q).length - 2) o left cost P (q : Int) (minL left og (entL l q) (-1)) (entL l q) ((entL l q).length : Int) 0 (n : Int) l := by
      intro k hk
      obtain ⟨k, rfl⟩ : ∃ k', k = k' + 1 := ⟨k - 1, by omega⟩
      have h1 := ch_l1 (n := n) (l := l) o og left cost P (q : Int) (entL l q) (fun x hxE => by obtain ⟨i, rfl, hi⟩ := hEn x hxE; exact ho i hi) (fun x hxE => by obtain ⟨i, e, hi⟩ := hEn x hxE; exact ⟨i, e, by rw [hI.len]; exact hi⟩) (by omega) (entL l q).length 0 (k - (entL l q).length - 1) (-1) (by omega)
      rw [show k - (entL l q).length - 1 + (entL l q).length + 1 = k from by omega, List.drop_zero] at h1
      unfold chEnd at h1
      rw [hE _ (by omega), Option.bind_some] at h1
      simp only [branch_town_cheapest.l0]
      rw [hal k (by omega), Option.bind_some, if_neg (by omega), hE k (by omega), Option.bind_some]
      rw [show k + 1 - (entL l q).length - 2 = k - (entL l q).length - 1 from by omega]
      exact h1
    by_cases hm : minL left og (entL l q) (-1) < 0
    · refine ⟨(0, [], false), fun k hk => by rw [hl0 k (by omega), if_pos hm], .inr ⟨rfl, no_branching (S := fun c => q.testBit c = true) hA.h0 hA.ne fun i ht hb => ?_⟩⟩
      refine Classical.byContradiction fun hna => ?_
      have hent : entB l q i = true := by unfold entB; rw [hb, Bool.eq_false_iff.mpr hna]; rfl
      have := (m3 (i : Int) ((hEm i).2 ⟨ht.1, hent⟩) ht.2).1
      omega
    obtain ⟨j, hjE, hjo, hjm⟩ : ∃ i ∈ entL l q, og i = false ∧ minL left og (entL l q) (-1) = rd left i := by
      rcases M1.out with h | h
      · omega
      · exact h
    clear M1
    obtain ⟨j, rfl, hj⟩ := hEn j hjE
    generalize hmm : minL left og (entL l q) (-1) = m at *
    have hjent := ((hEm j).1 hjE).2
    have hm1 : 1 ≤ m := by
      have := hzs j ⟨hj, hjo⟩
      rw [hjent] at this
      have h0 : rd left (j : Int) ≠ 0 := fun e => absurd (this e) (by decide)
      omega
    have hm1000 : m ≤ 1000 := by have := (hI.low j hj).2; omega
    have hwr : ∀ x ∈ entL l q, wrap64 (rd left x - m) = rd left x - m := by
      intro x hxE
      obtain ⟨i, rfl, hi⟩ := hEn x hxE
      have := hI.low i hi
      unfold wrap64
      omega
    have hrd := subL_rd m (entL l q) left (fun x hxE => by obtain ⟨i, e, hi⟩ := hEn x hxE; exact ⟨i, e, by rw [hI.len]; exact hi⟩) (entL_nodup l q) hwr
    have hrd2 : ∀ i : Nat, i < l.length → rd (subL m left (entL l q)) (i : Int) = if entB l q i = true then rd left (i : Int) - m else rd left (i : Int) := by
      intro i hi
      rw [hrd i]
      by_cases he : entB l q i = true
      · rw [if_pos ((hEm i).2 ⟨hi, he⟩), if_pos he]
      · rw [if_neg (fun h => he ((hEm i).1 h).2), if_neg he]
    have hposT : ∀ i, onT l og i → 0 ≤ rd (subL m left (entL l q)) (i : Int) := by
      intro i ht
      rw [hrd2 i ht.1]
      have := hI.pos i ht
      split
      · rename_i he
        have := (m3 (i : Int) ((hEm i).2 ⟨ht.1, he⟩) ht.2).2
        omega
      · exact this
    have hzero : ∀ i, onT l og i → rd left (i : Int) = 0 → rd (subL m left (entL l q)) (i : Int) = 0 := by
      intro i ht h0
      rw [hrd2 i ht.1, if_neg (by rw [hzs i ht h0]; decide)]
      exact h0
    have hjz : rd (subL m left (entL l q)) (j : Int) = 0 := by
      rw [hrd2 j hj, if_pos hjent]; omega
    have hcl := hI.many
    have hwc : wrap64 (cost + m) = cost + m := by unfold wrap64; omega
    have hset : IsSetN n (q : Int) := by
      refine ⟨by omega, by exact_mod_cast hq, ?_⟩
      rw [Int.toNat_natCast]
      exact Bool.eq_false_iff.mpr hA.h0
    have hnew : ChInv n l og price (subL m left (entL l q)) (cost + m) (P ++ [(⟨(q : Int), m⟩ : S41)]) := by
      refine ⟨by rw [subL_length]; exact hI.len, fun i hi => ?_, hposT, fun v hv => ?_, fun p hp => ?_, ?_, ?_, fun i hi => ?_, ?_⟩
      · rw [hrd2 i hi, List.length_append, List.length_singleton]
        have := hI.low i hi
        split <;> omega
      · have h1 := Opt.priced (p := fun i => rd left (i : Int)) (q := fun i => rd (subL m left (entL l q)) (i : Int)) (S := fun c => q.testBit c = true) (mm := m) (fun i h => onT_lt hx i h) hA (by omega) hI.pos
          (fun i ht hb ha => (m3 (i : Int) ((hEm i).2 ⟨ht.1, by unfold entB; rw [hb, Bool.eq_false_iff.mpr ha]; rfl⟩) ht.2).2)
          (fun i ht hb ha => by show rd (subL m left (entL l q)) (i : Int) = _; rw [hrd2 i ht.1, if_pos (by unfold entB; rw [hb, Bool.eq_false_iff.mpr ha]; rfl)])
          (fun i ht hno => by
            show rd (subL m left (entL l q)) (i : Int) = _
            rw [hrd2 i ht.1, if_neg]
            intro he
            unfold entB at he
            rw [Bool.and_eq_true, Bool.not_eq_true'] at he
            exact hno ⟨he.2, fun h => by rw [he.1] at h; exact absurd h (by decide)⟩) hv
        have h2 := hI.opt _ h1
        rw [show v + (cost + m) = v + m + cost from by omega]
        exact h2
      · rcases List.mem_append.1 hp with hp | hp
        · obtain ⟨a1, a2, a3, i, a4, a5, a6⟩ := hI.sets p hp
          exact ⟨a1, a2, a3, i, a4, hzero i a4 a5, a6⟩
        · obtain rfl := List.mem_singleton.1 hp
          exact ⟨hset, hm1, hm1000, j, ⟨hj, hjo⟩, hjz, by rw [Int.toNat_natCast]; exact hjent⟩
      · rw [List.map_append, List.nodup_append]
        refine ⟨hI.apart, by simp, fun x hxm y hy e => ?_⟩
        obtain rfl : y = (q : Int) := by simpa using hy
        obtain ⟨p, hp, rfl⟩ := List.mem_map.1 hxm
        obtain ⟨_, _, _, i, a4, a5, a6⟩ := hI.sets p hp
        rw [e, Int.toNat_natCast, hzs i a4 a5] at a6
        exact absurd a6 (by decide)
      · rw [worthAll_app, hI.worth]
      · rw [worthAt_app, hrd2 i hi, Int.toNat_natCast]
        have := hI.bal i hi
        show worthAt l i P + (if entB l q i = true then m else 0) + _ = _
        split <;> omega
      · rw [List.length_append, List.length_singleton]
        omega
    have hmeas : cntN (zerosB l og left) l.length < cntN (zerosB l og (subL m left (entL l q))) l.length := by
      refine cntN_lt l.length (fun i hi h => ?_) j hj ?_ ?_
      · unfold zerosB at h ⊢
        rw [Bool.and_eq_true, Bool.not_eq_true', decide_eq_true_eq] at h ⊢
        exact ⟨h.1, hzero i ⟨hi, h.1⟩ h.2⟩
      · unfold zerosB
        rw [hjo, hjz]; rfl
      · unfold zerosB
        rw [decide_eq_false (by omega), Bool.and_false]
    have hcb := cntN_bound (zerosB l og (subL m left (entL l q))) l.length
  · omega
  · obtain ⟨r, hr1, hr2⟩ := ih (subL m left (entL l q)) (cost + m) (P ++ [(⟨(q : Int), m⟩ : S41)]) hnew (by omega) (by rw [List.length_append, List.length_singleton]; omega)
    refine ⟨r, fun k hk => ?_, hr2⟩
    rw [hl0 k (by omega), if_neg hm]
    have h2 := ch_l2 (n := n) (l := l) o cost P (q : Int) m (entL l q) (by omega) (entL l q).length 0 (k - (entL l q).length - 2 - (entL l q).length - 1) left (fun x hxE => by obtain ⟨i, e, hi⟩ := hEn x hxE; exact ⟨i, e, by rw [hI.len]; exact hi⟩) (by omega)
    rw [show k - (entL l q).length - 2 - (entL l q).length - 1 + (entL l q).length + 1 = k - (entL l q).length - 2 from by omega, List.drop_zero, if_pos (by omega), if_pos (by omega), hwc] at h2
    exact h2.trans (hr1 _ (by omega))
/-- cheapest's answer. -/
theorem cheapest_spec (hn1 : 1 ≤ n) (hn : n ≤ 7) (hl : l.length ≤ 30) (hx : ∀ x ∈ l, wayOk n x = true) (o : Int → Option Bool) (og : Int → Bool) (ho : ∀ i : Nat, i < l.length → o (i : Int) = some (og (i : Int))) (price : List Int) (hpl : price.length = l.length) (hp : ∀ i : Nat, i < l.length → 0 ≤ rd price (i : Int) ∧ rd price (i : Int) ≤ 1000) :
    ∃ r : Int × List S41 × Bool, (∀ k, 3000 ≤ k → branch_town_cheapest.f k (n : Int) l price o = some r) ∧
      ((r.2.2 = true ∧ Opt n (aW l) (bW l) (onT l og) (fun i => rd price (i : Int)) r.1 ∧ ProofOk n l (onT l og) price r.2.1 r.1 ∧ r.2.1.length ≤ 31) ∨ (r = (0, [], false) ∧ ∀ f, ¬ IsB n (aW l) (bW l) (onT l og) f)) := by
  have h0 : ChInv n l og price price 0 [] := by
    refine ⟨hpl, fun i hi => ⟨by have := (hp i hi).1; simpa using this, (hp i hi).2⟩, fun i hi => (hp i hi.1).1, fun v hv => by rwa [Int.add_zero], fun p hp => absurd hp (by simp), by simp, rfl, fun i hi => by simp [worthAt], by simp⟩
  obtain ⟨r, h1, h2⟩ := ch_loop hn1 hn hl hx o og ho price hpl l.length price 0 [] h0 (by omega) (by simp; omega)
  refine ⟨r, fun k hk => ?_, h2⟩
  unfold branch_town_cheapest.f slices_Clone.f
  rw [if_pos (by omega), Option.bind_some]
  exact h1 k (by omega)
end
end Go.Proofs.Ytpmadffgdfholaa.B
namespace Go.Proofs.Ytpmadffgdfholaa.B
set_option linter.unusedVariables false
open Go.RowKit Go.Proofs.YtpmadffgdfholaaW.PrintWords Go.Proofs.YtpmadffgdfholaaW.PrintLast Go.Proofs.YtpmadffgdfholaaW.PrintMore
/-- Is street j one of the branching's? -/
def useB (n : Nat) (b : Nat → Nat) (f : Nat → Nat) (j : Nat) : Bool := decide (0 < b j) && decide (b j < n) && decide (f (b j) = j)
theorem useB_iff {n : Nat} {b f : Nat → Nat} {j : Nat} : useB n b f j = true ↔ 0 < b j ∧ b j < n ∧ f (b j) = j := by
  unfold useB
  simp [and_assoc]
/-- The indices of a choice of streets, ascending. -/
def selL (X : Nat → Bool) (i : Nat) : List Int := ((List.range i).filter X).map fun j : Nat => (j : Int)
theorem selL_succ (X : Nat → Bool) (i : Nat) : selL X (i + 1) = if X i = true then selL X i ++ [(i : Int)] else selL X i := by
  unfold selL
  rw [List.range_succ, List.filter_append, List.map_append]
  by_cases h : X i = true
  · rw [if_pos h, List.filter_cons_of_pos h]; rfl
  · rw [if_neg h, List.filter_cons_of_neg h]; simp
theorem selL_congr {X Y : Nat → Bool} : ∀ i, (∀ j, j < i → X j = Y j) → selL X i = selL Y i
  | 0, _ => rfl
  | i + 1, h => by rw [selL_succ, selL_succ, selL_congr i (fun j hj => h j (by omega)), h i (by omega)]
theorem selL_mem (X : Nat → Bool) (i j : Nat) : (j : Int) ∈ selL X i ↔ j < i ∧ X j = true := by
  unfold selL
  simp only [List.mem_map, List.mem_filter, List.mem_range]
  constructor
  · rintro ⟨q, h, e⟩
    obtain rfl : q = j := by omega
    exact h
  · exact fun h => ⟨j, h, rfl⟩
theorem selL_nat (X : Nat → Bool) (i : Nat) : ∀ x ∈ selL X i, ∃ j : Nat, x = (j : Int) ∧ j < i ∧ X j = true := by
  intro x hx
  unfold selL at hx
  obtain ⟨j, hj, rfl⟩ := List.mem_map.1 hx
  have := List.mem_filter.1 hj
  exact ⟨j, rfl, List.mem_range.1 this.1, this.2⟩
theorem selL_length (X : Nat → Bool) (i : Nat) : (selL X i).length ≤ i := by
  unfold selL
  rw [List.length_map]
  exact Nat.le_trans (List.length_filter_le _ _) (by simp)
theorem contains_l0 (list : List Int) (o : Int → Option Bool) (P : Int → Bool) (ho : ∀ x ∈ list, o x = some (P x)) (hl : list.length < 1000) : ∀ (d q k : Nat), q + d = list.length →
    ∃ r : Int, slices_IndexFunc_int_int.l0 (k + d + 1) list o (list.length : Int) (q : Int) = some r ∧ (0 ≤ r ↔ ∃ x ∈ list.drop q, P x = true)
  | 0, q, k, h => by
    refine ⟨-1, ?_, fun h => absurd h (by decide), fun ⟨x, hx, _⟩ => ?_⟩
    · simp only [slices_IndexFunc_int_int.l0]
      rw [if_neg (by omega)]
    · rw [List.drop_eq_nil_of_le (by omega)] at hx
      exact absurd hx (by simp)
  | d + 1, q, k, h => by
    have hq : q < list.length := by omega
    have hw := wrap_nat q (by omega)
    have hox := ho _ (rd_mem4 list q hq)
    obtain ⟨r, h1, h2⟩ := contains_l0 list o P ho hl d (q + 1) k (by omega)
    rw [drop_rdI4 list q hq, show k + (d + 1) + 1 = (k + d + 1) + 1 from by omega]
    cases hP : P (rd list (q : Int)) with
    | true =>
      refine ⟨q, ?_, fun _ => ⟨_, List.mem_cons_self, hP⟩, fun _ => by omega⟩
      simp only [slices_IndexFunc_int_int.l0, hw]
      rw [if_pos (by omega), if_pos (by omega), if_pos (by omega), hox, Option.bind_some, hP, if_pos rfl]
    | false =>
      refine ⟨r, ?_, ?_⟩
      · rw [← h1]
        generalize k + d + 1 = qq
        simp only [slices_IndexFunc_int_int.l0, hw]
        rw [if_pos (by omega), if_pos (by omega), if_pos (by omega), hox, Option.bind_some, hP, if_neg (by decide)]
      · rw [h2]
        constructor
        · rintro ⟨x, hx, hp⟩; exact ⟨x, List.mem_cons_of_mem _ hx, hp⟩
        · rintro ⟨x, hx, hp⟩
          rcases List.mem_cons.1 hx with rfl | hx
          · rw [hP] at hp; exact absurd hp (by decide)
          · exact ⟨x, hx, hp⟩
theorem contains_f (list : List Int) (o : Int → Option Bool) (P : Int → Bool) (ho : ∀ x ∈ list, o x = some (P x)) (hl : list.length < 1000) : ∃ r : Bool, (∀ k, list.length + 1 ≤ k → slices_ContainsFunc_int_int.f k list o = some r) ∧ (r = true ↔ ∃ x ∈ list, P x = true) := by
  obtain ⟨r, h1, h2⟩ := contains_l0 list o P ho hl list.length 0 0 (by omega)
  refine ⟨decide (r ≥ 0), fun k hk => ?_, ?_⟩
  · obtain ⟨r', h1', h2'⟩ := contains_l0 list o P ho hl list.length 0 (k - list.length - 1) (by omega)
    rw [show k - list.length - 1 + list.length + 1 = k from by omega] at h1'
    unfold slices_ContainsFunc_int_int.f slices_IndexFunc_int_int.f
    rw [show ((0 : Nat) : Int) = 0 from rfl] at h1'
    rw [h1', Option.bind_some]
    refine congrArg some ?_
    rw [List.drop_zero] at h2 h2'
    by_cases hr : 0 ≤ r
    · rw [decide_eq_true (show r' ≥ 0 from h2'.2 (h2.1 hr)), decide_eq_true (show r ≥ 0 from hr)]
    · rw [decide_eq_false (show ¬ r' ≥ 0 from fun h => hr (h2.2 (h2'.1 h))), decide_eq_false (show ¬ r ≥ 0 from hr)]
  · rw [decide_eq_true_eq]
    rw [List.drop_zero] at h2
    exact h2
/-- Streets X come first before streets Y, up to i: they are the same, or where they differ for the first time, X has the street. -/
def Ahead (X Y : Nat → Bool) (i : Nat) : Prop := (∀ j, j < i → X j = Y j) ∨ ∃ j, j < i ∧ (∀ q, q < j → X q = Y q) ∧ X j = true ∧ Y j = false
/-- The first branching of the least cost. -/
structure FirstB (n : Nat) (l : List S30) (p : Nat → Int) (v : Int) (f : Nat → Nat) : Prop where
  is : IsB n (aW l) (bW l) (fun i => i < l.length) f
  cost : costF n p f = v
  least : ∀ g, IsB n (aW l) (bW l) (fun i => i < l.length) g → v ≤ costF n p g
  ahead : ∀ g, IsB n (aW l) (bW l) (fun i => i < l.length) g → costF n p g = v → Ahead (useB n (bW l) f) (useB n (bW l) g) l.length
/-- What stands ahead of street i. -/
structure FsInv (n : Nat) (l : List S30) (p : Nat → Int) (v : Int) (i : Nat) (X : Nat → Bool) (gone : Int → Bool) : Prop where
  some : ∃ f, IsB n (aW l) (bW l) (onT l gone) f ∧ costF n p f = v
  below : ∀ j, j < i → (X j = true ↔ gone (j : Int) = false)
  lone : ∀ j, j < i → X j = true → 0 < bW l j ∧ ∀ q, q < l.length → bW l q = bW l j → q ≠ j → gone (q : Int) = true
  why : ∀ q, i ≤ q → q < l.length → gone (q : Int) = true → ∃ j, j < i ∧ X j = true ∧ bW l q = bW l j
  first : ∀ g, IsB n (aW l) (bW l) (fun i => i < l.length) g → costF n p g = v → Ahead X (useB n (bW l) g) i
section
variable {n : Nat} {l : List S30} {p : Nat → Int} {v : Int}
theorem mem_toB (l : List S30) (b : Int) (i : Nat) : (i : Int) ∈ toB l l.length b ↔ i < l.length ∧ (rd_T30 l (i : Int)).f1 = b := by
  unfold toB
  simp only [List.mem_map, List.mem_filter, List.mem_range, beq_iff_eq]
  constructor
  · rintro ⟨q, h, e⟩
    obtain rfl : q = i := by omega
    exact h
  · exact fun h => ⟨i, h, rfl⟩
theorem bW_eq {n : Nat} (hx : ∀ x ∈ l, wayOk n x = true) (i : Nat) (h : i < l.length) : (rd_T30 l (i : Int)).f1 = (bW l i : Int) ∧ (rd_T30 l (i : Int)).f0 = (aW l i : Int) ∧ bW l i < n ∧ aW l i < n := by
  have := (wayOk_iff n _).1 (hx _ (rd_T30_mem l i h))
  unfold bW aW
  omega
/-- Streets that agree with the list up to i are not gone. -/
theorem FsInv.agree {i : Nat} {X : Nat → Bool} {gone : Int → Bool} (h : FsInv n l p v i X gone) {g : Nat → Nat} (hg : IsB n (aW l) (bW l) (fun i => i < l.length) g) (ha : ∀ j, j < i → X j = useB n (bW l) g j) : IsB n (aW l) (bW l) (onT l gone) g := by
  refine hg.within fun c c0 c1 => ⟨(hg.on c c0 c1).1, ?_⟩
  have hb := (hg.on c c0 c1).2
  have hu : useB n (bW l) g (g c) = true := useB_iff.2 ⟨by omega, by omega, by rw [hb]⟩
  by_cases hlt : g c < i
  · exact (h.below _ hlt).1 ((ha _ hlt).trans hu)
  · cases hgo : gone ((g c : Nat) : Int) with
    | false => rfl
    | true =>
      obtain ⟨j, hj, hX, hbj⟩ := h.why (g c) (by omega) (hg.on c c0 c1).1 hgo
      have h2 := useB_iff.1 ((ha j hj).symm.trans hX)
      rw [← hbj, hb] at h2
      omega
theorem FsInv.skip {i : Nat} {X : Nat → Bool} {gone : Int → Bool} (h : FsInv n l p v i X gone) (hX : X i = false) (hno : ∀ g, IsB n (aW l) (bW l) (onT l gone) g → costF n p g = v → useB n (bW l) g i = false) :
    FsInv n l p v (i + 1) X (fun j => decide (j = (i : Int)) || gone j) := by
  refine ⟨?_, fun j hj => ?_, fun j hj hXj => ?_, fun q hq hql hgo => ?_, fun g hg hc => ?_⟩
  · obtain ⟨f, hf, hc⟩ := h.some
    refine ⟨f, hf.within fun c c0 c1 => ⟨(hf.on c c0 c1).1.1, ?_⟩, hc⟩
    dsimp only
    rw [(hf.on c c0 c1).1.2, Bool.or_false, decide_eq_false_iff_not]
    intro e
    have e2 : f c = i := by omega
    have := hno f hf hc
    have hu : useB n (bW l) f (f c) = true := useB_iff.2 ⟨by rw [(hf.on c c0 c1).2]; omega, by rw [(hf.on c c0 c1).2]; omega, by rw [(hf.on c c0 c1).2]⟩
    rw [e2, this] at hu
    exact absurd hu (by decide)
  · by_cases e : j = i
    · subst e; simp [hX]
    · rw [h.below j (by omega), decide_eq_false (by omega), Bool.false_or]
  · have hne : j ≠ i := by rintro rfl; rw [hX] at hXj; exact absurd hXj (by decide)
    obtain ⟨h1, h2⟩ := h.lone j (by omega) hXj
    exact ⟨h1, fun q hq hb hqj => by rw [h2 q hq hb hqj, Bool.or_true]⟩
  · rw [decide_eq_false (by omega), Bool.false_or] at hgo
    obtain ⟨j, hj, h2⟩ := h.why q (by omega) hql hgo
    exact ⟨j, by omega, h2⟩
  · rcases h.first g hg hc with ha | ⟨j, hj, h2⟩
    · refine .inl fun j hj => ?_
      by_cases e : j = i
      · subst e; rw [hX, hno g (h.agree hg ha) hc]
      · exact ha j (by omega)
    · exact .inr ⟨j, by omega, h2⟩
theorem FsInv.take {i : Nat} {X : Nat → Bool} {gone : Int → Bool} (h : FsInv n l p v i X gone) (hX : X i = false) (hb0 : 0 < bW l i) (hil : i < l.length) (more : Int → Bool) (hmore : ∀ q : Nat, q < l.length → (more (q : Int) = true ↔ bW l q = bW l i ∧ q ≠ i)) (hgi : gone (i : Int) = false)
    (hyes : ∃ g, IsB n (aW l) (bW l) (onT l (fun j => gone j || more j)) g ∧ costF n p g = v) (hfree : ∀ j, j < i → X j = true → bW l j ≠ bW l i) :
    FsInv n l p v (i + 1) (fun j => X j || decide (j = i)) (fun j => gone j || more j) := by
  refine ⟨hyes, fun j hj => ?_, fun j hj hXj => ?_, fun q hq hql hgo => ?_, fun g hg hc => ?_⟩
  · by_cases e : j = i
    · subst e
      rw [hgi, Bool.false_or]
      simp only [decide_true, Bool.or_true, true_iff]
      refine Bool.eq_false_iff.mpr fun hm => ?_
      exact ((hmore j hil).1 hm).2 rfl
    · rw [decide_eq_false e, Bool.or_false, h.below j (by omega), Bool.or_eq_false_iff]
      constructor
      · intro hgj
        refine ⟨hgj, Bool.eq_false_iff.mpr fun hm => ?_⟩
        have hXj := (h.below j (by omega)).2 hgj
        exact hfree j (by omega) hXj ((hmore j (by omega)).1 hm).1
      · exact fun hh => hh.1
  · by_cases e : j = i
    · subst e
      exact ⟨hb0, fun q hq hb hqj => by rw [(hmore q hq).2 ⟨hb, hqj⟩, Bool.or_true]⟩
    · rw [decide_eq_false e, Bool.or_false] at hXj
      obtain ⟨h1, h2⟩ := h.lone j (by omega) hXj
      exact ⟨h1, fun q hq hb hqj => by rw [h2 q hq hb hqj, Bool.true_or]⟩
  · rcases Bool.or_eq_true_iff.1 hgo with hgo | hgo
    · obtain ⟨j, hj, hXj, hb⟩ := h.why q (by omega) hql hgo
      exact ⟨j, by omega, by rw [hXj, Bool.true_or], hb⟩
    · exact ⟨i, by omega, by simp, ((hmore q hql).1 hgo).1⟩
  · rcases h.first g hg hc with ha | ⟨j, hj, hq, h2⟩
    · cases hu : useB n (bW l) g i with
      | true =>
        refine .inl fun j hj => ?_
        by_cases e : j = i
        · subst e; rw [hu]; simp
        · dsimp only; rw [decide_eq_false e, Bool.or_false]; exact ha j (by omega)
      | false =>
        refine .inr ⟨i, by omega, fun q hq => ?_, by simp, hu⟩
        dsimp only
        rw [decide_eq_false (by omega), Bool.or_false]; exact ha q hq
    · refine .inr ⟨j, by omega, fun q hq2 => ?_, by dsimp only; rw [h2.1, Bool.true_or], h2.2⟩
      dsimp only
      rw [decide_eq_false (by omega), Bool.or_false]; exact hq q hq2
/-- At the end. -/
theorem FsInv.last (hx : ∀ x ∈ l, wayOk n x = true) {X : Nat → Bool} {gone : Int → Bool} (h : FsInv n l p v l.length X gone) (hmin : ∀ g, IsB n (aW l) (bW l) (fun i => i < l.length) g → v ≤ costF n p g) : ∃ f, FirstB n l p v f ∧ ∀ j, j < l.length → useB n (bW l) f j = X j := by
  obtain ⟨f, hf, hc⟩ := h.some
  have hu : ∀ j, j < l.length → useB n (bW l) f j = X j := by
    intro j hj
    cases hX : X j with
    | true =>
      obtain ⟨h1, h2⟩ := h.lone j hj hX
      have hbn : bW l j < n := (bW_eq hx j hj).2.2.1
      obtain ⟨t, tb⟩ := hf.on (bW l j) h1 hbn
      refine useB_iff.2 ⟨h1, hbn, Classical.byContradiction fun hne => ?_⟩
      have := h2 _ t.1 tb hne
      rw [t.2] at this
      exact absurd this (by decide)
    | false =>
      refine Bool.eq_false_iff.mpr fun hu => ?_
      obtain ⟨u1, u2, u3⟩ := useB_iff.1 hu
      have := (hf.on _ u1 u2).1.2
      rw [u3] at this
      have := (h.below j hj).2 this
      rw [hX] at this
      exact absurd this (by decide)
  refine ⟨f, ⟨hf.mono fun i hi => hi.1, hc, hmin, fun g hg hgc => ?_⟩, hu⟩
  rcases h.first g hg hgc with ha | ⟨j, hj, hq, h1, h2⟩
  · exact .inl fun j hj => (hu j hj).trans (ha j hj)
  · exact .inr ⟨j, hj, fun q hqj => (hu q (by omega)).trans (hq q hqj), (hu j hj).trans h1, h2⟩
theorem first_loop (hn1 : 1 ≤ n) (hn : n ≤ 7) (hl : l.length ≤ 30) (hx : ∀ x ∈ l, wayOk n x = true) (price : List Int) (hpl : price.length = l.length) (hp : ∀ i : Nat, i < l.length → 0 ≤ rd price (i : Int) ∧ rd price (i : Int) ≤ 1000)
    (hmin : ∀ g, IsB n (aW l) (bW l) (fun i => i < l.length) g → v ≤ costF n (fun i => rd price (i : Int)) g) :
    ∀ (c i : Nat) (X : Nat → Bool) (gone : Int → Bool), i + c = l.length → FsInv n l (fun i => rd price (i : Int)) v i X gone → (∀ j, i ≤ j → X j = false) →
    ∃ f, FirstB n l (fun i => rd price (i : Int)) v f ∧ ∀ k, 3000 ≤ k → firstL k (n : Int) l price v c i (selL X i) gone = some (selL (useB n (bW l) f) l.length, v, 0)
  | 0, i, X, gone, h, hI, _ => by
    obtain rfl : i = l.length := by omega
    obtain ⟨f, hf, hu⟩ := hI.last hx hmin
    exact ⟨f, hf, fun k _ => by rw [firstL, selL_congr l.length hu]⟩
  | c + 1, i, X, gone, h, hI, hX => by
    have hi : i < l.length := by omega
    obtain ⟨e1, _, hbn, _⟩ := bW_eq hx i hi
    have hXi := hX i (Nat.le_refl _)
    have hlen := selL_length X i
    have hnat := selL_nat X i
    obtain ⟨sk, hsk, hskiff⟩ := contains_f (selL X i) (fun j => branch_town_first_2.f j (n : Int) l (bW l i : Int)) (fun j => (rd_T30 l j).f1 == (bW l i : Int)) (fun x hxm => by
      obtain ⟨j, rfl, hj, _⟩ := hnat x hxm
      unfold branch_town_first_2.f
      rw [if_pos (by omega), if_pos (by omega)]) (by omega)
    by_cases hskip : bW l i = 0 ∨ sk = true
    · have hno : ∀ g, IsB n (aW l) (bW l) (onT l gone) g → costF n (fun i => rd price (i : Int)) g = v → useB n (bW l) g i = false := by
        intro g hg _
        refine Bool.eq_false_iff.mpr fun hu => ?_
        obtain ⟨u1, u2, u3⟩ := useB_iff.1 hu
        rcases hskip with h0 | hs
        · omega
        · obtain ⟨x, hxm, hP⟩ := hskiff.1 hs
          obtain ⟨j, rfl, hj, hXj⟩ := hnat x hxm
          have hbj : bW l j = bW l i := by
            have := beq_iff_eq.mp hP
            rw [(bW_eq hx j (by omega)).1] at this
            omega
          have := (hI.lone j hj hXj).2 i hi hbj.symm (by omega)
          have h3 := (hg.on _ u1 u2).1.2
          rw [u3, this] at h3
          exact absurd h3 (by decide)
      obtain ⟨f, hf, hk⟩ := first_loop hn1 hn hl hx price hpl hp hmin c (i + 1) X _ (by omega) (hI.skip hXi hno) (fun j hj => hX j (by omega))
      refine ⟨f, hf, fun k hk3 => ?_⟩
      have := hk k hk3
      rw [selL_succ, if_neg (by rw [hXi]; decide)] at this
      rw [firstL, e1]
      rcases hskip with h0 | hs
      · rw [if_pos (by omega), Option.bind_some, if_pos rfl]
        exact this
      · by_cases h0 : bW l i = 0
        · rw [if_pos (by omega), Option.bind_some, if_pos rfl]
          exact this
        · rw [if_neg (by omega), hsk k (by omega), Option.bind_some, if_pos hs]
          exact this
    · have hb0 : 0 < bW l i := by omega
      have hs0 : sk = false := Bool.eq_false_iff.mpr fun h => hskip (.inr h)
      have hfree : ∀ j, j < i → X j = true → bW l j ≠ bW l i := by
        intro j hj hXj e
        have : sk = true := hskiff.2 ⟨(j : Int), (selL_mem X i j).2 ⟨hj, hXj⟩, by rw [(bW_eq hx j (by omega)).1, e]; exact beq_self_eq_true _⟩
        rw [hs0] at this
        exact absurd this (by decide)
      have hgi : gone (i : Int) = false := by
        refine Bool.eq_false_iff.mpr fun hg => ?_
        obtain ⟨j, hj, hXj, hb⟩ := hI.why i (Nat.le_refl _) hi hg
        exact hfree j hj hXj hb.symm
      have hmore : ∀ q : Nat, q < l.length → (moreL (i : Int) (toB l l.length (bW l i : Int)) (q : Int) = true ↔ bW l q = bW l i ∧ q ≠ i) := by
        intro q hq
        unfold moreL
        rw [Bool.and_eq_true, decide_eq_true_eq, decide_eq_true_eq, mem_toB, (bW_eq hx q hq).1]
        constructor
        · rintro ⟨⟨_, h1⟩, h2⟩; exact ⟨by omega, by omega⟩
        · rintro ⟨h1, h2⟩; exact ⟨⟨hq, by omega⟩, by omega⟩
      obtain ⟨r, hr1, hr2⟩ := cheapest_spec hn1 hn hl hx (fun j => some (gone j || moreL (i : Int) (toB l l.length (bW l i : Int)) j)) (fun j => gone j || moreL (i : Int) (toB l l.length (bW l i : Int)) j) (fun _ _ => rfl) price hpl hp
      have hstep : ∀ k, 3000 ≤ k → firstL k (n : Int) l price v (c + 1) i (selL X i) gone = if (r.2.2 && (r.1 == v)) = true then firstL k n l price v c (i + 1) (selL X i ++ [(i : Int)]) (fun j => gone j || moreL (i : Int) (toB l l.length (bW l i : Int)) j) else firstL k n l price v c (i + 1) (selL X i) (fun j => decide (j = (i : Int)) || gone j) := by
        intro k hk
        rw [firstL, e1, if_neg (by omega), hsk k (by omega), Option.bind_some, hs0, if_neg (by decide), hr1 k hk, Option.bind_some]
        by_cases hy : (r.2.2 && (r.1 == v)) = true
        · rw [if_pos hy, if_pos (by omega), if_pos hy]
        · rw [if_neg hy, if_neg hy]
      by_cases hyes : (r.2.2 && (r.1 == v)) = true
      · rcases hr2 with ⟨_, hopt, _⟩ | ⟨e, _⟩
        · have hv : r.1 = v := beq_iff_eq.mp (Bool.and_eq_true _ _ |>.mp hyes).2
          obtain ⟨⟨g, hg, hgc⟩, _⟩ := hopt
          obtain ⟨f, hf, hk⟩ := first_loop hn1 hn hl hx price hpl hp hmin c (i + 1) (fun j => X j || decide (j = i)) _ (by omega) (hI.take hXi hb0 hi _ hmore hgi ⟨g, hg, hgc.trans hv⟩ hfree) (fun j hj => by rw [hX j (by omega), decide_eq_false (by omega)]; rfl)
          refine ⟨f, hf, fun k hk3 => ?_⟩
          have := hk k hk3
          rw [selL_succ, if_pos (by simp), selL_congr (Y := X) i (fun j hj => by rw [decide_eq_false (by omega), Bool.or_false])] at this
          rw [hstep k hk3, if_pos hyes]
          exact this
        · rw [e] at hyes
          exact absurd hyes (by simp)
      · have hno : ∀ g, IsB n (aW l) (bW l) (onT l gone) g → costF n (fun i => rd price (i : Int)) g = v → useB n (bW l) g i = false := by
          intro g hg hgc
          refine Bool.eq_false_iff.mpr fun hu => ?_
          obtain ⟨u1, u2, u3⟩ := useB_iff.1 hu
          have hg2 : IsB n (aW l) (bW l) (onT l (fun j => gone j || moreL (i : Int) (toB l l.length (bW l i : Int)) j)) g := hg.within fun c c0 c1 => by
            obtain ⟨t, tb⟩ := hg.on c c0 c1
            refine ⟨t.1, ?_⟩
            dsimp only
            rw [t.2, Bool.false_or]
            refine Bool.eq_false_iff.mpr fun hm => ?_
            obtain ⟨m1, m2⟩ := (hmore _ t.1).1 hm
            rw [tb] at m1
            rw [m1, u3] at m2
            exact m2 rfl
          rcases hr2 with ⟨h1, ⟨⟨g', hg', hgc'⟩, hlow⟩, _⟩ | ⟨_, hnone⟩
          · have h2 := hlow g hg2
            have h3 := hmin g' (hg'.mono fun i hi => hi.1)
            have : r.1 = v := by omega
            exact hyes (by rw [h1, this]; simp)
          · exact hnone g hg2
        obtain ⟨f, hf, hk⟩ := first_loop hn1 hn hl hx price hpl hp hmin c (i + 1) X _ (by omega) (hI.skip hXi hno) (fun j hj => hX j (by omega))
        refine ⟨f, hf, fun k hk3 => ?_⟩
        have := hk k hk3
        rw [selL_succ, if_neg (by rw [hXi]; decide)] at this
        rw [hstep k hk3, if_neg hyes]
        exact this
/-- first's answer. -/
theorem first_spec (hn1 : 1 ≤ n) (hn : n ≤ 7) (hl : l.length ≤ 30) (hx : ∀ x ∈ l, wayOk n x = true) (price : List Int) (hpl : price.length = l.length) (hp : ∀ i : Nat, i < l.length → 0 ≤ rd price (i : Int) ∧ rd price (i : Int) ≤ 1000) :
    (∃ f v, FirstB n l (fun i => rd price (i : Int)) v f ∧ ∀ k, 3000 ≤ k → branch_town_first.f k (n : Int) l price = some (selL (useB n (bW l) f) l.length, v, 0)) ∨
    ((∀ f, ¬ IsB n (aW l) (bW l) (fun i => i < l.length) f) ∧ ∀ k, 3000 ≤ k → branch_town_first.f k (n : Int) l price = some ([], 0, 10)) := by
  have hon : ∀ i, onT l (fun _ => false) i ↔ i < l.length := fun i => ⟨fun h => h.1, fun h => ⟨h, rfl⟩⟩
  obtain ⟨r, hr1, hr2⟩ := cheapest_spec hn1 hn hl hx (fun i => branch_town_first_1.f i) (fun _ => false) (fun _ _ => rfl) price hpl hp
  have hstep : ∀ k, 3000 ≤ k → branch_town_first.f k (n : Int) l price = if r.2.2 = true then firstL k (n : Int) l price r.1 l.length 0 [] (fun _ => false) else some ([], 0, 10) := by
    intro k hk
    unfold branch_town_first.f
    rw [if_pos (by omega), hr1 k hk, Option.bind_some]
  rcases hr2 with ⟨h1, ⟨⟨g, hg, hgc⟩, hlow⟩, _⟩ | ⟨e, hnone⟩
  · left
    have hmin : ∀ g, IsB n (aW l) (bW l) (fun i => i < l.length) g → r.1 ≤ costF n (fun i => rd price (i : Int)) g := fun g hg => hlow g (hg.mono fun i hi => (hon i).2 hi)
    obtain ⟨f, hf, hk⟩ := first_loop (v := r.1) hn1 hn hl hx price hpl hp hmin l.length 0 (fun _ => false) (fun _ => false) (by omega)
      ⟨⟨g, hg, hgc⟩, fun j hj => absurd hj (by omega), fun j hj => absurd hj (by omega), fun q _ _ h => absurd h (by decide), fun g _ _ => .inl fun j hj => absurd hj (by omega)⟩ (fun _ _ => rfl)
    refine ⟨f, r.1, hf, fun k hk3 => ?_⟩
    rw [hstep k hk3, if_pos h1]
    exact hk k hk3
  · right
    refine ⟨fun f hf => hnone f (hf.mono fun i hi => (hon i).2 hi), fun k hk => ?_⟩
    rw [hstep k hk, e]
    rfl
end
end Go.Proofs.Ytpmadffgdfholaa.B
namespace Go.Proofs.Ytpmadffgdfholaa.B
set_option linter.unusedVariables false
open Go.RowKit Go.Proofs.YtpmadffgdfholaaW.PrintWords Go.Proofs.YtpmadffgdfholaaW.PrintLast Go.Proofs.YtpmadffgdfholaaW.PrintMore
def costW (l : List S30) (i : Nat) : Int := (rd_T30 l (i : Int)).f2
theorem sumZ_swap (g : Nat → Nat → Int) (n : Nat) : ∀ m, sumZ (fun i => sumZ (g i) n) m = sumZ (fun c => sumZ (fun i => g i c) m) n
  | 0 => (sumZ_zero n).symm
  | m + 1 => by
    simp only [sumZ]
    rw [sumZ_swap g n m, ← sumZ_add]
theorem sumZ_pick (x : Int) (t : Nat) : ∀ m, sumZ (fun i => if i = t then x else 0) m = if t < m then x else 0
  | 0 => by simp [sumZ]
  | m + 1 => by
    simp only [sumZ]
    rw [sumZ_pick x t m]
    by_cases h1 : t < m
    · rw [if_pos h1, if_neg (by omega), if_pos (by omega)]; omega
    · by_cases h2 : m = t
      · rw [if_neg h1, if_pos h2, if_pos (by omega)]; omega
      · rw [if_neg h1, if_neg h2, if_neg (by omega)]; rfl
section
variable {n : Nat} {l : List S30} {f : Nat → Nat}
/-- What is summed over the streets of a branching is summed over its corners. -/
theorem sum_used (b : Nat → Nat) (m : Nat) (hf : ∀ c, 0 < c → c < n → f c < m ∧ b (f c) = c) (p : Nat → Int) : sumZ (fun j => if useB n b f j = true then p j else 0) m = costF n p f := by
  have h1 : ∀ j, j < m → (if useB n b f j = true then p j else 0) = sumZ (fun c => if c = 0 then 0 else if j = f c then p j else 0) n := by
    intro j hj
    by_cases hu : useB n b f j = true
    · obtain ⟨u1, u2, u3⟩ := useB_iff.1 hu
      rw [if_pos hu]
      have : sumZ (fun c => if c = 0 then 0 else if j = f c then p j else 0) n = sumZ (fun c => if c = b j then p j else 0) n := by
        refine sumZ_congr n fun c hc => ?_
        by_cases e : c = b j
        · subst e; rw [if_neg (by omega), if_pos u3.symm, if_pos rfl]
        · rw [if_neg e]
          by_cases h0 : c = 0
          · rw [if_pos h0]
          · rw [if_neg h0, if_neg]
            intro h
            have := (hf c (by omega) hc).2
            rw [← h] at this
            exact e this.symm
      rw [this, sumZ_pick, if_pos u2]
    · rw [if_neg hu]
      refine ((sumZ_congr n fun c hc => ?_).trans (sumZ_zero n)).symm
      by_cases h0 : c = 0
      · rw [if_pos h0]
      · rw [if_neg h0, if_neg]
        intro h
        have h2 := (hf c (by omega) hc).2
        rw [← h] at h2
        exact hu (useB_iff.2 ⟨by omega, by omega, by rw [h2, h]⟩)
  rw [sumZ_congr m h1, sumZ_swap (fun j c => if c = 0 then 0 else if j = f c then p j else 0) n m]
  unfold costF
  refine sumZ_congr n fun c hc => ?_
  by_cases h0 : c = 0
  · rw [if_pos h0]
    refine (sumZ_congr m fun i _ => ?_).trans (sumZ_zero m)
    rw [if_pos h0]
  · rw [if_neg h0]
    have : sumZ (fun i => if c = 0 then 0 else if i = f c then p i else 0) m = sumZ (fun i => if i = f c then p (f c) else 0) m := by
      refine sumZ_congr m fun i _ => ?_
      rw [if_neg h0]
      by_cases e : i = f c
      · rw [if_pos e, if_pos e, e]
      · rw [if_neg e, if_neg e]
    rw [this, sumZ_pick, if_pos (hf c (by omega) hc).1]
theorem selL_count (X : Nat → Bool) : ∀ m, ((selL X m).length : Int) = sumZ (fun j => if X j = true then 1 else 0) m
  | 0 => rfl
  | m + 1 => by
    simp only [sumZ]
    rw [selL_succ, ← selL_count X m]
    split
    · rw [List.length_append, List.length_singleton]; omega
    · omega
theorem costF_one (n : Nat) (f : Nat → Nat) : ∀ m, m ≤ n → 1 ≤ m → sumZ (fun c => if c = 0 then 0 else (fun _ => (1 : Int)) (f c)) m = (m : Int) - 1
  | 0, _, h => absurd h (by decide)
  | 1, _, _ => rfl
  | m + 2, h, _ => by
    have ih := costF_one n f (m + 1) (by omega) (by omega)
    rw [sumZ, ih, if_neg (by omega)]
    dsimp only
    omega
theorem IsB.selLen (hn : 1 ≤ n) (hf : IsB n (aW l) (bW l) (fun i => i < l.length) f) : (selL (useB n (bW l) f) l.length).length = n - 1 := by
  have h1 := selL_count (useB n (bW l) f) l.length
  rw [sum_used (n := n) (f := f) (bW l) l.length hf.on (fun _ => 1)] at h1
  unfold costF at h1
  rw [costF_one n f n (Nat.le_refl _) hn] at h1
  omega
theorem asc_ext : ∀ (L M : List Int), L.Pairwise (· < ·) → M.Pairwise (· < ·) → (∀ x, x ∈ L ↔ x ∈ M) → L = M
  | [], [], _, _, _ => rfl
  | [], y :: M, _, _, h => absurd ((h y).2 List.mem_cons_self) (by simp)
  | x :: L, [], _, _, h => absurd ((h x).1 List.mem_cons_self) (by simp)
  | x :: L, y :: M, h1, h2, h => by
    rw [List.pairwise_cons] at h1 h2
    have hxy : x = y := by
      have a := (h x).1 List.mem_cons_self
      have b := (h y).2 List.mem_cons_self
      rcases List.mem_cons.1 a with a | a
      · exact a
      · rcases List.mem_cons.1 b with b | b
        · exact b.symm
        · have := h2.1 x a; have := h1.1 y b; omega
    subst hxy
    rw [asc_ext L M h1.2 h2.2 fun z => ?_]
    constructor
    · intro hz
      rcases List.mem_cons.1 ((h z).1 (List.mem_cons_of_mem _ hz)) with e | e
      · subst e; have := h1.1 z hz; omega
      · exact e
    · intro hz
      rcases List.mem_cons.1 ((h z).2 (List.mem_cons_of_mem _ hz)) with e | e
      · subst e; have := h2.1 z hz; omega
      · exact e
theorem selL_asc (X : Nat → Bool) : ∀ m, (selL X m).Pairwise (· < ·)
  | 0 => List.Pairwise.nil
  | m + 1 => by
    rw [selL_succ]
    split
    · rw [List.pairwise_append]
      refine ⟨selL_asc X m, List.pairwise_singleton _ _, fun a ha b hb => ?_⟩
      obtain ⟨j, rfl, hj, _⟩ := selL_nat X m a ha
      rw [List.mem_singleton] at hb
      omega
    · exact selL_asc X m
structure PreOk (l : List S30) (L : List Int) (q : Nat) : Prop where
  rng : ∀ j : Nat, j < q → 0 ≤ rd L (j : Int) ∧ rd L (j : Int) < (l.length : Int)
  asc : ∀ j : Nat, j + 1 < q → rd L (j : Int) < rd L ((j + 1 : Nat) : Int)
  far : ∀ i j : Nat, i < j → j < q → bW l (rd L (i : Int)).toNat ≠ bW l (rd L (j : Int)).toNat
  pos : ∀ j : Nat, j < q → bW l (rd L (j : Int)).toNat ≠ 0
theorem PreOk.le {L : List Int} {q r : Nat} (h : PreOk l L q) (hr : r ≤ q) : PreOk l L r :=
  ⟨fun j hj => h.rng j (by omega), fun j hj => h.asc j (by omega), fun i j hi hj => h.far i j hi (by omega), fun j hj => h.pos j (by omega)⟩
def metN (l : List S30) (L : List Int) : Nat → Nat
  | 0 => 1
  | q + 1 => metN l L q ||| 1 <<< bW l (rd L (q : Int)).toNat
def costN (l : List S30) (L : List Int) : Nat → Int
  | 0 => 0
  | q + 1 => costN l L q + costW l (rd L (q : Int)).toNat
theorem metN_bit (l : List S30) (L : List Int) (c : Nat) : ∀ q, (metN l L q).testBit c = true ↔ c = 0 ∨ ∃ j, j < q ∧ bW l (rd L (j : Int)).toNat = c
  | 0 => by
    rw [metN, show (1 : Nat) = 1 <<< 0 from rfl, tb_one, decide_eq_true_eq]
    exact ⟨.inl, fun h => h.resolve_right (fun ⟨j, hj, _⟩ => by omega)⟩
  | q + 1 => by
    rw [metN, tb_or, Bool.or_eq_true, metN_bit l L c q, decide_eq_true_eq]
    constructor
    · rintro ((h | ⟨j, hj, h⟩) | h)
      · exact .inl h
      · exact .inr ⟨j, by omega, h⟩
      · exact .inr ⟨q, by omega, h.symm⟩
    · rintro (h | ⟨j, hj, h⟩)
      · exact .inl (.inl h)
      · by_cases e : j = q
        · subst e; exact .inr h.symm
        · exact .inl (.inr ⟨j, by omega, h⟩)
theorem metN_lt (hn1 : 1 ≤ n) (hn : n ≤ 7) (hx : ∀ x ∈ l, wayOk n x = true) {L : List Int} : ∀ q, PreOk l L q → metN l L q < 128
  | 0, _ => (by decide : (1 : Nat) < 128)
  | q + 1, h => by
    have ih := metN_lt hn1 hn hx q (h.le (by omega))
    have hr := h.rng q (by omega)
    have hb := (bW_eq hx (rd L (q : Int)).toNat (by omega)).2.2.1
    exact fin_lt ⟨7, by decide⟩ ⟨metN l L q, ih⟩ ⟨bW l (rd L (q : Int)).toNat, by omega⟩ ih (by simp only []; omega)
theorem costN_bound (hx : ∀ x ∈ l, wayOk n x = true) {L : List Int} : ∀ q, PreOk l L q → 0 ≤ costN l L q ∧ costN l L q ≤ 1000 * q
  | 0, _ => by simp [costN]
  | q + 1, h => by
    have ih := costN_bound hx q (h.le (by omega))
    have hr := h.rng q (by omega)
    have hw := (wayOk_iff n _).1 (hx _ (rd_T30_mem l (rd L (q : Int)).toNat (by omega)))
    simp only [costN, costW]
    omega
/-- What stops at street q. -/
theorem PreOk.next {L : List Int} {q : Nat} (h : PreOk l L q) (h0 : 0 ≤ rd L (q : Int)) (h1 : rd L (q : Int) < (l.length : Int)) (h2 : 0 < q → rd L ((q - 1 : Nat) : Int) < rd L (q : Int)) (h3 : (metN l L q).testBit (bW l (rd L (q : Int)).toNat) = false) : PreOk l L (q + 1) := by
  have hm : ¬ (bW l (rd L (q : Int)).toNat = 0 ∨ ∃ j, j < q ∧ bW l (rd L (j : Int)).toNat = bW l (rd L (q : Int)).toNat) := fun hh => by
    rw [(metN_bit l L _ q).2 hh] at h3; exact absurd h3 (by decide)
  refine ⟨fun j hj => ?_, fun j hj => ?_, fun i j hi hj => ?_, fun j hj => ?_⟩
  · by_cases e : j = q
    · subst e; exact ⟨h0, h1⟩
    · exact h.rng j (by omega)
  · by_cases e : j + 1 = q
    · have := h2 (by omega)
      rw [show q - 1 = j by omega] at this
      rw [e]; exact this
    · exact h.asc j (by omega)
  · by_cases e : j = q
    · subst e; exact fun hh => hm (.inr ⟨i, hi, hh⟩)
    · exact h.far i j hi (by omega)
  · by_cases e : j = q
    · subst e; exact fun hh => hm (.inl hh)
    · exact h.pos j (by omega)
theorem PreOk.not_met {L : List Int} {q : Nat} (h : PreOk l L (q + 1)) : (metN l L q).testBit (bW l (rd L (q : Int)).toNat) = false := by
  refine Bool.eq_false_iff.mpr fun hh => ?_
  rcases (metN_bit l L _ q).1 hh with h1 | ⟨j, hj, h1⟩
  · exact h.pos q (by omega) h1
  · exact h.far j q hj (by omega) h1
theorem is_code (hn1 : 1 ≤ n) (hn : n ≤ 7) (hx : ∀ x ∈ l, wayOk n x = true) (hl : l.length ≤ 30) {L : List Int} (hL : L.length ≤ 60) : ∀ (d q k : Nat), q + d = L.length → PreOk l L q →
    (PreOk l L L.length → branch_town_is.l0 (k + 2 * d + 1) L (costN l L q) (metN l L q : Int) L (L.length : Int) (q : Int) (n : Int) l = (branch_town_reach.f k (n : Int) l L).bind fun t => (branch_town_everybody.f (n : Int) l).bind fun u => if t = u then some (costN l L L.length, true) else some (0, false)) ∧
    (¬ PreOk l L L.length → branch_town_is.l0 (k + 2 * d + 1) L (costN l L q) (metN l L q : Int) L (L.length : Int) (q : Int) (n : Int) l = some (0, false))
  | 0, q, k, h, hP => by
    obtain rfl : q = L.length := by omega
    refine ⟨fun _ => ?_, fun h => absurd hP h⟩
    rw [show k + 2 * 0 + 1 = k + 1 from rfl, branch_town_is.l0, if_neg (by omega)]
  | d + 1, q, k, h, hP => by
    have hq : q < L.length := by omega
    have hw := wrap_nat q (by omega)
    rw [show k + 2 * (d + 1) + 1 = (k + 2 * d + 1) + 1 + 1 from by omega]
    have ih := fun hP => is_code hn1 hn hx hl hL d (q + 1) k (by omega) hP
    simp only [costN, metN] at ih
    generalize hkk : k + 2 * d + 1 = kk at ih
    have hj1 : ∀ c m x, branch_town_is.j1 (kk + 1) L c m x L (L.length : Int) (q : Int) true (n : Int) l = some (0, false) := fun c m x => by rw [branch_town_is.j1, if_pos rfl]
    have hl0 : branch_town_is.l0 (kk + 1 + 1) L (costN l L q) (metN l L q : Int) L (L.length : Int) (q : Int) (n : Int) l =
        if rd L (q : Int) < 0 ∨ rd L (q : Int) ≥ (l.length : Int) ∨ (0 < q ∧ rd L (q : Int) ≤ rd L ((q - 1 : Nat) : Int)) then some (0, false) else branch_town_is.j1 (kk + 1) L (costN l L q) (metN l L q : Int) (rd L (q : Int)) L (L.length : Int) (q : Int) ((metN l L q).testBit (bW l (rd L (q : Int)).toNat)) (n : Int) l := by
      rw [branch_town_is.l0]
      rw [if_pos (by omega), if_pos (by omega), if_pos (by omega)]
      by_cases t1 : rd L (q : Int) < 0
      · rw [if_pos t1, hj1, if_pos (.inl t1)]
      rw [if_neg t1]
      by_cases t2 : rd L (q : Int) ≥ (l.length : Int)
      · rw [if_pos t2, hj1, if_pos (.inr (.inl t2))]
      rw [if_neg t2]
      obtain ⟨i, hi⟩ : ∃ i : Nat, rd L (q : Int) = (i : Int) := Int.eq_ofNat_of_zero_le (by omega)
      have hil : i < l.length := by omega
      obtain ⟨e1, _, e3, _⟩ := bW_eq hx i hil
      have hm7 := metN_lt hn1 hn hx q hP
      have hb := hasB_nat (s := metN l L q) (c := bW l i) hm7 (by omega)
      unfold hasB at hb
      by_cases t3 : 0 < q
      · have hw2 : wrap64 ((q : Int) - 1) = ((q - 1 : Nat) : Int) := by unfold wrap64; omega
        rw [if_pos (by omega), hw2, if_pos (by omega), if_pos (by omega)]
        by_cases t4 : rd L (q : Int) ≤ rd L ((q - 1 : Nat) : Int)
        · rw [if_pos t4, hj1, if_pos (.inr (.inr ⟨t3, t4⟩))]
        · have t : ¬ (rd L (q : Int) < 0 ∨ rd L (q : Int) ≥ (l.length : Int) ∨ (0 < q ∧ rd L (q : Int) ≤ rd L ((q - 1 : Nat) : Int))) := by omega
          rw [if_neg t4, if_pos (by omega), if_pos (by omega), if_neg t, hi, e1, if_pos (by omega), hb, Int.toNat_natCast]
      · have t : ¬ (rd L (q : Int) < 0 ∨ rd L (q : Int) ≥ (l.length : Int) ∨ (0 < q ∧ rd L (q : Int) ≤ rd L ((q - 1 : Nat) : Int))) := by omega
        rw [if_neg (by omega), if_pos (by omega), if_pos (by omega), if_neg t, hi, e1, if_pos (by omega), hb, Int.toNat_natCast]
    rw [hl0]
    by_cases t : rd L (q : Int) < 0 ∨ rd L (q : Int) ≥ (l.length : Int) ∨ (0 < q ∧ rd L (q : Int) ≤ rd L ((q - 1 : Nat) : Int))
    · rw [if_pos t]
      refine ⟨fun hF => ?_, fun _ => rfl⟩
      exfalso
      have h1 := hF.rng q hq
      rcases t with t | t | ⟨t0, t⟩
      · omega
      · omega
      · have := hF.asc (q - 1) (by omega)
        rw [show q - 1 + 1 = q by omega] at this
        omega
    · rw [if_neg t]
      have t1 : ¬ rd L (q : Int) < 0 := fun h => t (.inl h)
      have t2 : ¬ rd L (q : Int) ≥ (l.length : Int) := fun h => t (.inr (.inl h))
      have t3 : 0 < q → rd L ((q - 1 : Nat) : Int) < rd L (q : Int) := fun h0 => by
        refine Classical.byContradiction fun hh => t (.inr (.inr ⟨h0, by omega⟩))
      cases hb : (metN l L q).testBit (bW l (rd L (q : Int)).toNat) with
      | true =>
        rw [hj1]
        refine ⟨fun hF => ?_, fun _ => rfl⟩
        have := (hF.le (show q + 1 ≤ L.length by omega)).not_met
        rw [hb] at this
        exact absurd this (by decide)
      | false =>
        have hP2 := hP.next (by omega) (by omega) t3 hb
        have ih := ih hP2
        obtain ⟨i, hi⟩ : ∃ i : Nat, rd L (q : Int) = (i : Int) := Int.eq_ofNat_of_zero_le (by omega)
        have hil : i < l.length := by omega
        obtain ⟨e1, _, e3, _⟩ := bW_eq hx i hil
        have hm7 := metN_lt hn1 hn hx q hP
        have f2 := fin_or ⟨metN l L q, hm7⟩ ⟨bW l i, by omega⟩
        simp only [] at f2
        have hcb := costN_bound hx q hP
        have hwy := (wayOk_iff n _).1 (hx _ (rd_T30_mem l i hil))
        have hj : branch_town_is.j1 (kk + 1) L (costN l L q) (metN l L q : Int) (rd L (q : Int)) L (L.length : Int) (q : Int) false (n : Int) l = branch_town_is.l0 kk L (costN l L q + costW l (rd L (q : Int)).toNat) ((metN l L q ||| 1 <<< bW l (rd L (q : Int)).toNat : Nat) : Int) L (L.length : Int) ((q + 1 : Nat) : Int) (n : Int) l := by
          rw [branch_town_is.j1]
          rw [if_neg (by decide), if_pos (by omega), if_pos (by omega), hi, e1, if_pos (by omega), f2, hw, Int.toNat_natCast]
          rw [show wrap64 (costN l L q + (rd_T30 l (i : Int)).f2) = costN l L q + costW l i from by unfold costW wrap64; omega]
        rw [hj]
        exact ih
theorem is_ref (hn1 : 1 ≤ n) (hn : n ≤ 7) (hx : ∀ x ∈ l, wayOk n x = true) (hl : l.length ≤ 30) {L : List Int} (hL : L.length ≤ 60) : ∀ (d q k : Nat), q + d = L.length → PreOk l L q →
    (PreOk l L L.length → trishawref03_IsBranching.l0 (k + 2 * d + 1) (n : Int) l L (metN l L q : Int) (q : Int) = (trishawref03_reached.f k l L).bind fun t => some (t == (wrap64 ((shl .i64 1 (n : Int)) - 1)))) ∧
    (¬ PreOk l L L.length → trishawref03_IsBranching.l0 (k + 2 * d + 1) (n : Int) l L (metN l L q : Int) (q : Int) = some false)
  | 0, q, k, h, hP => by
    obtain rfl : q = L.length := by omega
    refine ⟨fun _ => ?_, fun h => absurd hP h⟩
    rw [show k + 2 * 0 + 1 = k + 1 from rfl, trishawref03_IsBranching.l0, if_neg (by omega)]
    refine congrArg _ (funext fun t => ?_)
    rw [if_pos (by omega)]
  | d + 1, q, k, h, hP => by
    have hq : q < L.length := by omega
    have hw := wrap_nat q (by omega)
    rw [show k + 2 * (d + 1) + 1 = (k + 2 * d + 1) + 1 + 1 from by omega]
    have ih := fun hP => is_ref hn1 hn hx hl hL d (q + 1) k (by omega) hP
    simp only [metN] at ih
    generalize hkk : k + 2 * d + 1 = kk at ih
    have hj1 : ∀ m, trishawref03_IsBranching.j1 (kk + 1) (n : Int) l L m (q : Int) true = some false := fun m => by rw [trishawref03_IsBranching.j1, if_pos rfl]
    have hl0 : trishawref03_IsBranching.l0 (kk + 1 + 1) (n : Int) l L (metN l L q : Int) (q : Int) =
        if rd L (q : Int) < 0 ∨ rd L (q : Int) ≥ (l.length : Int) ∨ (0 < q ∧ rd L (q : Int) ≤ rd L ((q - 1 : Nat) : Int)) then some false else trishawref03_IsBranching.j1 (kk + 1) (n : Int) l L (metN l L q : Int) (q : Int) ((metN l L q).testBit (bW l (rd L (q : Int)).toNat)) := by
      rw [trishawref03_IsBranching.l0]
      rw [if_pos (by omega), if_pos (by omega)]
      by_cases t1 : rd L (q : Int) < 0
      · rw [if_pos t1, hj1, if_pos (.inl t1)]
      rw [if_neg t1]
      by_cases t2 : rd L (q : Int) ≥ (l.length : Int)
      · rw [if_pos t2, hj1, if_pos (.inr (.inl t2))]
      rw [if_neg t2]
      obtain ⟨i, hi⟩ : ∃ i : Nat, rd L (q : Int) = (i : Int) := Int.eq_ofNat_of_zero_le (by omega)
      have hil : i < l.length := by omega
      obtain ⟨e1, _, e3, _⟩ := bW_eq hx i hil
      have hm7 := metN_lt hn1 hn hx q hP
      have f1 := fin_mod ⟨metN l L q, hm7⟩ ⟨bW l i, by omega⟩
      simp only [] at f1
      have hb : (Int.tmod (shr .i64 (metN l L q : Int) (bW l i : Int)) 2 == 1) = (metN l L q).testBit (bW l i) := by
        rw [f1]
        cases (metN l L q).testBit (bW l i) <;> rfl
      by_cases t3 : 0 < q
      · have hw2 : wrap64 ((q : Int) - 1) = ((q - 1 : Nat) : Int) := by unfold wrap64; omega
        rw [if_pos (by omega), hw2, if_pos (by omega), if_pos (by omega)]
        by_cases t4 : rd L (q : Int) ≤ rd L ((q - 1 : Nat) : Int)
        · rw [if_pos t4, hj1, if_pos (.inr (.inr ⟨t3, t4⟩))]
        · have t : ¬ (rd L (q : Int) < 0 ∨ rd L (q : Int) ≥ (l.length : Int) ∨ (0 < q ∧ rd L (q : Int) ≤ rd L ((q - 1 : Nat) : Int))) := by omega
          rw [if_neg t4, if_pos (by omega), if_pos (by omega), if_neg t, hi, e1, if_pos (by omega), hb, Int.toNat_natCast]
      · have t : ¬ (rd L (q : Int) < 0 ∨ rd L (q : Int) ≥ (l.length : Int) ∨ (0 < q ∧ rd L (q : Int) ≤ rd L ((q - 1 : Nat) : Int))) := by omega
        rw [if_neg (by omega), if_pos (by omega), if_pos (by omega), if_neg t, hi, e1, if_pos (by omega), hb, Int.toNat_natCast]
    rw [hl0]
    by_cases t : rd L (q : Int) < 0 ∨ rd L (q : Int) ≥ (l.length : Int) ∨ (0 < q ∧ rd L (q : Int) ≤ rd L ((q - 1 : Nat) : Int))
    · rw [if_pos t]
      refine ⟨fun hF => ?_, fun _ => rfl⟩
      exfalso
      have h1 := hF.rng q hq
      rcases t with t | t | ⟨t0, t⟩
      · omega
      · omega
      · have := hF.asc (q - 1) (by omega)
        rw [show q - 1 + 1 = q by omega] at this
        omega
    · rw [if_neg t]
      have t1 : ¬ rd L (q : Int) < 0 := fun h => t (.inl h)
      have t2 : ¬ rd L (q : Int) ≥ (l.length : Int) := fun h => t (.inr (.inl h))
      have t3 : 0 < q → rd L ((q - 1 : Nat) : Int) < rd L (q : Int) := fun h0 => by
        refine Classical.byContradiction fun hh => t (.inr (.inr ⟨h0, by omega⟩))
      cases hb : (metN l L q).testBit (bW l (rd L (q : Int)).toNat) with
      | true =>
        rw [hj1]
        refine ⟨fun hF => ?_, fun _ => rfl⟩
        have := (hF.le (show q + 1 ≤ L.length by omega)).not_met
        rw [hb] at this
        exact absurd this (by decide)
      | false =>
        have hP2 := hP.next (by omega) (by omega) t3 hb
        have ih := ih hP2
        obtain ⟨i, hi⟩ : ∃ i : Nat, rd L (q : Int) = (i : Int) := Int.eq_ofNat_of_zero_le (by omega)
        have hil : i < l.length := by omega
        obtain ⟨e1, _, e3, _⟩ := bW_eq hx i hil
        have hm7 := metN_lt hn1 hn hx q hP
        rw [hi, Int.toNat_natCast] at hb
        have f2 := fin_add ⟨metN l L q, hm7⟩ ⟨bW l i, by omega⟩ hb
        simp only [] at f2
        have hj : trishawref03_IsBranching.j1 (kk + 1) (n : Int) l L (metN l L q : Int) (q : Int) false = trishawref03_IsBranching.l0 kk (n : Int) l L ((metN l L q ||| 1 <<< bW l (rd L (q : Int)).toNat : Nat) : Int) ((q + 1 : Nat) : Int) := by
          rw [trishawref03_IsBranching.j1]
          rw [if_neg (by decide), if_pos (by omega), if_pos (by omega), if_pos (by omega), if_pos (by omega), hi, e1, if_pos (by omega), f2, hw, Int.toNat_natCast]
        rw [hj]
        exact ih
end
end Go.Proofs.Ytpmadffgdfholaa.B
namespace Go.Proofs.Ytpmadffgdfholaa.B
set_option linter.unusedVariables false
open Go.RowKit Go.Proofs.YtpmadffgdfholaaW.PrintWords Go.Proofs.YtpmadffgdfholaaW.PrintLast Go.Proofs.YtpmadffgdfholaaW.PrintMore
section
variable {n : Nat} {l : List S30} {f : Nat → Nat}
/-- The list of the streets of a branching. -/
def listB (n : Nat) (l : List S30) (f : Nat → Nat) : List Int := selL (useB n (bW l) f) l.length
abbrev BrB (n : Nat) (l : List S30) (f : Nat → Nat) : Prop := IsB n (aW l) (bW l) (fun i => i < l.length) f
theorem rd_get (L : List Int) (j : Nat) (h : j < L.length) : rd L (j : Int) = L[j] := by
  simp [rd, List.getD, List.getElem?_eq_getElem h]
theorem mem_rd (L : List Int) (x : Int) : x ∈ L ↔ ∃ j : Nat, j < L.length ∧ rd L (j : Int) = x := by
  constructor
  · intro h
    obtain ⟨j, hj, e⟩ := List.mem_iff_getElem.1 h
    exact ⟨j, hj, (rd_get L j hj).trans e⟩
  · rintro ⟨j, hj, e⟩
    rw [rd_get L j hj] at e
    exact e ▸ List.getElem_mem hj
theorem asc_pair (L : List Int) : (∀ j : Nat, j + 1 < L.length → rd L (j : Int) < rd L ((j + 1 : Nat) : Int)) ↔ L.Pairwise (· < ·) := by
  rw [List.pairwise_iff_getElem]
  constructor
  · intro h i j hi hj hij
    have key : ∀ d, i + 1 + d < L.length → rd L (i : Int) < rd L ((i + 1 + d : Nat) : Int) := by
      intro d
      induction d with
      | zero => exact fun h2 => h i h2
      | succ d ih => exact fun h2 => Int.lt_trans (ih (by omega)) (h (i + 1 + d) h2)
    have := key (j - i - 1) (by omega)
    rw [show i + 1 + (j - i - 1) = j by omega, rd_get L i hi, rd_get L j hj] at this
    exact this
  · intro h j hj
    rw [rd_get L j (by omega), rd_get L (j + 1) hj]
    exact h j (j + 1) (by omega) hj (by omega)
structure Full (n : Nat) (l : List S30) (L : List Int) : Prop where
  len : L.length = n - 1
  pre : PreOk l L L.length
  all : ∀ c, c < n → Rc (aW l) (bW l) (fun i => (i : Int) ∈ L) 0 c
theorem full_iff (hn1 : 1 ≤ n) (hn : n ≤ 7) (hx : ∀ x ∈ l, wayOk n x = true) (L : List Int) : Full n l L ↔ ∃ f, BrB n l f ∧ L = listB n l f := by
  constructor
  · intro hF
    have hnat : ∀ x ∈ L, ∃ i : Nat, x = (i : Int) ∧ i < l.length ∧ bW l i ≠ 0 := by
      intro x hxL
      obtain ⟨j, hj, e⟩ := (mem_rd L x).1 hxL
      have h1 := hF.pre.rng j hj
      have h2 := hF.pre.pos j hj
      rw [e] at h1 h2
      exact ⟨x.toNat, by omega, by omega, h2⟩
    have hone : ∀ i j : Nat, (i : Int) ∈ L → (j : Int) ∈ L → bW l i = bW l j → i = j := by
      intro i j hi hj hb
      obtain ⟨p, hp, e1⟩ := (mem_rd L i).1 hi
      obtain ⟨q, hq, e2⟩ := (mem_rd L j).1 hj
      rcases Nat.lt_trichotomy p q with h | h | h
      · have := hF.pre.far p q h hq
        rw [e1, e2] at this
        exact absurd hb this
      · subst h; omega
      · have := hF.pre.far q p h hp
        rw [e1, e2] at this
        exact absurd hb.symm this
    have hex : ∀ c, ∃ i : Nat, 0 < c → c < n → (i : Int) ∈ L ∧ bW l i = c := by
      intro c
      by_cases hc : 0 < c ∧ c < n
      · have hr := hF.all c hc.2
        generalize hz : (0 : Nat) = z at hr
        cases hr with
        | refl => omega
        | @step i t _ => exact ⟨i, fun _ _ => ⟨t, rfl⟩⟩
      · exact ⟨0, fun h1 h2 => absurd ⟨h1, h2⟩ hc⟩
    obtain ⟨f, hf⟩ : ∃ f : Nat → Nat, ∀ c, 0 < c → c < n → (f c : Int) ∈ L ∧ bW l (f c) = c := ⟨fun c => Classical.choose (hex c), fun c => Classical.choose_spec (hex c)⟩
    have hlt : ∀ i : Nat, (i : Int) ∈ L → i < l.length ∧ bW l i ≠ 0 := by
      intro i hi
      obtain ⟨j, e, h1, h2⟩ := hnat _ hi
      obtain rfl : i = j := by omega
      exact ⟨h1, h2⟩
    have hmem : ∀ i : Nat, (i : Int) ∈ L ↔ i < l.length ∧ useB n (bW l) f i = true := by
      intro i
      constructor
      · intro hi
        obtain ⟨h1, h2⟩ := hlt i hi
        have hb := (bW_eq hx i h1).2.2.1
        obtain ⟨g1, g2⟩ := hf (bW l i) (by omega) hb
        exact ⟨h1, useB_iff.2 ⟨by omega, hb, hone _ _ g1 hi g2⟩⟩
      · rintro ⟨h1, h2⟩
        obtain ⟨u1, u2, u3⟩ := useB_iff.1 h2
        have := (hf (bW l i) u1 u2).1
        rwa [u3] at this
    refine ⟨f, ⟨fun c c0 c1 => ⟨(hlt _ (hf c c0 c1).1).1, (hf c c0 c1).2⟩, fun c hc => (hF.all c hc).mono fun i hi => ?_⟩, ?_⟩
    · obtain ⟨h1, h2⟩ := (hmem i).1 hi
      obtain ⟨u1, u2, u3⟩ := useB_iff.1 h2
      exact ⟨bW l i, u1, u2, u3.symm⟩
    · refine asc_ext L _ ((asc_pair L).1 hF.pre.asc) (selL_asc _ _) fun x => ?_
      constructor
      · intro hxL
        obtain ⟨i, rfl, _⟩ := hnat x hxL
        exact (selL_mem _ _ _).2 ((hmem i).1 hxL)
      · intro hxS
        obtain ⟨i, rfl, h1, h2⟩ := selL_nat _ _ x hxS
        exact (hmem i).2 ⟨h1, h2⟩
  · rintro ⟨f, hf, rfl⟩
    have hnat : ∀ j : Nat, j < (listB n l f).length → ∃ i : Nat, rd (listB n l f) (j : Int) = (i : Int) ∧ i < l.length ∧ useB n (bW l) f i = true := by
      intro j hj
      exact selL_nat _ _ _ ((mem_rd _ _).2 ⟨j, hj, rfl⟩)
    have hasc := (asc_pair (listB n l f)).2 (selL_asc _ _)
    refine ⟨hf.selLen hn1, ⟨fun j hj => ?_, hasc, fun i j hij hj => ?_, fun j hj => ?_⟩, fun c hc => (hf.all c hc).mono ?_⟩
    · obtain ⟨i, e, h1, _⟩ := hnat j hj
      rw [e]; omega
    · obtain ⟨x, e1, _, u1⟩ := hnat i (by omega)
      obtain ⟨y, e2, _, u2⟩ := hnat j hj
      have hp := List.pairwise_iff_getElem.1 (selL_asc (useB n (bW l) f) l.length) i j (by exact (by omega : i < (listB n l f).length)) hj hij
      have hlt : rd (listB n l f) (i : Int) < rd (listB n l f) (j : Int) := by
        rw [rd_get _ i (by omega), rd_get _ j hj]; exact hp
      rw [e1, e2] at hlt ⊢
      rw [Int.toNat_natCast, Int.toNat_natCast]
      intro hb
      have h1 := (useB_iff.1 u1).2.2
      have h2 := (useB_iff.1 u2).2.2
      rw [hb, h2] at h1
      omega
    · obtain ⟨i, e, _, u⟩ := hnat j hj
      rw [e, Int.toNat_natCast]
      have := (useB_iff.1 u).1
      omega
    · rintro i ⟨c, c0, c1, rfl⟩
      obtain ⟨t, tb⟩ := hf.on c c0 c1
      exact (selL_mem _ _ _).2 ⟨t, useB_iff.2 ⟨by omega, by omega, by rw [tb]⟩⟩
theorem costN_app (l : List S30) (L M : List Int) : ∀ q, q ≤ L.length → costN l (L ++ M) q = costN l L q
  | 0, _ => rfl
  | q + 1, h => by
    simp only [costN]
    rw [costN_app l L M q (by omega)]
    have : rd (L ++ M) (q : Int) = rd L (q : Int) := by
      simp only [rd, Int.toNat_natCast, List.getD]
      rw [List.getElem?_append_left (by omega)]
    rw [this]
theorem costN_sel (l : List S30) (X : Nat → Bool) : ∀ m, costN l (selL X m) (selL X m).length = sumZ (fun j => if X j = true then costW l j else 0) m
  | 0 => rfl
  | m + 1 => by
    simp only [sumZ]
    rw [selL_succ, ← costN_sel l X m]
    split
    · rw [List.length_append, List.length_singleton]
      simp only [costN]
      rw [costN_app l _ _ _ (Nat.le_refl _)]
      have : rd (selL X m ++ [(m : Int)]) ((selL X m).length : Int) = (m : Int) := by
        simp [rd, List.getD]
      rw [this, Int.toNat_natCast]
    · omega
theorem costN_list (hf : BrB n l f) : costN l (listB n l f) (listB n l f).length = costF n (costW l) f := by
  unfold listB
  rw [costN_sel, sum_used (bW l) l.length hf.on]
theorem reach_code (hn1 : 1 ≤ n) (hn : n ≤ 7) {L : List Int} (hL : InL n l L) (hl : L.length ≤ 60) (k : Nat) (hk : 600 ≤ k) : branch_town_reach.f k (n : Int) l L = some ((itS l L n 1 : Nat) : Int) := by
  have h1 : (1 : Nat) < 2 ^ n := Nat.one_lt_two_pow (by omega)
  have hb : (L.length + 2) * n ≤ 62 * 7 := Nat.mul_le_mul (by omega) hn
  have := reach_l0 hn hL (by omega) n 0 (k - (L.length + 2) * n - 1) 1 (by omega) h1
  rw [show k - (L.length + 2) * n - 1 + (L.length + 2) * n + 1 = k from by omega] at this
  exact this
theorem reach_ref (hn1 : 1 ≤ n) (hn : n ≤ 7) {L : List Int} (hL : InL n l L) (hl : L.length ≤ 60) (k : Nat) (hk : 600 ≤ k) : trishawref03_reached.f k l L = some ((itS l L n 1 : Nat) : Int) := by
  have h1 : (1 : Nat) < 2 ^ n := Nat.one_lt_two_pow (by omega)
  have hb : (L.length + 2) * (n + 1) ≤ 62 * 8 := Nat.mul_le_mul (by omega) (by omega)
  have := reached_l0 hn hL (by omega) n (k - (L.length + 2) * (n + 1) - 1) 1 h1 (by omega)
  rw [show k - (L.length + 2) * (n + 1) - 1 + (L.length + 2) * (n + 1) + 1 = k from by omega] at this
  exact this
theorem all_reached (hn1 : 1 ≤ n) (hn : n ≤ 7) {L : List Int} (hL : InL n l L) : ((itS l L n 1 : Nat) : Int) = 2 ^ n - 1 ↔ ∀ c, c < n → Rc (aW l) (bW l) (fun i => (i : Int) ∈ L) 0 c := by
  have hlt : itS l L n 1 < 2 ^ n := it_lt hn hL n 1 (Nat.one_lt_two_pow (by omega))
  have hp : 1 ≤ 2 ^ n := Nat.one_le_two_pow
  have hiff : ∀ c, (itS l L n 1).testBit c = true ↔ Rc (aW l) (bW l) (fun i => (i : Int) ∈ L) 0 c := fun c => closure_iff (d := 0) hn hL (by omega)
  have h2 : ((2 : Int) ^ n) = ((2 ^ n : Nat) : Int) := by norm_cast
  rw [h2]
  constructor
  · intro e c hc
    have e2 : itS l L n 1 = 2 ^ n - 1 := by omega
    rw [← hiff, e2, Nat.testBit_two_pow_sub_one]
    exact decide_eq_true hc
  · intro h
    have : itS l L n 1 = 2 ^ n - 1 := by
      refine Nat.eq_of_testBit_eq fun c => ?_
      rw [Nat.testBit_two_pow_sub_one]
      by_cases hc : c < n
      · rw [(hiff c).2 (h c hc), decide_eq_true hc]
      · rw [decide_eq_false hc]
        exact Nat.testBit_lt_two_pow (Nat.lt_of_lt_of_le hlt (Nat.pow_le_pow_right (by decide) (by omega)))
    omega
theorem everybody_f (hn : n ≤ 7) (l : List S30) : branch_town_everybody.f (n : Int) l = some ((2 : Int) ^ n - 1) := by
  have e1 := fin_shl ⟨n, by omega⟩
  simp only [] at e1
  have hp : 2 ^ n ≤ 2 ^ 7 := Nat.pow_le_pow_right (by decide) hn
  have hp1 : 1 ≤ 2 ^ n := Nat.one_le_two_pow
  have h2 : ((2 : Int) ^ n) = ((2 ^ n : Nat) : Int) := by norm_cast
  unfold branch_town_everybody.f
  rw [e1, if_pos (by omega), h2]
  generalize 2 ^ n = p at hp hp1
  refine congrArg some ?_
  unfold wrap64; omega
theorem everyone_ref (hn : n ≤ 7) : wrap64 ((shl .i64 1 (n : Int)) - 1) = (2 : Int) ^ n - 1 := by
  have e1 := fin_shl ⟨n, by omega⟩
  simp only [] at e1
  have hp : 2 ^ n ≤ 2 ^ 7 := Nat.pow_le_pow_right (by decide) hn
  have hp1 : 1 ≤ 2 ^ n := Nat.one_le_two_pow
  have h2 : ((2 : Int) ^ n) = ((2 ^ n : Nat) : Int) := by norm_cast
  rw [e1, h2]
  generalize 2 ^ n = p at hp hp1
  unfold wrap64; omega
theorem preOk_in (hx : ∀ x ∈ l, wayOk n x = true) {L : List Int} (h : PreOk l L L.length) : InL n l L := by
  intro i hi
  obtain ⟨j, hj, rfl⟩ := (mem_rd L i).1 hi
  have := h.rng j hj
  refine ⟨this.1, this.2, ?_⟩
  have := hx _ (rd_T30_mem l (rd L (j : Int)).toNat (by omega))
  rwa [Int.toNat_of_nonneg (h.rng j hj).1] at this
theorem cost_ref (hx : ∀ x ∈ l, wayOk n x = true) {L : List Int} (hl : L.length ≤ 60) (hP : PreOk l L L.length) : ∀ (d q k : Nat), q + d = L.length → trishawref03_cost.l0 (k + d + 1) l L (costN l L q) (q : Int) = some (costN l L L.length)
  | 0, q, k, h => by
    obtain rfl : q = L.length := by omega
    rw [show k + 0 + 1 = k + 1 from rfl, trishawref03_cost.l0, if_neg (by omega)]
  | d + 1, q, k, h => by
    have hq : q < L.length := by omega
    have hw := wrap_nat q (by omega)
    have ih := cost_ref hx hl hP d (q + 1) k (by omega)
    have h1 := hP.rng q hq
    have hcb := costN_bound hx q (hP.le (by omega))
    have hwy := (wayOk_iff (n : Int) _).1 (hx _ (rd_T30_mem l (rd L (q : Int)).toNat (by omega)))
    rw [show k + (d + 1) + 1 = (k + d + 1) + 1 from by omega, trishawref03_cost.l0, if_pos (by omega), if_pos (by omega), if_pos (by omega), if_pos (by omega), hw]
    rw [show wrap64 (costN l L q + (rd_T30 l (rd L (q : Int))).f2) = costN l L (q + 1) from by
      simp only [costN, costW]
      rw [Int.toNat_of_nonneg h1.1] at hwy ⊢
      unfold wrap64; omega]
    exact ih
/-- Is, of both. -/
theorem is_spec (hr : readB (n : Int) l = 0) (L : List Int) : ∃ (c : Int) (b : Bool), (b = true → ∃ f, BrB n l f ∧ L = listB n l f ∧ c = costF n (costW l) f) ∧ (b = false → c = 0 ∧ ∀ f, BrB n l f → L ≠ listB n l f) ∧
    (∀ k, 2000 ≤ k → branch_Is.f k (n : Int) l L = some (c, b, 0)) ∧ (∀ k, 2000 ≤ k → trishawref03_Is.f k (n : Int) l L = some (c, b, 0)) ∧ ∀ k, 2000 ≤ k → trishawref03_IsBranching.f k (n : Int) l L = some b := by
  obtain ⟨h2, h7, h30, hx⟩ := readB_ok hr
  have hn1 : 1 ≤ n := by omega
  have hn : n ≤ 7 := by omega
  have hw : wrap64 ((n : Int) - 1) = (n : Int) - 1 := by unfold wrap64; omega
  have hcode : ∀ k, branch_Is.f k (n : Int) l L = (branch_town_is.f k (n : Int) l L).bind fun bt115 => some (bt115.1, bt115.2, 0) := by
    intro k
    unfold branch_Is.f branch_read.f
    rw [hr, Option.bind_some, if_pos rfl]
  have href : ∀ k, 2000 ≤ k → trishawref03_Is.f k (n : Int) l L = (trishawref03_IsBranching.f k (n : Int) l L).bind fun t162 => (if t162 = true then ((trishawref03_cost.f k l L).bind fun t163 => (some (t163, true, 0))) else (some (0, false, 0))) := by
    intro k hk
    unfold trishawref03_Is.f
    rw [town_eq _ _ k (.inr (by omega)), hr, Option.bind_some, if_pos rfl]
  have hno : ¬ Full n l L → ∀ f, BrB n l f → L ≠ listB n l f := fun h f hf e => h ((full_iff hn1 hn hx L).2 ⟨f, hf, e⟩)
  by_cases hlen : (L.length : Int) = (n : Int) - 1
  · have hP0 : PreOk l L 0 := ⟨fun j hj => absurd hj (by omega), fun j hj => absurd hj (by omega), fun i j hi hj => absurd hj (by omega), fun j hj => absurd hj (by omega)⟩
    have hc := fun k => is_code hn1 hn hx h30 (L := L) (by omega) L.length 0 k (by omega) hP0
    have hf := fun k => is_ref hn1 hn hx h30 (L := L) (by omega) L.length 0 k (by omega) hP0
    have e1 : ∀ k, branch_town_is.f k (n : Int) l L = branch_town_is.l0 k L 0 1 L (L.length : Int) 0 (n : Int) l := fun k => by
      unfold branch_town_is.f; rw [hw, if_pos hlen]
    have e2 : ∀ k, trishawref03_IsBranching.f k (n : Int) l L = trishawref03_IsBranching.l0 k (n : Int) l L 1 0 := fun k => by
      unfold trishawref03_IsBranching.f; rw [hw, if_pos hlen]
    by_cases hP : PreOk l L L.length
    · have hin := preOk_in hx hP
      have hrc := fun k hk => reach_code hn1 hn hin (by omega) k hk
      have hrr := fun k hk => reach_ref hn1 hn hin (by omega) k hk
      have hall := all_reached hn1 hn hin
      have c1 : ∀ k, 2000 ≤ k → branch_town_is.f k (n : Int) l L = if ((itS l L n 1 : Nat) : Int) = 2 ^ n - 1 then some (costN l L L.length, true) else some (0, false) := by
        intro k hk
        have := (hc (k - 2 * L.length - 1)).1 hP
        rw [show k - 2 * L.length - 1 + 2 * L.length + 1 = k from by omega, hrc _ (by omega), Option.bind_some, everybody_f hn, Option.bind_some] at this
        rw [e1]
        exact this
      have c2 : ∀ k, 2000 ≤ k → trishawref03_IsBranching.f k (n : Int) l L = some (((itS l L n 1 : Nat) : Int) == 2 ^ n - 1) := by
        intro k hk
        have := (hf (k - 2 * L.length - 1)).1 hP
        rw [show k - 2 * L.length - 1 + 2 * L.length + 1 = k from by omega, hrr _ (by omega), Option.bind_some, everyone_ref hn] at this
        rw [e2]
        exact this
      have c3 : ∀ k, 2000 ≤ k → trishawref03_cost.f k l L = some (costN l L L.length) := by
        intro k hk
        have := cost_ref hx (L := L) (by omega) hP L.length 0 (k - L.length - 1) (by omega)
        rw [show k - L.length - 1 + L.length + 1 = k from by omega] at this
        unfold trishawref03_cost.f
        exact this
      by_cases hA : ((itS l L n 1 : Nat) : Int) = 2 ^ n - 1
      · have hF : Full n l L := ⟨by omega, hP, hall.1 hA⟩
        obtain ⟨f, hfB, e⟩ := (full_iff hn1 hn hx L).1 hF
        refine ⟨costN l L L.length, true, fun _ => ⟨f, hfB, e, ?_⟩, fun h => absurd h (by decide), fun k hk => ?_, fun k hk => ?_, fun k hk => ?_⟩
        · rw [e]; exact costN_list hfB
        · rw [hcode, c1 k hk, if_pos hA]; rfl
        · rw [href k hk, c2 k hk, beq_iff_eq.mpr hA, Option.bind_some, if_pos rfl, c3 k hk]; rfl
        · rw [c2 k hk, beq_iff_eq.mpr hA]
      · have hA2 : (((itS l L n 1 : Nat) : Int) == 2 ^ n - 1) = false := beq_eq_false_iff_ne.mpr hA
        refine ⟨0, false, fun h => absurd h (by decide), fun _ => ⟨rfl, hno fun hF => hA (hall.2 hF.all)⟩, fun k hk => ?_, fun k hk => ?_, fun k hk => ?_⟩
        · rw [hcode, c1 k hk, if_neg hA]; rfl
        · rw [href k hk, c2 k hk, hA2]; rfl
        · rw [c2 k hk, hA2]
    · refine ⟨0, false, fun h => absurd h (by decide), fun _ => ⟨rfl, hno fun hF => hP hF.pre⟩, fun k hk => ?_, fun k hk => ?_, fun k hk => ?_⟩
      · have := (hc (k - 2 * L.length - 1)).2 hP
        rw [show k - 2 * L.length - 1 + 2 * L.length + 1 = k from by omega] at this
        rw [hcode, e1]
        exact congrArg (fun x : Option (Int × Bool) => x.bind fun bt115 => some (bt115.1, bt115.2, (0 : Int))) this
      · have := (hf (k - 2 * L.length - 1)).2 hP
        rw [show k - 2 * L.length - 1 + 2 * L.length + 1 = k from by omega] at this
        rw [href k hk, e2]
        exact congrArg (fun x : Option Bool => x.bind fun t162 => (if t162 = true then ((trishawref03_cost.f k l L).bind fun t163 => (some (t163, true, (0 : Int)))) else (some (0, false, 0)))) this
      · have := (hf (k - 2 * L.length - 1)).2 hP
        rw [show k - 2 * L.length - 1 + 2 * L.length + 1 = k from by omega] at this
        rw [e2]
        exact this
  · refine ⟨0, false, fun h => absurd h (by decide), fun _ => ⟨rfl, hno fun hF => hlen (by have := hF.len; omega)⟩, fun k hk => ?_, fun k hk => ?_, fun k hk => ?_⟩
    · rw [hcode]; unfold branch_town_is.f; rw [hw, if_neg hlen]; rfl
    · rw [href k hk]; unfold trishawref03_IsBranching.f; rw [hw, if_neg hlen]; rfl
    · unfold trishawref03_IsBranching.f; rw [hw, if_neg hlen]
end
end Go.Proofs.Ytpmadffgdfholaa.B
namespace Go.Proofs.Ytpmadffgdfholaa.B
set_option linter.unusedVariables false
open Go.RowKit Go.Proofs.YtpmadffgdfholaaW.PrintWords Go.Proofs.YtpmadffgdfholaaW.PrintLast Go.Proofs.YtpmadffgdfholaaW.PrintMore
section
variable {n : Nat} {l : List S30} {f : Nat → Nat}
def costL (l : List S30) : List Int := l.map fun x => x.f2
theorem costL_length (l : List S30) : (costL l).length = l.length := by simp [costL]
theorem costL_rd (l : List S30) (i : Nat) (h : i < l.length) : rd (costL l) (i : Int) = costW l i := by
  simp [rd, costL, costW, rd_T30, List.getD, List.getElem?_eq_getElem h]
theorem costs_l0 (l : List S30) (hl : l.length < 1000) : ∀ (d q k : Nat), q + d = l.length → branch_town_costs.l0 (k + d + 1) ((costL l).take q) l (l.length : Int) (q : Int) = some (costL l)
  | 0, q, k, h => by
    rw [show k + 0 + 1 = k + 1 from rfl, branch_town_costs.l0, if_neg (by omega), List.take_of_length_le (by rw [costL_length]; omega)]
  | d + 1, q, k, h => by
    have hq : q < l.length := by omega
    have hw := wrap_nat q (by omega)
    have ih := costs_l0 l hl d (q + 1) k (by omega)
    rw [take_rdI (costL l) q (by rw [costL_length]; exact hq), costL_rd l q hq] at ih
    rw [show k + (d + 1) + 1 = (k + d + 1) + 1 from by omega, branch_town_costs.l0, if_pos (by omega), if_pos (by omega), if_pos (by omega), if_pos (by rw [List.length_take]; omega), hw]
    exact ih
theorem costs_f (n : Int) (l : List S30) (hl : l.length ≤ 30) (k : Nat) (hk : 40 ≤ k) : branch_town_costs.f k n l = some (costL l) := by
  have := costs_l0 l (by omega) l.length 0 (k - l.length - 1) (by omega)
  rw [show k - l.length - 1 + l.length + 1 = k from by omega] at this
  exact this
theorem cost_low (hx : ∀ x ∈ l, wayOk n x = true) (i : Nat) (h : i < l.length) : 0 ≤ costW l i ∧ costW l i ≤ 1000 := by
  have := (wayOk_iff n _).1 (hx _ (rd_T30_mem l i h))
  unfold costW
  omega
theorem FirstB.congr {p q : Nat → Int} {v : Int} (h : FirstB n l p v f) (e : ∀ i, i < l.length → p i = q i) : FirstB n l q v f := by
  have hc : ∀ g, BrB n l g → costF n p g = costF n q g := fun g hg => costF_congr fun c c0 c1 => e _ (hg.on c c0 c1).1
  exact ⟨h.is, (hc f h.is) ▸ h.cost, fun g hg => (hc g hg) ▸ h.least g hg, fun g hg hv => h.ahead g hg ((hc g hg).trans hv)⟩
/-- Branching. -/
theorem branching_spec (hr : readB (n : Int) l = 0) :
    (∃ f v, FirstB n l (costW l) v f ∧ ∀ k, 3000 ≤ k → branch_Branching.f k (n : Int) l = some (listB n l f, v, 0)) ∨
    ((∀ f, ¬ BrB n l f) ∧ ∀ k, 3000 ≤ k → branch_Branching.f k (n : Int) l = some ([], 0, 10)) := by
  obtain ⟨h2, h7, h30, hx⟩ := readB_ok hr
  have hstep : ∀ k, 3000 ≤ k → branch_Branching.f k (n : Int) l = branch_town_first.f k (n : Int) l (costL l) := by
    intro k hk
    unfold branch_Branching.f branch_read.f
    rw [hr, Option.bind_some, if_pos rfl, costs_f _ l h30 k (by omega), Option.bind_some]
  have hp : ∀ i : Nat, i < l.length → 0 ≤ rd (costL l) (i : Int) ∧ rd (costL l) (i : Int) ≤ 1000 := fun i hi => by rw [costL_rd l i hi]; exact cost_low hx i hi
  rcases first_spec (n := n) (by omega) (by omega) h30 hx (costL l) (costL_length l) hp with ⟨f, v, hf, hk⟩ | ⟨hno, hk⟩
  · exact .inl ⟨f, v, hf.congr fun i hi => costL_rd l i hi, fun k h => (hstep k h).trans (hk k h)⟩
  · exact .inr ⟨hno, fun k h => (hstep k h).trans (hk k h)⟩
theorem costF_neg (hn : 1 ≤ n) (M : Int) (p : Nat → Int) (f : Nat → Nat) : costF n (fun i => M - p i) f = ((n : Int) - 1) * M - costF n p f := by
  unfold costF
  have key : ∀ m, 1 ≤ m → sumZ (fun c => if c = 0 then 0 else M - p (f c)) m = ((m : Int) - 1) * M - sumZ (fun c => if c = 0 then 0 else p (f c)) m := by
    intro m
    induction m with
    | zero => intro h; omega
    | succ m ih =>
      intro _
      simp only [sumZ]
      by_cases e : m = 0
      · subst e; simp [sumZ]
      · rw [ih (by omega), if_neg e, if_neg e]
        have : (((m + 1 : Nat) : Int) - 1) * M = ((m : Int) - 1) * M + M := by
          rw [show ((m + 1 : Nat) : Int) - 1 = ((m : Int) - 1) + 1 by omega, Int.add_mul, Int.one_mul]
        omega
  exact key n hn
theorem costF_low (hn1 : 1 ≤ n) (hn : n ≤ 7) {p : Nat → Int} (hp : ∀ i, i < l.length → 0 ≤ p i ∧ p i ≤ 1000) (hf : BrB n l f) : 0 ≤ costF n p f ∧ costF n p f ≤ 6000 := by
  refine ⟨costF_nonneg fun c c0 c1 => (hp _ (hf.on c c0 c1).1).1, ?_⟩
  have h2 := costF_nonneg (n := n) (p := fun i => 1000 - p i) (f := f) fun c c0 c1 => by have := (hp _ (hf.on c c0 c1).1).2; omega
  rw [costF_neg hn1] at h2
  omega
/-- Dear: the first branching of the least sum of what lacks to 1000. -/
theorem dear_spec (hr : readB (n : Int) l = 0) :
    (∃ f v, FirstB n l (fun i => 1000 - costW l i) (((n : Int) - 1) * 1000 - v) f ∧ ∀ k, 3000 ≤ k → branch_Dear.f k (n : Int) l = some (listB n l f, v, 0)) ∨
    ((∀ f, ¬ BrB n l f) ∧ ∀ k, 3000 ≤ k → branch_Dear.f k (n : Int) l = some ([], 0, 10)) := by
  obtain ⟨h2, h7, h30, hx⟩ := readB_ok hr
  have hw : wrap64 ((n : Int) - 1) = (n : Int) - 1 := by unfold wrap64; omega
  have hstep : ∀ k, 3000 ≤ k → branch_Dear.f k (n : Int) l = (branch_town_first.f k (n : Int) l (dearB (costL l))).bind fun r => if r.2.2 = 0 then some (r.1, wrap64 (wrap64 (((n : Int) - 1) * 1000) - r.2.1), 0) else some ([], 0, r.2.2) := by
    intro k hk
    unfold branch_Dear.f branch_read.f
    rw [hr, Option.bind_some, if_pos rfl, costs_f _ l h30 k (by omega), Option.bind_some, if_pos (by rw [costL_length]; omega), hw]
  have hrd : ∀ i : Nat, i < l.length → rd (dearB (costL l)) (i : Int) = 1000 - costW l i := by
    intro i hi
    have h1 := cost_low hx i hi
    have h2 := costL_rd l i hi
    have h3 : rd (dearB (costL l)) (i : Int) = wrap64 (1000 - rd (costL l) (i : Int)) := by
      have hl : i < (costL l).length := by rw [costL_length]; exact hi
      simp [rd, dearB, List.getD, List.getElem?_eq_getElem hl]
    rw [h3, h2]
    unfold wrap64; omega
  have hp : ∀ i : Nat, i < l.length → 0 ≤ rd (dearB (costL l)) (i : Int) ∧ rd (dearB (costL l)) (i : Int) ≤ 1000 := fun i hi => by
    rw [hrd i hi]; have := cost_low hx i hi; omega
  rcases first_spec (n := n) (by omega) (by omega) h30 hx (dearB (costL l)) (by rw [dearB_length, costL_length]) hp with ⟨f, v, hf, hk⟩ | ⟨hno, hk⟩
  · have hf2 := hf.congr (q := fun i => 1000 - costW l i) fun i hi => hrd i hi
    refine .inl ⟨f, ((n : Int) - 1) * 1000 - v, ?_, fun k h => ?_⟩
    · rw [show ((n : Int) - 1) * 1000 - (((n : Int) - 1) * 1000 - v) = v by omega]
      exact hf2
    · have hb := costF_low (n := n) (p := fun i => 1000 - costW l i) (by omega) (by omega) (fun i hi => by have := cost_low hx i hi; omega) hf2.is
      rw [hf2.cost] at hb
      rw [hstep k h, hk k h, Option.bind_some, if_pos rfl]
      refine congrArg some (Prod.ext rfl (Prod.ext ?_ rfl))
      show wrap64 (wrap64 (((n : Int) - 1) * 1000) - v) = ((n : Int) - 1) * 1000 - v
      unfold wrap64; omega
  · refine .inr ⟨hno, fun k h => ?_⟩
    rw [hstep k h, hk k h]
    rfl
def lessL : List Int → List Int → Bool
  | [], [] => false
  | [], _ :: _ => true
  | _ :: _, [] => false
  | x :: A, y :: B => if x = y then lessL A B else decide (x < y)
theorem less_l0 (A B : List Int) (hA : A.length < 1000) (hB : B.length < 1000) : ∀ (d q k : Nat), q + d = A.length → q ≤ B.length → trishawref03_Less.l0 (k + 2 * d + 2) A B (q : Int) = some (lessL (A.drop q) (B.drop q))
  | 0, q, k, h, hq => by
    rw [show k + 2 * 0 + 2 = k + 1 + 1 from rfl, trishawref03_Less.l0, if_neg (by omega), trishawref03_Less.j1, if_neg (by decide), List.drop_eq_nil_of_le (show A.length ≤ q by omega)]
    by_cases e : q < B.length
    · rw [drop_rdI4 B q e, decide_eq_true (by omega)]; rfl
    · rw [List.drop_eq_nil_of_le (by omega), decide_eq_false (by omega)]; rfl
  | d + 1, q, k, h, hq => by
    have hqA : q < A.length := by omega
    have hw := wrap_nat q (by omega)
    have ih := fun h => less_l0 A B hA hB d (q + 1) k (by omega) h
    rw [show k + 2 * (d + 1) + 2 = (k + 2 * d + 2) + 1 + 1 from by omega, trishawref03_Less.l0, if_pos (by omega), drop_rdI4 A q hqA]
    by_cases e : q < B.length
    · rw [decide_eq_true (by omega), trishawref03_Less.j1, if_pos rfl, drop_rdI4 B q e, if_pos (by omega), if_pos (by omega), if_pos (by omega)]
      simp only [lessL]
      by_cases h1 : rd A (q : Int) = rd B (q : Int)
      · rw [if_pos h1, if_pos h1, hw]
        exact ih (by omega)
      · rw [if_neg h1, if_neg h1]
    · rw [decide_eq_false (by omega), trishawref03_Less.j1, if_neg (by decide), List.drop_eq_nil_of_le (show B.length ≤ q by omega), decide_eq_false (by omega)]
      rfl
theorem less_f (A B : List Int) (hA : A.length < 1000) (hB : B.length < 1000) (k : Nat) (hk : 2 * A.length + 2 ≤ k) : trishawref03_Less.f k A B = some (lessL A B) := by
  have := less_l0 A B hA hB A.length 0 (k - 2 * A.length - 2) (by omega) (by omega)
  rw [show k - 2 * A.length - 2 + 2 * A.length + 2 = k from by omega] at this
  exact this
theorem lessL_self : ∀ A, lessL A A = false
  | [] => rfl
  | x :: A => by simp only [lessL, if_true]; exact lessL_self A
/-- Ahead, as_ lists of one length. -/
theorem ahead_less {X Y : Nat → Bool} : ∀ (m : Nat), Ahead X Y m → (selL X m).length = (selL Y m).length → lessL (selL Y m) (selL X m) = false := by
  intro m hA hlen
  rcases hA with h | ⟨j, hj, hq, h1, h2⟩
  · rw [selL_congr m h]; exact lessL_self _
  · -- both lists are one list up to j; then X has j
    have hsplit : ∀ (Z : Nat → Bool) (d : Nat), ∃ R : List Int, selL Z (j + 1 + d) = selL Z (j + 1) ++ R ∧ ∀ x ∈ R, (j : Int) < x := by
      intro Z d
      induction d with
      | zero => exact ⟨[], by simp, fun x hx => absurd hx (by simp)⟩
      | succ d ih =>
        obtain ⟨R, e, hR⟩ := ih
        rw [show j + 1 + (d + 1) = (j + 1 + d) + 1 by omega, selL_succ]
        by_cases hz : Z (j + 1 + d) = true
        · rw [if_pos hz, e]
          refine ⟨R ++ [((j + 1 + d : Nat) : Int)], by rw [List.append_assoc], fun x hx => ?_⟩
          rcases List.mem_append.1 hx with hx | hx
          · exact hR x hx
          · rw [List.mem_singleton] at hx; omega
        · rw [if_neg hz]
          exact ⟨R, e, hR⟩
    obtain ⟨RX, eX, _⟩ := hsplit X (m - (j + 1))
    obtain ⟨RY, eY, hRY⟩ := hsplit Y (m - (j + 1))
    rw [show j + 1 + (m - (j + 1)) = m by omega] at eX eY
    rw [selL_succ, if_pos h1, selL_congr j hq] at eX
    rw [selL_succ, if_neg (by rw [h2]; decide)] at eY
    rw [eX, eY] at hlen ⊢
    rw [List.length_append, List.length_append, List.length_append, List.length_singleton] at hlen
    cases RY with
    | nil => simp at hlen; omega
    | cons y RY =>
      have hy := hRY y List.mem_cons_self
      have key : ∀ P : List Int, lessL (P ++ y :: RY) (P ++ (j : Int) :: RX) = false := by
        intro P
        induction P with
        | nil => simp only [List.nil_append, lessL]; rw [if_neg (by omega)]; exact decide_eq_false (by omega)
        | cons z P ih => simp only [List.cons_append, lessL, if_true]; exact ih
      rw [List.append_assoc]
      exact key _
/-- The first branching's list is not behind another's. -/
theorem FirstB.not_less {p : Nat → Int} {v : Int} (hn : 1 ≤ n) (h : FirstB n l p v f) {g : Nat → Nat} (hg : BrB n l g) (hv : costF n p g = v) : lessL (listB n l g) (listB n l f) = false :=
  ahead_less _ (h.ahead g hg hv) (by have a := h.is.selLen hn; have b := hg.selLen hn; omega)
end
end Go.Proofs.Ytpmadffgdfholaa.B
namespace Go.Proofs.Ytpmadffgdfholaa.Pure
set_option linter.unusedVariables false
open Go.RowKit Go.Proofs.Ytpmadffgdfholaa.B Go.Proofs.YtpmadffgdfholaaW.PrintWords Go.Proofs.YtpmadffgdfholaaW.PrintLast Go.Proofs.YtpmadffgdfholaaW.PrintMore
theorem BranchBetween : trishawlaw03_BranchBetween.Pure := by
  intro a0 l1 l2 _ _ _ _ _
  obtain ⟨q, hq⟩ : ∃ q, q = 4000 := ⟨_, rfl⟩
  refine ⟨q + 2, ?_⟩
  have al := fun k hk => alive_from k hk
  have hj : trishawlaw03_BranchBetween.j0 (q + 2) a0 l1 l2 true = some true := by
    rw [trishawlaw03_BranchBetween.j0, if_pos rfl, al _ (by omega)]; rfl
  unfold trishawlaw03_BranchBetween.f
  by_cases hf : (l1.length : Int) ≤ 60
  case neg => unfold trishawlaw03_few.f; rw [if_neg hf, Option.bind_some, if_neg (by decide)]; exact hj
  by_cases hf2 : (l2.length : Int) ≤ 60
  case neg => unfold trishawlaw03_few.f; rw [if_pos hf, Option.bind_some, decide_eq_false hf2, if_neg (by decide)]; exact hj
  have hfew : trishawlaw03_few.f l1 l2 = some true := by unfold trishawlaw03_few.f; rw [if_pos hf, decide_eq_true hf2]
  rw [hfew, Option.bind_some, if_pos rfl, town_eq a0 l1 _ (.inr (by omega)), Option.bind_some]
  by_cases hr : readB a0 l1 = 0
  case neg => rw [show (readB a0 l1 != 0) = true from bne_iff_ne.mpr hr]; exact hj
  rw [hr, show ((0 : Int) != 0) = false from rfl]
  obtain ⟨h2, h7, h30, hx⟩ := readB_ok hr
  obtain ⟨n, rfl⟩ := Int.eq_ofNat_of_zero_le (show 0 ≤ a0 by omega)
  obtain ⟨c, b, i1, i2, i3, _, _⟩ := is_spec hr l2
  rw [trishawlaw03_BranchBetween.j0, if_neg (by decide)]
  rcases branching_spec hr with ⟨f, v, hfb, hk⟩ | ⟨hno, hk⟩
  · rcases dear_spec hr with ⟨g, w, hgb, hk2⟩ | ⟨hno, _⟩
    · rw [hk _ (by omega), Option.bind_some, hk2 _ (by omega), Option.bind_some, i3 _ (by omega), Option.bind_some, if_pos rfl]
      show trishawlaw03_BranchBetween.j1 (q + 1) l2 (listB n l1 f) v 0 (listB n l1 g) w c b false = some true
      rw [trishawlaw03_BranchBetween.j1, if_neg (by decide)]
      cases b with
      | false =>
        rw [if_neg (by decide), if_pos (i2 rfl).1, al _ (by omega)]; rfl
      | true =>
        obtain ⟨h, hh, rfl, rfl⟩ := i1 rfl
        have c1 := hfb.least h hh
        have c2 := hgb.least h hh
        rw [costF_neg (by omega)] at c2
        have l1l : ∀ u, BrB n l1 u → (listB n l1 u).length < 1000 := fun u _ => by have := selL_length (useB n (bW l1) u) l1.length; unfold listB; omega
        have lf := less_f (listB n l1 h) (listB n l1 f) (l1l h hh) (l1l f hfb.is) q (by have := l1l h hh; omega)
        have lg := less_f (listB n l1 h) (listB n l1 g) (l1l h hh) (l1l g hgb.is) q (by have := l1l h hh; omega)
        rw [if_pos rfl, if_pos rfl, if_pos (by omega), if_pos (by omega)]
        have hg2 : ¬ costF n (costW l1) h < w → lessL (listB n l1 h) (listB n l1 g) = false := fun hc => hgb.not_less (by omega) hh (by rw [costF_neg (by omega)]; omega)
        have hf2 : ¬ costF n (costW l1) h > v → lessL (listB n l1 h) (listB n l1 f) = false := fun hc => hfb.not_less (by omega) hh (by omega)
        by_cases d1 : costF n (costW l1) h > v
        · rw [if_pos d1]
          by_cases d2 : costF n (costW l1) h < w
          · rw [if_pos d2, al _ (by omega)]; rfl
          · rw [if_neg d2, lg, hg2 d2, Option.bind_some, if_neg (by decide), al _ (by omega)]; rfl
        · rw [if_neg d1, lf, hf2 d1, Option.bind_some, if_neg (by decide)]
          by_cases d2 : costF n (costW l1) h < w
          · rw [if_pos d2, al _ (by omega)]; rfl
          · rw [if_neg d2, lg, hg2 d2, Option.bind_some, if_neg (by decide), al _ (by omega)]; rfl
    · exact absurd hfb.is (hno f)
  · rcases dear_spec hr with ⟨g, w, hgb, hk2⟩ | ⟨_, hk2⟩
    · exact absurd hgb.is (hno g)
    · rw [hk _ (by omega), Option.bind_some, hk2 _ (by omega), Option.bind_some, i3 _ (by omega), Option.bind_some, if_pos rfl]
      cases b with
      | true => obtain ⟨h, hh, _⟩ := i1 rfl; exact absurd hh (hno h)
      | false =>
        obtain ⟨rfl, _⟩ := i2 rfl
        show trishawlaw03_BranchBetween.j1 (q + 1) l2 [] 0 10 [] 0 0 false false = some true
        rw [trishawlaw03_BranchBetween.j1, if_neg (by decide), if_neg (by decide), if_pos rfl, al _ (by omega)]; rfl
end Go.Proofs.Ytpmadffgdfholaa.Pure
