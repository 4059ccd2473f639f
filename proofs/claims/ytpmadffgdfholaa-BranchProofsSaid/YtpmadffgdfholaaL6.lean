/- Texts behind the row of BranchProofs, part 6: contracts of the functions it reaches, words that their walks use, and lemmas in plain Lean. -/
import Derived.Below
import Derived.Deep.Draws
import Derived.Deep.AppendLies
import Derived.Maps.AppendAt
import Derived.OwnWalk
import Derived.Laws.BytesArg
import Derived.Laws.MakeOwn
import Derived.Laws.OwnMore
import Derived.Deep.OwnRows
import Derived.Tactics
import Derived.Lib.ConvBytes
import Derived.Laws.Slices
import Derived.WalkKit
import Derived.KernelRfl
import Derived.RowKit3
import Derived.Deep.LoopGhost
import Derived.Deep.QuietTactic
import Derived.BigQuiet
import Derived.WideLaws
import Derived.Deep.DeepCutAuto
import Derived.Deep.CutBlock
import Derived.Deep.RegionHeld3
import Derived.Laws.Rows
import Derived.Lib.AppendStr
import Derived.ArgAppend
import Derived.Laws.IdiomCopy
import Derived.RowKit
import Derived.OrdersHeld
import Derived.Laws.BitsLemmas
import Derived.Laws.StructEq
import Derived.Test.YtpmadffgdfholaaProg
import Derived.WalkSpells
import Derived.Laws.EntriesVeiled
import Derived.MapKept
import Derived.Deep.DrawnRows
import Derived.Maps.RangeWalk
import Derived.Deep.Slices
import Derived.Deep.Fields
import Derived.ChangeSame
import Derived.Test.YtpmadffgdfholaaL1
import Derived.Test.YtpmadffgdfholaaL2
import Derived.Test.YtpmadffgdfholaaL3
import Derived.Test.YtpmadffgdfholaaL4
import Derived.Test.YtpmadffgdfholaaL5
namespace Go.Proofs.Ytpmadffgdfholaa.B
set_option linter.unusedVariables false
open Go.RowKit Go.Proofs.YtpmadffgdfholaaW.PrintWords Go.Proofs.YtpmadffgdfholaaW.PrintLast Go.Proofs.YtpmadffgdfholaaW.PrintMore
def putL : List Int → Int → List Int
  | [], x => [x]
  | y :: L, x => if y < x then y :: putL L x else x :: y :: L
theorem putL_mem (x z : Int) : ∀ L, z ∈ putL L x ↔ z = x ∨ z ∈ L
  | [] => by simp [putL]
  | y :: L => by
    have ih := putL_mem x z L
    unfold putL
    split
    · rw [List.mem_cons, ih, List.mem_cons]
      constructor
      · rintro (h | h | h)
        · exact .inr (.inl h)
        · exact .inl h
        · exact .inr (.inr h)
      · rintro (h | h | h)
        · exact .inr (.inl h)
        · exact .inl h
        · exact .inr (.inr h)
    · rw [List.mem_cons]
theorem putL_asc (x : Int) : ∀ L, L.Pairwise (· < ·) → x ∉ L → (putL L x).Pairwise (· < ·)
  | [], _, _ => List.pairwise_singleton _ _
  | y :: L, h, hx => by
    rw [List.pairwise_cons] at h
    rw [List.mem_cons, not_or] at hx
    unfold putL
    split
    · rename_i hy
      rw [List.pairwise_cons]
      refine ⟨fun z hz => ?_, putL_asc x L h.2 hx.2⟩
      rcases (putL_mem x z L).1 hz with rfl | hz
      · exact hy
      · exact h.1 z hz
    · rename_i hy
      have hlt : x < y := by have := hx.1; omega
      rw [List.pairwise_cons]
      refine ⟨fun z hz => ?_, List.pairwise_cons.2 h⟩
      rcases List.mem_cons.1 hz with rfl | hz
      · exact hlt
      · have := h.1 z hz; omega
/-- put's loop passes what is less. -/
theorem put_l0 (L : List Int) (x : Int) (hl : L.length < 1000) : ∀ (d q k : Nat), q + d = L.length → trishawref03_put.l0 (k + d + 1) L x (q : Int) = some (L.take q ++ putL (L.drop q) x)
  | 0, q, k, h => by
    rw [show k + 0 + 1 = k + 1 from rfl, trishawref03_put.l0, if_neg (by omega), if_pos (by omega), if_pos (by omega), if_pos (by simp; omega), Option.bind_some, if_pos (by simp; omega), Option.bind_some, if_pos (by simp; omega)]
    have hq : q = L.length := by omega
    subst hq
    simp [putL]
  | d + 1, q, k, h => by
    have hq : q < L.length := by omega
    have hw := wrap_nat q (by omega)
    rw [show k + (d + 1) + 1 = (k + d + 1) + 1 from by omega, trishawref03_put.l0, if_pos (by omega), if_pos (by omega), drop_rdI4 L q hq]
    unfold putL
    by_cases hlt : rd L (q : Int) < x
    · rw [if_pos hlt, if_pos hlt, hw, put_l0 L x hl d (q + 1) k (by omega), take_rdI L q hq]
      simp
    · rw [if_neg hlt, if_neg hlt, if_pos (by omega), if_pos (by simp; omega), Option.bind_some, if_pos (by simp; omega), Option.bind_some, if_pos (by simp; omega)]
      simp only [Int.toNat_natCast, List.nil_append]
      rw [drop_rdI4 L q hq]
      simp
theorem put_f (L : List Int) (x : Int) (hl : L.length < 1000) (k : Nat) (hk : L.length + 1 ≤ k) : trishawref03_put.f k L x = some (putL L x) := by
  have := put_l0 L x hl L.length 0 (k - L.length - 1) (by omega)
  rw [show k - L.length - 1 + L.length + 1 = k from by omega, List.take_zero, List.drop_zero, List.nil_append] at this
  exact this
theorem lessL_total : ∀ (A B : List Int), lessL A B = false → lessL B A = false → A = B
  | [], [], _, _ => rfl
  | [], _ :: _, h, _ => absurd h (by simp [lessL])
  | _ :: _, [], _, h => absurd h (by simp [lessL])
  | x :: A, y :: B, h1, h2 => by
    unfold lessL at h1 h2
    by_cases e : x = y
    · subst e
      rw [if_pos rfl] at h1 h2
      rw [lessL_total A B h1 h2]
    · rw [if_neg e] at h1
      rw [if_neg (fun h => e h.symm)] at h2
      have a := of_decide_eq_false h1
      have b := of_decide_eq_false h2
      omega
theorem lessL_first : ∀ (A B C : List Int), lessL A B = true → lessL C B = false → lessL C A = false
  | [], [], _, h, _ => absurd h (by simp [lessL])
  | _ :: _, [], _, h, _ => absurd h (by simp [lessL])
  | [], y :: B, C, _, h2 => by cases C <;> simp [lessL]
  | x :: A, y :: B, [], _, h2 => absurd h2 (by simp [lessL])
  | x :: A, y :: B, z :: C, h1, h2 => by
    unfold lessL at h1 h2 ⊢
    by_cases e : x = y
    · subst e
      rw [if_pos rfl] at h1
      by_cases e2 : z = x
      · rw [if_pos e2] at h2 ⊢
        exact lessL_first A B C h1 h2
      · rw [if_neg e2] at h2 ⊢
        exact h2
    · rw [if_neg e] at h1
      have a := of_decide_eq_true h1
      by_cases e2 : z = y
      · subst e2
        rw [if_neg (by omega)]
        exact decide_eq_false (by omega)
      · rw [if_neg e2] at h2
        have b := of_decide_eq_false h2
        rw [if_neg (by omega)]
        exact decide_eq_false (by omega)
section
variable {n : Nat} {l : List S30} {sign : Int}
/-- What has been found, of the branchings D. -/
structure InvF (n : Nat) (l : List S30) (sign : Int) (s : FoundS) (D : (Nat → Nat) → Prop) : Prop where
  nil : s.2.2 = [] → ∀ g, ¬ D g
  best : s.2.2 ≠ [] → ∃ f, BrB n l f ∧ s.2.2 = listB n l f ∧ s.2.1 = sign * costF n (costW l) f
  low : s.2.2 ≠ [] → ∀ g, D g → s.2.1 ≤ sign * costF n (costW l) g ∧ (sign * costF n (costW l) g = s.2.1 → lessL (listB n l g) s.2.2 = false)
theorem InvF.congr {s : FoundS} {D E : (Nat → Nat) → Prop} (h : InvF n l sign s D) (e : ∀ g, D g ↔ E g) : InvF n l sign s E :=
  ⟨fun h0 g hg => h.nil h0 g ((e g).2 hg), h.best, fun h0 g hg => h.low h0 g ((e g).2 hg)⟩
/-- g goes on where f has been chosen below k. -/
def extF (f : Nat → Nat) (k : Nat) (g : Nat → Nat) : Prop := ∀ c, 0 < c → c < k → g c = f c
theorem listB_ext {f g : Nat → Nat} (h : extF f n g) : listB n l g = listB n l f := by
  refine selL_congr _ fun j _ => ?_
  unfold useB
  by_cases hb : 0 < bW l j ∧ bW l j < n
  · rw [h _ hb.1 hb.2]
  · rcases Nat.eq_zero_or_pos (bW l j) with h0 | h0
    · simp [h0]
    · simp [show ¬ bW l j < n from fun h1 => hb ⟨h0, h1⟩]
theorem costF_ext {p : Nat → Int} {f g : Nat → Nat} (h : extF f n g) : costF n p g = costF n p f := costF_congr fun c c0 c1 => by rw [h c c0 c1]
/-- One more branching. -/
def stepF (s : FoundS) (L : List Int) (c : Int) : FoundS :=
  if s.2.2.length = 0 then (s.1 + 1, c, L) else if c < s.2.1 then (s.1 + 1, c, L) else if c = s.2.1 then (if lessL L s.2.2 = true then (s.1 + 1, c, L) else (s.1 + 1, s.2.1, s.2.2)) else (s.1 + 1, s.2.1, s.2.2)
theorem stepF_many (s : FoundS) (L : List Int) (c : Int) : (stepF s L c).1 = s.1 + 1 := by
  unfold stepF
  split
  · rfl
  · split
    · rfl
    · split
      · split <;> rfl
      · rfl
theorem InvF.step {s : FoundS} {D : (Nat → Nat) → Prop} (h : InvF n l sign s D) {f : Nat → Nat} (hf : BrB n l f) (hne : listB n l f ≠ []) : InvF n l sign (stepF s (listB n l f) (sign * costF n (costW l) f)) (fun g => D g ∨ (BrB n l g ∧ extF f n g)) := by
  have hself : ∀ g, BrB n l g ∧ extF f n g → listB n l g = listB n l f ∧ costF n (costW l) g = costF n (costW l) f := fun g hg => ⟨listB_ext hg.2, costF_ext hg.2⟩
  unfold stepF
  by_cases h0 : s.2.2.length = 0
  · rw [if_pos h0]
    have hnil : s.2.2 = [] := List.eq_nil_of_length_eq_zero h0
    refine ⟨fun e => absurd e hne, fun _ => ⟨f, hf, rfl, rfl⟩, fun _ g hg => ?_⟩
    rcases hg with hg | hg
    · exact absurd hg (h.nil hnil g)
    · obtain ⟨e1, e2⟩ := hself g hg
      rw [e1, e2]
      exact ⟨Int.le_refl _, fun _ => lessL_self _⟩
  rw [if_neg h0]
  have hnn : s.2.2 ≠ [] := fun e => h0 (by rw [e]; rfl)
  by_cases h1 : sign * costF n (costW l) f < s.2.1
  · rw [if_pos h1]
    refine ⟨fun e => absurd e hne, fun _ => ⟨f, hf, rfl, rfl⟩, fun _ g hg => ?_⟩
    rcases hg with hg | hg
    · have := (h.low hnn g hg).1
      exact ⟨by show sign * costF n (costW l) f ≤ _; omega, fun e => by have e2 : sign * costF n (costW l) g = sign * costF n (costW l) f := e; omega⟩
    · obtain ⟨e1, e2⟩ := hself g hg
      rw [e1, e2]
      exact ⟨Int.le_refl _, fun _ => lessL_self _⟩
  rw [if_neg h1]
  by_cases h2 : sign * costF n (costW l) f = s.2.1
  · rw [if_pos h2]
    by_cases h3 : lessL (listB n l f) s.2.2 = true
    · rw [if_pos h3]
      refine ⟨fun e => absurd e hne, fun _ => ⟨f, hf, rfl, rfl⟩, fun _ g hg => ?_⟩
      rcases hg with hg | hg
      · obtain ⟨a1, a2⟩ := h.low hnn g hg
        refine ⟨by show sign * costF n (costW l) f ≤ _; omega, fun e => ?_⟩
        have e2 : sign * costF n (costW l) g = sign * costF n (costW l) f := e
        exact lessL_first _ _ _ h3 (a2 (by omega))
      · obtain ⟨e1, e2⟩ := hself g hg
        rw [e1, e2]
        exact ⟨Int.le_refl _, fun _ => lessL_self _⟩
    · rw [if_neg h3]
      refine ⟨fun e => absurd e hnn, fun _ => h.best hnn, fun _ g hg => ?_⟩
      rcases hg with hg | hg
      · exact h.low hnn g hg
      · obtain ⟨e1, e2⟩ := hself g hg
        rw [e1, e2]
        exact ⟨by show s.2.1 ≤ _; omega, fun _ => Bool.eq_false_iff.mpr h3⟩
  · rw [if_neg h2]
    refine ⟨fun e => absurd e hnn, fun _ => h.best hnn, fun _ g hg => ?_⟩
    rcases hg with hg | hg
    · exact h.low hnn g hg
    · obtain ⟨e1, e2⟩ := hself g hg
      rw [e1, e2]
      exact ⟨by show s.2.1 ≤ _; omega, fun e => by have e3 : sign * costF n (costW l) f = s.2.1 := e; exact absurd e3 h2⟩
/-- The streets that have been chosen below k, as_ a list. -/
def nowL (l : List S30) (k : Nat) (f : Nat → Nat) : List Int := selL (useB k (bW l) f) l.length
theorem nowL_put {k : Nat} (hk : 1 ≤ k) {f : Nat → Nat} {i : Nat} (hi : i < l.length) (hb : bW l i = k) : putL (nowL l k f) (i : Int) = nowL l (k + 1) (fun c => if c = k then i else f c) := by
  refine asc_ext _ _ (putL_asc _ _ (selL_asc _ _) fun hm => ?_) (selL_asc _ _) fun z => ?_
  · obtain ⟨_, hu⟩ := (selL_mem _ _ _).1 hm
    have := (useB_iff.1 hu).2.1
    omega
  · rw [putL_mem]
    have hmem : ∀ j, j < l.length → (useB (k + 1) (bW l) (fun c => if c = k then i else f c) j = true ↔ j = i ∨ useB k (bW l) f j = true) := by
      intro j hj
      rw [useB_iff, useB_iff]
      constructor
      · rintro ⟨u1, u2, u3⟩
        by_cases e : bW l j = k
        · rw [if_pos e] at u3; exact .inl u3.symm
        · rw [if_neg e] at u3; exact .inr ⟨u1, by omega, u3⟩
      · rintro (rfl | ⟨u1, u2, u3⟩)
        · exact ⟨by omega, by omega, by rw [if_pos hb]⟩
        · exact ⟨u1, by omega, by rw [if_neg (by omega)]; exact u3⟩
    constructor
    · rintro (rfl | hz)
      · exact (selL_mem _ _ _).2 ⟨hi, (hmem i hi).2 (.inl rfl)⟩
      · obtain ⟨j, rfl, hj, hu⟩ := selL_nat _ _ z hz
        exact (selL_mem _ _ _).2 ⟨hj, (hmem j hj).2 (.inr hu)⟩
    · intro hz
      obtain ⟨j, rfl, hj, hu⟩ := selL_nat _ _ z hz
      rcases (hmem j hj).1 hu with rfl | hu
      · exact .inl rfl
      · exact .inr ((selL_mem _ _ _).2 ⟨hj, hu⟩)
theorem sumZ_mono {G : Nat → Int} (h : ∀ i, 0 ≤ G i) (i : Nat) : ∀ e, sumZ G i ≤ sumZ G (i + e)
  | 0 => Int.le_refl _
  | e + 1 => by rw [← Nat.add_assoc, sumZ]; have := h (i + e); have := sumZ_mono h i e; omega
theorem lin_low {s t : Int} {G : Nat → Int} {i : Nat} (h0 : 0 ≤ s) (hj : t = s + sumZ G i) (h : sumZ G 0 ≤ sumZ G i) : 0 ≤ t := by
  rw [show sumZ G 0 = 0 from rfl] at h
  generalize sumZ G i = x at hj h
  omega
theorem lin_high {s t : Int} {G : Nat → Int} {i m : Nat} (hj : t = s + sumZ G i) (hm : s + sumZ G m ≤ 1000000000) (h : sumZ G (i + 1) ≤ sumZ G m) : t + G i ≤ 1000000000 := by
  rw [sumZ] at h
  generalize sumZ G i = x at hj h
  generalize sumZ G m = y at hm h
  generalize G i = z at h ⊢
  omega
theorem lin_next {s t u : Int} {G : Nat → Int} {i : Nat} (hj : t = s + sumZ G i) (hu : u = t + G i) : u = s + sumZ G (i + 1) := by
  rw [sumZ, hu, hj, Int.add_assoc]
theorem refB_spec (hn1 : 2 ≤ n) (hn : n ≤ 7) (hl : l.length ≤ 30) (hx : ∀ x ∈ l, wayOk n x = true) (hsg : sign = 1 ∨ sign = -1) : ∀ (d corner : Nat) (f : Nat → Nat) (s : FoundS) (D : (Nat → Nat) → Prop), corner + d = n → 1 ≤ corner → (∀ c, 0 < c → c < corner → bW l (f c) = c ∧ f c < l.length) → InvF n l sign s D → 0 ≤ s.1 → s.1 + cntB (leafB n l) (bW l) l.length d corner f ≤ 1000000000 →
    ∃ s' : FoundS, (∀ k, 2000 + 100 * d ≤ k → refB.f k (n : Int) l sign (corner : Int) (nowL l corner f) s = some s') ∧ InvF n l sign s' (fun g => D g ∨ (BrB n l g ∧ extF f corner g)) ∧ s'.1 = s.1 + cntB (leafB n l) (bW l) l.length d corner f
  | 0, corner, f, s, D, hc, h1, hf, hI, hm0, hm => by
    obtain rfl : corner = n := by rw [← hc]; rfl
    have HM := Aside0.mk hm
    clear hm
    have hlen : (nowL l corner f).length ≤ 30 := by have := selL_length (useB corner (bW l) f) l.length; unfold nowL; omega
    have hin : InL corner l (nowL l corner f) := by
      intro i hi
      obtain ⟨j, rfl, hj, _⟩ := selL_nat _ _ i hi
      exact ⟨by omega, by omega, hx _ (rd_T30_mem l j hj)⟩
    have hall := all_reached (n := corner) (by omega) hn hin
    have hmemN : ∀ i : Nat, (i : Int) ∈ nowL l corner f ↔ ∃ c, 0 < c ∧ c < corner ∧ i = f c := by
      intro i
      unfold nowL
      rw [selL_mem, useB_iff]
      constructor
      · rintro ⟨_, u1, u2, u3⟩; exact ⟨_, u1, u2, u3.symm⟩
      · rintro ⟨c, c0, c1, rfl⟩
        obtain ⟨b1, b2⟩ := hf c c0 c1
        exact ⟨b2, by omega, by omega, by rw [b1]⟩
    have hbr : ((itS l (nowL l corner f) corner 1 : Nat) : Int) = 2 ^ corner - 1 ↔ BrB corner l f := by
      rw [hall]
      constructor
      · intro h
        exact ⟨fun c c0 c1 => ⟨(hf c c0 c1).2, (hf c c0 c1).1⟩, fun c hc => (h c hc).mono fun i hi => (hmemN i).1 hi⟩
      · intro h c hc
        exact (h.all c hc).mono fun i hi => (hmemN i).2 hi
    have hreach := fun k hk => reach_ref (n := corner) (by omega) hn hin (by omega) k hk
    have hleaf := leafB_brB (n := corner) (l := l) (by omega) hx hf
    have hm := HM.out
    clear HM
    rw [cntB] at hm ⊢
    generalize leafB corner l f = lf at hm hleaf ⊢
    have hstart : ∀ k, 2000 ≤ k → refB.f k (corner : Int) l sign (corner : Int) (nowL l corner f) s = if ((itS l (nowL l corner f) corner 1 : Nat) : Int) = 2 ^ corner - 1 then
        (trishawref03_cost.f (k - 1) l (nowL l corner f)).bind fun u => if (nowL l corner f).length = 0 then none else
          if s.2.2.length = 0 then some (wrap64 (s.1 + 1), wrap64 (sign * u), nowL l corner f) else
          if wrap64 (sign * u) < s.2.1 then some (wrap64 (s.1 + 1), wrap64 (sign * u), nowL l corner f) else
          if wrap64 (sign * u) = s.2.1 then (trishawref03_Less.f (k - 1) (nowL l corner f) s.2.2).bind fun b => if b = true then some (wrap64 (s.1 + 1), wrap64 (sign * u), nowL l corner f) else some (wrap64 (s.1 + 1), s.2.1, s.2.2)
          else some (wrap64 (s.1 + 1), s.2.1, s.2.2) else some s := by
      intro k hk
      obtain ⟨k, rfl⟩ : ∃ k', k = k' + 1 := ⟨k - 1, by omega⟩
      rw [refB.f, if_pos rfl, hreach k (by omega), Option.bind_some, if_pos (by omega), everyone_ref hn, Nat.add_sub_cancel]
    by_cases hB : BrB corner l f
    · have hle : lf = 1 := by
        rcases hleaf with ⟨h, _⟩ | ⟨_, h⟩
        · exact h
        · exact absurd hB h
      rw [hle] at hm ⊢
      have hlist : nowL l corner f = listB corner l f := rfl
      have hll := hB.selLen (n := corner) (by omega)
      have hne : listB corner l f ≠ [] := fun e => by unfold listB at e; rw [e] at hll; simp at hll; omega
      have hP : PreOk l (listB corner l f) (listB corner l f).length := ((full_iff (n := corner) (by omega) hn hx _).2 ⟨f, hB, rfl⟩).pre
      have hcost : ∀ k, 100 ≤ k → trishawref03_cost.f k l (listB corner l f) = some (costF corner (costW l) f) := by
        intro k hk
        have hlen' : (listB corner l f).length ≤ 30 := hlen
        have := cost_ref hx (L := listB corner l f) (by omega) hP (listB corner l f).length 0 (k - (listB corner l f).length - 1) (by omega)
        rw [show k - (listB corner l f).length - 1 + (listB corner l f).length + 1 = k from by omega, costN_list hB] at this
        unfold trishawref03_cost.f
        exact this
      have hcb := costF_low (n := corner) (l := l) (p := costW l) (by omega) hn (fun i hi => cost_low hx i hi) hB
      have hwc : wrap64 (sign * costF corner (costW l) f) = sign * costF corner (costW l) f := by
        rcases hsg with rfl | rfl <;> unfold wrap64 <;> omega
      have hwm : wrap64 (s.1 + 1) = s.1 + 1 := by unfold wrap64; omega
      refine ⟨stepF s (listB corner l f) (sign * costF corner (costW l) f), fun k hk => ?_, hI.step hB hne, stepF_many _ _ _⟩
      rw [hstart k (by omega), if_pos (hbr.2 hB), hlist, hcost _ (by omega), Option.bind_some, if_neg (by unfold listB; omega), hwc, hwm]
      unfold stepF
      by_cases h0 : s.2.2.length = 0
      · rw [if_pos h0, if_pos h0]
      rw [if_neg h0, if_neg h0]
      by_cases h2 : sign * costF corner (costW l) f < s.2.1
      · rw [if_pos h2, if_pos h2]
      rw [if_neg h2, if_neg h2]
      by_cases h3 : sign * costF corner (costW l) f = s.2.1
      · rw [if_pos h3, if_pos h3]
        obtain ⟨h, hh, e, _⟩ := hI.best (fun e => h0 (by rw [e]; rfl))
        have hbl : s.2.2.length < 1000 := by
          rw [e]; have := selL_length (useB corner (bW l) h) l.length; unfold listB; omega
        have hlen' : (listB corner l f).length ≤ 30 := hlen
        rw [less_f _ _ (by omega) hbl _ (by omega), Option.bind_some]
        by_cases h4 : lessL (listB corner l f) s.2.2 = true
        · rw [if_pos h4, if_pos h4]
        · rw [if_neg h4, if_neg h4]
      · rw [if_neg h3, if_neg h3]
    · have hle : lf = 0 := by
        rcases hleaf with ⟨_, h⟩ | ⟨h, _⟩
        · exact absurd h hB
        · exact h
      rw [hle, Int.add_zero]
      refine ⟨s, fun k hk => by rw [hstart k (by omega), if_neg (fun h => hB (hbr.1 h))], hI.congr fun g => ⟨.inl, fun h => h.resolve_right fun ⟨hg, he⟩ => hB (hg.congr he)⟩, rfl⟩
  | d + 1, corner, f, s, D, hc, h1, hf, hI, hm0, hm => by
    have HM := Aside0.mk hm
    clear hm
    have hlen : (nowL l corner f).length ≤ 30 := by have := selL_length (useB corner (bW l) f) l.length; unfold nowL; omega
    have hwc : wrap64 ((corner : Int) + 1) = ((corner + 1 : Nat) : Int) := wrap_nat corner (by omega)
    rw [cntB]
    have hnn0 : ∀ i, 0 ≤ (if bW l i = corner then cntB (leafB n l) (bW l) l.length d (corner + 1) (fun c => if c = corner then i else f c) else 0) := fun i => by
      split
      · exact cntB_nonneg (fun g => (leafB_01 (by omega) hx g).1) _ _ _ _
      · exact Int.le_refl _
    obtain ⟨G, hG⟩ : ∃ G : Nat → Int, (fun i => if bW l i = corner then cntB (leafB n l) (bW l) l.length d (corner + 1) (fun c => if c = corner then i else f c) else 0) = G := ⟨_, rfl⟩
    have hm := HM.out
    clear HM
    rw [cntB] at hm
    rw [hG] at hm ⊢
    have hGi : ∀ i, bW l i = corner → cntB (leafB n l) (bW l) l.length d (corner + 1) (fun c => if c = corner then i else f c) = G i := fun i hb => by
      have := congrFun hG i
      rwa [if_pos hb] at this
    have hG0 : ∀ i, bW l i ≠ corner → 0 = G i := fun i hb => by
      have := congrFun hG i
      rwa [if_neg hb] at this
    have hnn : ∀ i, 0 ≤ G i := fun i => by have := hnn0 i; rw [congrFun hG i] at this; exact this
    clear hnn0 hG
    have hmono : ∀ i e, sumZ G i ≤ sumZ G (i + e) := fun i e => sumZ_mono hnn i e
    have HMO := Aside0.mk hmono
    have HNN := Aside0.mk hnn
    have HM := Aside0.mk hm
    clear hmono hnn hm
    have hloop : ∀ (e i : Nat) (t : FoundS), i + e = l.length → InvF n l sign t (fun g => D g ∨ (BrB n l g ∧ extF f corner g ∧ g corner < i)) → Aside0 (t.1 = s.1 + sumZ G i) →
        ∃ s' : FoundS, (∀ k, 2000 + 100 * d + e + 1 ≤ k → refB.l0 k (n : Int) l sign (corner : Int) (nowL l corner f) t (i : Int) = some s') ∧ InvF n l sign s' (fun g => D g ∨ (BrB n l g ∧ extF f corner g)) ∧ Aside0 (s'.1 = s.1 + sumZ G l.length) := by
      intro e
      induction e with
      | zero =>
        intro i t hi hJ hj
        obtain rfl : i = l.length := by omega
        refine ⟨t, fun k hk => ?_, hJ.congr fun g => ⟨fun h => h.imp id fun h => ⟨h.1, h.2.1⟩, fun h => h.imp id fun h => ⟨h.1, h.2, (h.1.on corner (by omega) (by omega)).1⟩⟩, hj⟩
        obtain ⟨k, rfl⟩ : ∃ k', k = k' + 1 := ⟨k - 1, by omega⟩
        rw [refB.l0, if_neg (by omega)]
      | succ e ih =>
        intro i t hi hJ hj
        have hil : i < l.length := by omega
        have hw := wrap_nat i (by omega)
        have hb := (bW_eq hx i hil).1
        by_cases hbi : bW l i = corner
        · have hput := fun k hk => put_f (nowL l corner f) (i : Int) (by omega) k hk
          rw [nowL_put h1 hil hbi] at hput
          have hb1 : Aside0 (0 ≤ t.1 ∧ t.1 + G i ≤ 1000000000) := by
            have h3 := HMO.out (i + 1) e
            rw [show i + 1 + e = l.length by omega] at h3
            have h4 := HMO.out 0 i
            rw [Nat.zero_add] at h4
            exact ⟨lin_low hm0 hj.out h4, lin_high hj.out HM.out h3⟩
          obtain ⟨t', ht', hJ', hj'⟩ := refB_spec hn1 hn hl hx hsg d (corner + 1) (fun c => if c = corner then i else f c) t _ (by omega) (by omega) (fun c c0 c1 => by
            by_cases ec : c = corner
            · rw [if_pos ec]; exact ⟨by omega, hil⟩
            · rw [if_neg ec]; exact hf c c0 (by omega)) hJ hb1.out.1 (by rw [hGi i hbi]; exact hb1.out.2)
          rw [hGi i hbi] at hj'
          have HJ' := Aside0.mk (lin_next hj.out hj' : t'.1 = s.1 + sumZ G (i + 1))
          clear hj' hb1
          obtain ⟨s', hs', hK, hk⟩ := ih (i + 1) t' (by omega) (hJ'.congr fun g => by
            constructor
            · rintro ((h | ⟨a1, a2, a3⟩) | ⟨a1, a2⟩)
              · exact .inl h
              · exact .inr ⟨a1, a2, by omega⟩
              · have := a2 corner (by omega) (by omega)
                dsimp only at this
                rw [if_pos rfl] at this
                refine .inr ⟨a1, fun c c0 c1 => ?_, by omega⟩
                have := a2 c c0 (by omega)
                dsimp only at this
                rwa [if_neg (by omega)] at this
            · rintro (h | ⟨a1, a2, a3⟩)
              · exact .inl (.inl h)
              · by_cases eg : g corner < i
                · exact .inl (.inr ⟨a1, a2, eg⟩)
                · refine .inr ⟨a1, fun c c0 c1 => ?_⟩
                  by_cases ec : c = corner
                  · subst ec; dsimp only; rw [if_pos rfl]; omega
                  · dsimp only; rw [if_neg ec]; exact a2 c c0 (by omega)) HJ'
          refine ⟨s', fun k hk2 => ?_, hK, hk⟩
          obtain ⟨k, rfl⟩ : ∃ k', k = k' + 1 := ⟨k - 1, by omega⟩
          rw [refB.l0, if_pos (by omega), if_pos (by omega), if_pos (by omega), hput k (by omega), Option.bind_some, hwc, ht' k (by omega), Option.bind_some, hw]
          exact hs' k (by omega)
        · have HJ' := Aside0.mk (lin_next hj.out (show t.1 = t.1 + G i by rw [← hG0 i hbi, Int.add_zero]) : t.1 = s.1 + sumZ G (i + 1))
          obtain ⟨s', hs', hK, hk⟩ := ih (i + 1) t (by omega) (hJ.congr fun g => by
            constructor
            · exact fun h => h.imp id fun ⟨a1, a2, a3⟩ => ⟨a1, a2, by omega⟩
            · refine fun h => h.imp id fun ⟨a1, a2, a3⟩ => ⟨a1, a2, ?_⟩
              have hb2 := (a1.on corner (by omega) (by omega)).2
              have : g corner ≠ i := fun e => hbi (by rw [← e]; exact hb2)
              omega) HJ'
          refine ⟨s', fun k hk2 => ?_, hK, hk⟩
          obtain ⟨k, rfl⟩ : ∃ k', k = k' + 1 := ⟨k - 1, by omega⟩
          rw [refB.l0, if_pos (by omega), if_pos (by omega), if_neg (by omega), hw]
          exact hs' k (by omega)
    obtain ⟨s', hs', hK, hk⟩ := hloop l.length 0 s (by omega) (hI.congr fun g => ⟨.inl, fun h => h.resolve_right fun h => by omega⟩) ⟨by rw [sumZ, Int.add_zero]⟩
    refine ⟨s', fun k hk2 => ?_, hK, hk.out⟩
    obtain ⟨k, rfl⟩ : ∃ k', k = k' + 1 := ⟨k - 1, by omega⟩
    rw [refB.f, if_neg (by omega)]
    exact hs' k (by omega)
end
end Go.Proofs.Ytpmadffgdfholaa.B
namespace Go.Proofs.Ytpmadffgdfholaa.B
set_option linter.unusedVariables false
open Go.RowKit Go.Proofs.YtpmadffgdfholaaW.PrintWords Go.Proofs.YtpmadffgdfholaaW.PrintLast Go.Proofs.YtpmadffgdfholaaW.PrintMore
section
variable {n : Nat} {l : List S30}
theorem cntL_small (hn1 : 2 ≤ n) (hn : n ≤ 7) (hl : l.length ≤ 30) (hx : ∀ x ∈ l, wayOk n x = true) : (0 : Int) + cntB (leafB n l) (bW l) l.length (n - 1) 1 (fun _ => 0) ≤ 1000000000 := by
  have h1 := cntB_bound (b := bW l) (fun f => (leafB_01 (by omega) hx f).2) l.length (n - 1) 1 (fun _ => 0)
  rw [Int.zero_add]
  refine Int.le_trans h1 ?_
  have h5 : l.length ^ (n - 1) ≤ 30 ^ 6 := Nat.le_trans (Nat.pow_le_pow_left hl (n - 1)) (Nat.pow_le_pow_right (by decide) (by omega))
  have h6 : ((l.length : Int) ^ (n - 1)) = ((l.length ^ (n - 1) : Nat) : Int) := by norm_cast
  rw [h6]
  generalize l.length ^ (n - 1) = y at h5
  omega
theorem search_all (hr : readB (n : Int) l = 0) {sign : Int} (hsg : sign = 1 ∨ sign = -1) : ∃ s : FoundS, (∀ k, 3000 ≤ k → refB.f k (n : Int) l sign 1 [] (0, 0, []) = some s) ∧ InvF n l sign s (BrB n l) ∧ s.1 = cntL n l := by
  obtain ⟨h2, h7, h30, hx⟩ := readB_ok hr
  have hn1 : 2 ≤ n := by omega
  have hn : n ≤ 7 := by omega
  have hempty : nowL l 1 (fun _ => 0) = [] := by
    have : nowL l 1 (fun _ => 0) = selL (fun _ => false) l.length := selL_congr _ fun j _ => by
      refine Bool.eq_false_iff.mpr fun h => ?_
      have := useB_iff.1 h
      omega
    rw [this]
    unfold selL
    rw [List.filter_eq_nil_iff.2 fun _ _ => by decide]; rfl
  obtain ⟨s, h1, h3, h4⟩ := refB_spec hn1 hn h30 hx hsg (n - 1) 1 (fun _ => 0) (0, 0, []) (fun _ => False) (by omega) (by omega) (fun c c0 c1 => by omega)
    ⟨fun _ _ h => h, fun h => absurd rfl h, fun h => absurd rfl h⟩ (Int.le_refl _) (cntL_small hn1 hn h30 hx)
  rw [hempty] at h1
  refine ⟨s, fun k hk => h1 k (by omega), h3.congr fun g => ⟨fun h => h.elim False.elim (fun h => h.1), fun h => .inr ⟨h, fun c c0 c1 => by omega⟩⟩, ?_⟩
  rw [h4, Int.zero_add]
  rfl
theorem branching_ref (hr : readB (n : Int) l = 0) : ∀ k, 4000 ≤ k → trishawref03_Branching.f k (n : Int) l = branch_Branching.f k (n : Int) l := by
  obtain ⟨s, h1, h3, h4⟩ := search_all hr (sign := 1) (.inl rfl)
  obtain ⟨h2, h7, h30, hx⟩ := readB_ok hr
  have hpos := cntL_pos (n := n) (l := l) (by omega) hx
  have hstart : ∀ k, 4000 ≤ k → trishawref03_Branching.f k (n : Int) l = if s.1 = 0 then some ([], 0, 10) else some (s.2.2, wrap64 (1 * s.2.1), 0) := by
    intro k hk
    unfold trishawref03_Branching.f trishawref03_search.f
    rw [town_eq _ _ k (.inr (by omega)), hr, Option.bind_some, if_pos rfl, h1 k (by omega), Option.bind_some]
    by_cases e : s.1 = 0
    · rw [if_pos e]; rfl
    · rw [if_neg e]; rfl
  have h0 : (s.1 = 0) ↔ ¬ ∃ f, BrB n l f := by
    rw [← hpos, h4]
    have := (count_spec hr).1
    generalize cntL n l = C at this
    omega
  intro k hk
  rw [hstart k hk]
  rcases branching_spec hr with ⟨f, v, hfb, hkk⟩ | ⟨hno, hkk⟩
  · have hs : ¬ s.1 = 0 := fun h => h0.1 h ⟨f, hfb.is⟩
    have hnn : s.2.2 ≠ [] := fun e => h3.nil e f hfb.is
    obtain ⟨g, hg, e1, e2⟩ := h3.best hnn
    have a1 := h3.low hnn f hfb.is
    have a2 := hfb.least g hg
    have a3 := hfb.cost
    rw [Int.one_mul] at e2 a1
    have ev : s.2.1 = v := by omega
    have eL : listB n l f = s.2.2 := lessL_total _ _ (a1.2 (by omega)) (e1 ▸ hfb.not_less (by omega) hg (by omega))
    have hb := costF_low (n := n) (l := l) (p := costW l) (by omega) (by omega) (fun i hi => cost_low hx i hi) hfb.is
    rw [if_neg hs, hkk k (by omega), ← eL, Int.one_mul, ev, show wrap64 v = v by unfold wrap64; omega]
  · rw [if_pos (h0.2 fun ⟨f, hf⟩ => hno f hf), hkk k (by omega)]
theorem search_refused {n : Int} (hr : readB n l ≠ 0) (k : Nat) (hk : 62 ≤ k) : trishawref03_Branching.f k n l = some ([], 0, readB n l) ∧ trishawref03_Dear.f k n l = some ([], 0, readB n l) ∧ trishawref03_Count.f k n l = some (0, readB n l) ∧ branch_Count.f k n l = some (0, readB n l) := by
  have ht := town_eq n l k (.inr hk)
  refine ⟨?_, ?_, ?_, ?_⟩
  · unfold trishawref03_Branching.f trishawref03_search.f; rw [ht, Option.bind_some, if_neg hr]; rfl
  · unfold trishawref03_Dear.f trishawref03_search.f; rw [ht, Option.bind_some, if_neg hr]; rfl
  · unfold trishawref03_Count.f; rw [ht, Option.bind_some, if_neg hr]
  · unfold branch_Count.f branch_read.f; rw [Option.bind_some, if_neg hr]
end
end Go.Proofs.Ytpmadffgdfholaa.B
namespace Go.Proofs.Ytpmadffgdfholaa.B
set_option linter.unusedVariables false
open Go.RowKit Go.Proofs.YtpmadffgdfholaaW.PrintWords Go.Proofs.YtpmadffgdfholaaW.PrintLast Go.Proofs.YtpmadffgdfholaaW.PrintMore
theorem light_l1 (n : Int) (l : List S30) (hl : l.length < 1000) (x5 b : Int) : ∀ (d i : Nat) (x7 : Int), i + d = l.length → ∃ y : Int, ∀ k, trishawlaw03_light.l1 (k + d + 1) n l x5 b x7 (i : Int) = trishawlaw03_light.l0 k n l (wrap64 (x5 * (mx 1 y))) (wrap64 (b + 1))
  | 0, i, x7, h => ⟨x7, fun k => by rw [show k + 0 + 1 = k + 1 from rfl, trishawlaw03_light.l1, if_neg (by omega)]⟩
  | d + 1, i, x7, h => by
    have hw := wrap_nat i (by omega)
    by_cases e : (rd_T30 l (i : Int)).f1 = b
    · obtain ⟨y, hy⟩ := light_l1 n l hl x5 b d (i + 1) (wrap64 (x7 + 1)) (by omega)
      refine ⟨y, fun k => ?_⟩
      rw [show k + (d + 1) + 1 = (k + d + 1) + 1 from by omega, trishawlaw03_light.l1, if_pos (by omega), if_pos (by omega), if_pos e, hw]
      exact hy k
    · obtain ⟨y, hy⟩ := light_l1 n l hl x5 b d (i + 1) x7 (by omega)
      refine ⟨y, fun k => ?_⟩
      rw [show k + (d + 1) + 1 = (k + d + 1) + 1 from by omega, trishawlaw03_light.l1, if_pos (by omega), if_pos (by omega), if_neg e, hw]
      exact hy k
theorem light_l0 (n : Nat) (hn : n ≤ 7) (l : List S30) (hl : l.length < 1000) : ∀ (d b : Nat) (x5 : Int), b + d = n → ∃ r : Bool, ∀ k, trishawlaw03_light.l0 (k + (l.length + 2) * d + 1) (n : Int) l x5 (b : Int) = some r
  | 0, b, x5, h => ⟨decide (x5 ≤ 4000), fun k => by rw [Nat.mul_zero, Nat.add_zero, trishawlaw03_light.l0, if_neg (by omega)]⟩
  | d + 1, b, x5, h => by
    have hw := wrap_nat b (by omega)
    obtain ⟨y, hy⟩ := light_l1 (n : Int) l hl x5 (b : Int) l.length 0 0 (by omega)
    obtain ⟨r, hr⟩ := light_l0 n hn l hl d (b + 1) (wrap64 (x5 * (mx 1 y))) (by omega)
    refine ⟨r, fun k => ?_⟩
    rw [show k + (l.length + 2) * (d + 1) + 1 = (k + (l.length + 2) * d + 1 + l.length + 1) + 1 from by rw [Nat.mul_succ]; omega, trishawlaw03_light.l0, if_pos (by omega)]
    have h1 := hy (k + (l.length + 2) * d + 1)
    rw [hw] at h1
    exact h1.trans (hr k)
theorem light_f (n : Int) (l : List S30) (hl : l.length < 1000) : ∃ r : Bool, ∀ k, 10000 ≤ k → trishawlaw03_light.f k n l = some r := by
  by_cases hr : readB n l = 0
  · obtain ⟨h2, h7, h30, hx⟩ := readB_ok hr
    obtain ⟨n, rfl⟩ := Int.eq_ofNat_of_zero_le (show 0 ≤ n by omega)
    obtain ⟨r, h⟩ := light_l0 n (by omega) l (by omega) (n - 1) 1 1 (by omega)
    have hb : (l.length + 2) * (n - 1) ≤ 32 * 6 := Nat.mul_le_mul (by omega) (by omega)
    refine ⟨r, fun k hk => ?_⟩
    have := h (k - (l.length + 2) * (n - 1) - 1)
    rw [show k - (l.length + 2) * (n - 1) - 1 + (l.length + 2) * (n - 1) + 1 = k from by omega] at this
    unfold trishawlaw03_light.f
    rw [town_eq _ _ k (.inr (by omega)), hr, Option.bind_some, if_pos rfl]
    exact this
  · refine ⟨true, fun k hk => ?_⟩
    unfold trishawlaw03_light.f
    rw [town_eq _ _ k (.inr (by omega)), Option.bind_some, if_neg hr]
end Go.Proofs.Ytpmadffgdfholaa.B
namespace Go.Proofs.Ytpmadffgdfholaa.B
set_option linter.unusedVariables false
open Go.RowKit Go.Proofs.YtpmadffgdfholaaW.PrintWords Go.Proofs.YtpmadffgdfholaaW.PrintLast Go.Proofs.YtpmadffgdfholaaW.PrintMore
section
variable {n : Nat} {l : List S30}
theorem fin_odd : ∀ s : Fin 128, (Int.tmod ((s.val : Nat) : Int) 2 == 0) = !s.val.testBit 0 := by decide +kernel
theorem setN_f (hn : n ≤ 7) (s : Int) : ∃ b, trishawref03_IsSet.f (n : Int) s = some b ∧ branch_town_isSet.f (n : Int) l s = some b ∧ (b = true ↔ IsSetN n s) := by
  obtain ⟨e, b, h1, h2⟩ := isSet_eq hn l s
  refine ⟨b, h1, e.trans h1, ?_⟩
  have e1 := fin_shl ⟨n, by omega⟩
  simp only [] at e1
  have hp : 2 ^ n ≤ 2 ^ 7 := Nat.pow_le_pow_right (by decide) hn
  have hz : ((2 : Int) ^ n) = ((2 ^ n : Nat) : Int) := by norm_cast
  unfold trishawref03_IsSet.f at h1
  unfold IsSetN
  rw [e1] at h1
  rw [hz]
  generalize 2 ^ n = p at hp h1
  by_cases h0 : s > 0
  · rw [if_pos h0, if_pos (by omega)] at h1
    by_cases h3 : s < (p : Int)
    · rw [if_pos h3] at h1
      have := fin_odd ⟨s.toNat, by omega⟩
      simp only [← int_nat (show 0 ≤ s by omega)] at this
      rw [this] at h1
      obtain rfl := Option.some.inj h1
      rw [Bool.not_eq_true']
      exact ⟨fun h => ⟨h0, h3, h⟩, fun h => h.2.2⟩
    · rw [if_neg h3] at h1
      obtain rfl := Option.some.inj h1
      exact ⟨fun h => absurd h (by decide), fun h => absurd h.2.1 h3⟩
  · rw [if_neg h0] at h1
    obtain rfl := Option.some.inj h1
    exact ⟨fun h => absurd h (by decide), fun h => absurd h.1 h0⟩
theorem worthAt_nonneg (l : List S30) (i : Nat) : ∀ ps : List S41, (∀ p ∈ ps, 1 ≤ p.f1) → 0 ≤ worthAt l i ps
  | [], _ => Int.le_refl _
  | p :: ps, h => by
    have := worthAt_nonneg l i ps (fun q hq => h q (List.mem_cons_of_mem _ hq))
    have := h p List.mem_cons_self
    simp only [worthAt]
    split <;> omega
end
end Go.Proofs.Ytpmadffgdfholaa.B
namespace Go.Proofs.Ytpmadffgdfholaa.B
set_option linter.unusedVariables false
open Go.RowKit Go.Proofs.YtpmadffgdfholaaW.PrintWords Go.Proofs.YtpmadffgdfholaaW.PrintLast Go.Proofs.YtpmadffgdfholaaW.PrintMore
section
variable {n : Nat} {l : List S30}
theorem rd_T41_mem (ps : List S41) (i : Nat) (h : i < ps.length) : rd_T41 ps (i : Int) ∈ ps := by
  simp [rd_T41, List.getD, List.getElem?_eq_getElem h]
def OkPr (n : Nat) (p : S41) : Prop := IsSetN n p.f0 ∧ 1 ≤ p.f1 ∧ p.f1 ≤ 1000
theorem rp_l3 (ps : List S41) (hl : ps.length ≤ 60) (hp : ∀ p ∈ ps, OkPr n p) : ∀ (d q k : Nat) (acc : Int), q + d = ps.length → 0 ≤ acc → acc ≤ 1000 * q → trishawref03_Proves.l3 (k + d + 1) ps acc (q : Int) = some (acc + worthAll (ps.drop q), true, 0)
  | 0, q, k, acc, h, _, _ => by
    rw [show k + 0 + 1 = k + 1 from rfl, trishawref03_Proves.l3, if_neg (by omega), List.drop_eq_nil_of_le (by omega)]
    simp [worthAll]
  | d + 1, q, k, acc, h, h0, h1 => by
    have hq : q < ps.length := by omega
    have hw := wrap_nat q (by omega)
    have ho := hp _ (rd_T41_mem ps q hq)
    have ih := rp_l3 ps hl hp d (q + 1) k (acc + (rd_T41 ps (q : Int)).f1) (by omega) (by have := ho.2; omega) (by have := ho.2; omega)
    rw [show k + (d + 1) + 1 = (k + d + 1) + 1 from by omega, trishawref03_Proves.l3, if_pos (by omega), if_pos (by omega), hw]
    rw [show wrap64 (acc + (rd_T41 ps (q : Int)).f1) = acc + (rd_T41 ps (q : Int)).f1 from by have := ho.2; unfold wrap64; omega, ih, drop_rd41 ps q hq]
    simp only [worthAll]
    rw [show acc + (rd_T41 ps (q : Int)).f1 + worthAll (ps.drop (q + 1)) = acc + (worthAll (ps.drop (q + 1)) + (rd_T41 ps (q : Int)).f1) by omega]
theorem enters_f (hn : n ≤ 7) {x : S30} (hx : wayOk n x = true) {s : Int} (hs : IsSetN n s) : trishawref03_Enters.f x.f0 x.f1 x.f2 s = some (!s.toNat.testBit x.f0.toNat && s.toNat.testBit x.f1.toNat) := by
  obtain ⟨h1, h2, h3, h4, _⟩ := (wayOk_iff n x).1 hx
  have hp7 : (2 : Int) ^ n ≤ 128 := by
    have : 2 ^ n ≤ 2 ^ 7 := Nat.pow_le_pow_right (by decide) hn
    have hz : ((2 : Int) ^ n) = ((2 ^ n : Nat) : Int) := by norm_cast
    rw [hz]; omega
  obtain ⟨q, rfl⟩ := Int.eq_ofNat_of_zero_le (show 0 ≤ s by have := hs.1; omega)
  have hq : q < 128 := by have := hs.2.1; omega
  have f1 := fin_mod ⟨q, hq⟩ ⟨x.f0.toNat, by omega⟩
  have f2 := fin_mod ⟨q, hq⟩ ⟨x.f1.toNat, by omega⟩
  simp only [← int_nat h1, ← int_nat h3] at f1 f2
  unfold trishawref03_Enters.f
  rw [if_pos h1, f1, f2, if_pos h3, Int.toNat_natCast]
  cases q.testBit x.f0.toNat <;> cases q.testBit x.f1.toNat <;> rfl
theorem rp_l2 (hn : n ≤ 7) (hx : ∀ x ∈ l, wayOk n x = true) (ps : List S41) (hl : ps.length ≤ 60) (hp : ∀ p ∈ ps, OkPr n p) (i : Nat) (hi : i < l.length) : ∀ (d q k : Nat) (left : Int), q + d = ps.length → 0 ≤ left → left ≤ 1000 →
    (worthAt l i (ps.drop q) ≤ left → trishawref03_Proves.l2 (k + d + 1) l ps (i : Int) left (q : Int) = trishawref03_Proves.l1 k l ps (wrap64 ((i : Int) + 1))) ∧
    (¬ worthAt l i (ps.drop q) ≤ left → trishawref03_Proves.l2 (k + d + 1) l ps (i : Int) left (q : Int) = some (0, false, 0))
  | 0, q, k, left, h, h0, _ => by
    rw [show k + 0 + 1 = k + 1 from rfl, trishawref03_Proves.l2, if_neg (by omega), List.drop_eq_nil_of_le (by omega)]
    exact ⟨fun _ => rfl, fun hh => absurd h0 hh⟩
  | d + 1, q, k, left, h, h0, h1 => by
    have hq : q < ps.length := by omega
    have hw := wrap_nat q (by omega)
    have ho := hp _ (rd_T41_mem ps q hq)
    have hen := enters_f hn (hx _ (rd_T30_mem l i hi)) ho.1
    have hnn := worthAt_nonneg l i (ps.drop (q + 1)) (fun p hp' => (hp p (List.mem_of_mem_drop hp')).2.1)
    have he : (!(rd_T41 ps (q : Int)).f0.toNat.testBit (rd_T30 l (i : Int)).f0.toNat && (rd_T41 ps (q : Int)).f0.toNat.testBit (rd_T30 l (i : Int)).f1.toNat) = entB l (rd_T41 ps (q : Int)).f0.toNat i := rfl
    rw [he] at hen
    rw [show k + (d + 1) + 1 = (k + d + 1) + 1 from by omega, trishawref03_Proves.l2, if_pos (by omega), if_pos (by omega), if_pos (by omega), if_pos (by omega), hen, Option.bind_some, drop_rd41 ps q hq, hw]
    simp only [worthAt]
    by_cases hb : entB l (rd_T41 ps (q : Int)).f0.toNat i = true
    · rw [if_pos hb, if_pos hb]
      by_cases hgt : (rd_T41 ps (q : Int)).f1 > left
      · rw [if_pos hgt]
        exact ⟨fun hh => by omega, fun _ => rfl⟩
      · rw [if_neg hgt, show wrap64 (left - (rd_T41 ps (q : Int)).f1) = left - (rd_T41 ps (q : Int)).f1 from by have := ho.2; unfold wrap64; omega]
        obtain ⟨a, b⟩ := rp_l2 hn hx ps hl hp i hi d (q + 1) k (left - (rd_T41 ps (q : Int)).f1) (by omega) (by omega) (by have := ho.2; omega)
        exact ⟨fun hh => a (by omega), fun hh => b (by omega)⟩
    · rw [if_neg hb, if_neg hb]
      obtain ⟨a, b⟩ := rp_l2 hn hx ps hl hp i hi d (q + 1) k left (by omega) h0 h1
      exact ⟨fun hh => a (by omega), fun hh => b (by omega)⟩
theorem rp_l1 (hn : n ≤ 7) (hx : ∀ x ∈ l, wayOk n x = true) (hll : l.length ≤ 30) (ps : List S41) (hl : ps.length ≤ 60) (hp : ∀ p ∈ ps, OkPr n p) : ∀ (d i k : Nat), i + d = l.length →
    ((∀ j, i ≤ j → j < l.length → worthAt l j ps ≤ costW l j) → trishawref03_Proves.l1 (k + (ps.length + 2) * d + 1) l ps (i : Int) = trishawref03_Proves.l3 k ps 0 0) ∧
    (¬ (∀ j, i ≤ j → j < l.length → worthAt l j ps ≤ costW l j) → trishawref03_Proves.l1 (k + (ps.length + 2) * d + 1) l ps (i : Int) = some (0, false, 0))
  | 0, i, k, h => by
    rw [show k + (ps.length + 2) * 0 + 1 = k + 1 from by omega, trishawref03_Proves.l1, if_neg (by omega)]
    exact ⟨fun _ => rfl, fun hh => absurd (fun j hj hj2 => by omega) hh⟩
  | d + 1, i, k, h => by
    have hi : i < l.length := by omega
    have hw := wrap_nat i (by omega)
    have hc := cost_low hx i hi
    obtain ⟨ih1, ih2⟩ := rp_l1 hn hx hll ps hl hp d (i + 1) k (by omega)
    obtain ⟨a, b⟩ := rp_l2 hn hx ps hl hp i hi ps.length 0 (k + (ps.length + 2) * d + 1) (costW l i) (by omega) hc.1 hc.2
    rw [List.drop_zero, hw] at a
    rw [List.drop_zero] at b
    rw [show k + (ps.length + 2) * (d + 1) + 1 = (k + (ps.length + 2) * d + 1 + ps.length + 1) + 1 from by rw [Nat.mul_succ]; omega, trishawref03_Proves.l1, if_pos (by omega), if_pos (by omega)]
    show (_ → trishawref03_Proves.l2 _ l ps (i : Int) (costW l i) ((0 : Nat) : Int) = _) ∧ (_ → trishawref03_Proves.l2 _ l ps (i : Int) (costW l i) ((0 : Nat) : Int) = _)
    by_cases hle : worthAt l i ps ≤ costW l i
    · rw [a hle]
      refine ⟨fun hh => ih1 fun j hj hj2 => hh j (by omega) hj2, fun hh => ih2 fun h2 => hh fun j hj hj2 => ?_⟩
      by_cases e : j = i
      · subst e; exact hle
      · exact h2 j (by omega) hj2
    · rw [b hle]
      exact ⟨fun hh => absurd (hh i (Nat.le_refl _) hi) hle, fun _ => rfl⟩
/-- The sets from q on are right, and new. -/
structure SetsOk (n : Nat) (ps : List S41) (met : Int → Prop) : Prop where
  ok : ∀ p ∈ ps, OkPr n p ∧ ¬ met p.f0
  apart : (ps.map fun p => p.f0).Nodup
theorem rp_l0 (hn : n ≤ 7) (ps : List S41) (hl : ps.length ≤ 60) : ∀ (d q k : Nat) (mt : List Bool), q + d = ps.length → mt.length = 2 ^ n →
    (SetsOk n (ps.drop q) (fun s => rdOf false mt s = true) → trishawref03_Proves.l0 (k + 2 * d + 1) (n : Int) l ps mt (q : Int) = trishawref03_Proves.l1 k l ps 0) ∧
    (¬ SetsOk n (ps.drop q) (fun s => rdOf false mt s = true) → trishawref03_Proves.l0 (k + 2 * d + 1) (n : Int) l ps mt (q : Int) = some (0, false, 0))
  | 0, q, k, mt, h, hm => by
    rw [show k + 2 * 0 + 1 = k + 1 from rfl, trishawref03_Proves.l0, if_neg (by omega), List.drop_eq_nil_of_le (by omega)]
    exact ⟨fun _ => rfl, fun hh => absurd ⟨fun p hp => absurd hp (by simp), by simp⟩ hh⟩
  | d + 1, q, k, mt, h, hm => by
    have hq : q < ps.length := by omega
    have hw := wrap_nat q (by omega)
    obtain ⟨b, hb, _, hbi⟩ := setN_f (l := l) hn (rd_T41 ps (q : Int)).f0
    have hz : ((2 : Int) ^ n) = ((2 ^ n : Nat) : Int) := by norm_cast
    rw [show k + 2 * (d + 1) + 1 = (k + 2 * d + 1) + 1 + 1 from by omega, trishawref03_Proves.l0, if_pos (by omega), if_pos (by omega), hb, Option.bind_some, drop_rd41 ps q hq]
    have hbad : ∀ mt', trishawref03_Proves.j1 (k + 2 * d + 1 + 1) (n : Int) l ps mt' (q : Int) true = some (0, false, 0) := fun mt' => by rw [trishawref03_Proves.j1, if_pos rfl]
    cases b with
    | false =>
      rw [if_neg (by decide), hbad]
      refine ⟨fun hS => ?_, fun _ => rfl⟩
      have := hbi.2 (hS.ok _ List.mem_cons_self).1.1
      exact absurd this (by decide)
    | true =>
      have hset := hbi.1 rfl
      have hs0 := hset.1
      have hs1 := hset.2.1
      rw [if_pos rfl, if_pos (by omega), if_pos (by rw [hm]; omega)]
      by_cases hmet : rdOf false mt (rd_T41 ps (q : Int)).f0 = true
      · rw [if_pos hmet, hbad]
        exact ⟨fun hS => absurd hmet (hS.ok _ List.mem_cons_self).2, fun _ => rfl⟩
      · rw [if_neg hmet]
        by_cases hw1 : (rd_T41 ps (q : Int)).f1 < 1
        · rw [if_pos hw1, hbad]
          exact ⟨fun hS => by have := (hS.ok _ List.mem_cons_self).1.2.1; omega, fun _ => rfl⟩
        · rw [if_neg hw1]
          by_cases hw2 : (rd_T41 ps (q : Int)).f1 > 1000
          · rw [decide_eq_true hw2, hbad]
            exact ⟨fun hS => by have := (hS.ok _ List.mem_cons_self).1.2.2; omega, fun _ => rfl⟩
          · rw [decide_eq_false hw2, trishawref03_Proves.j1, if_neg (by decide), if_pos (by omega), if_pos (by omega), if_pos (by omega), if_pos (by rw [hm]; omega), hw]
            obtain ⟨a, c⟩ := rp_l0 hn ps hl d (q + 1) k (mt.set (rd_T41 ps (q : Int)).f0.toNat true) (by omega) (by rw [List.length_set]; exact hm)
            obtain ⟨s, hs⟩ := Int.eq_ofNat_of_zero_le (show 0 ≤ (rd_T41 ps (q : Int)).f0 by omega)
            have hrd : ∀ t : Nat, rdOf false (mt.set s true) (t : Int) = true ↔ t = s ∨ rdOf false mt (t : Int) = true := by
              intro t
              have hsl : s < mt.length := by rw [hm]; omega
              simp only [rdOf, Int.toNat_natCast, List.getD, List.getElem?_set]
              by_cases e : s = t
              · subst e; simp [hsl]
              · rw [if_neg e]
                exact ⟨.inr, fun hh => hh.resolve_left fun h2 => e h2.symm⟩
            have hiff : SetsOk n (rd_T41 ps (q : Int) :: ps.drop (q + 1)) (fun s => rdOf false mt s = true) ↔ SetsOk n (ps.drop (q + 1)) (fun s_1 => rdOf false (mt.set (rd_T41 ps (q : Int)).f0.toNat true) s_1 = true) := by
              rw [hs, Int.toNat_natCast]
              constructor
              · intro hS
                have hd := hS.apart
                rw [List.map_cons, List.nodup_cons] at hd
                refine ⟨fun p hp => ?_, hd.2⟩
                obtain ⟨o1, o2⟩ := hS.ok p (List.mem_cons_of_mem _ hp)
                refine ⟨o1, fun hh => ?_⟩
                obtain ⟨t, ht⟩ := Int.eq_ofNat_of_zero_le (show 0 ≤ p.f0 by have := o1.1.1; omega)
                rw [ht] at hh o2
                rcases (hrd t).1 hh with e | e
                · exact hd.1 (List.mem_map.2 ⟨p, hp, by omega⟩)
                · exact o2 e
              · intro hS
                refine ⟨fun p hp => ?_, ?_⟩
                · rcases List.mem_cons.1 hp with rfl | hp
                  · exact ⟨⟨hset, by omega, by omega⟩, hmet⟩
                  · obtain ⟨o1, o2⟩ := hS.ok p hp
                    refine ⟨o1, fun hh => o2 ?_⟩
                    obtain ⟨t, ht⟩ := Int.eq_ofNat_of_zero_le (show 0 ≤ p.f0 by have := o1.1.1; omega)
                    rw [ht] at hh ⊢
                    exact (hrd t).2 (.inr hh)
                · rw [List.map_cons, List.nodup_cons]
                  refine ⟨fun hm2 => ?_, hS.apart⟩
                  obtain ⟨p, hp, e⟩ := List.mem_map.1 hm2
                  refine (hS.ok p hp).2 ?_
                  have e2 : p.f0 = (s : Int) := e.trans hs
                  show rdOf false (mt.set s true) p.f0 = true
                  rw [e2]
                  exact (hrd s).2 (.inl rfl)
            exact ⟨fun hS => a (hiff.1 hS), fun hS => c fun h2 => hS (hiff.2 h2)⟩
/-- Proves of the reference. -/
theorem proves_ref (hr : readB (n : Int) l = 0) (ps : List S41) (hps : ps.length ≤ 60) :
    (ProofOk n l (fun i => i < l.length) (costL l) ps (worthAll ps) → ∀ k, 3000 ≤ k → trishawref03_Proves.f k (n : Int) l ps = some (worthAll ps, true, 0)) ∧
    (¬ ProofOk n l (fun i => i < l.length) (costL l) ps (worthAll ps) → ∀ k, 3000 ≤ k → trishawref03_Proves.f k (n : Int) l ps = some (0, false, 0)) := by
  obtain ⟨h2, h7, h30, hx⟩ := readB_ok hr
  have hn : n ≤ 7 := by omega
  have e1 := fin_shl ⟨n, by omega⟩
  simp only [] at e1
  have hp7 : 2 ^ n ≤ 2 ^ 7 := Nat.pow_le_pow_right (by decide) hn
  have hm : (List.replicate (2 ^ n) false).length = 2 ^ n := by simp
  have hmet : ∀ s : Int, ¬ rdOf false (List.replicate (2 ^ n) false) s = true := by
    intro s
    unfold rdOf
    rw [List.getD_eq_getElem?_getD, List.getElem?_replicate]
    split <;> simp
  have hstep : ∀ k, 3000 ≤ k → trishawref03_Proves.f k (n : Int) l ps = trishawref03_Proves.l0 k (n : Int) l ps (List.replicate (2 ^ n) false) 0 := by
    intro k hk
    unfold trishawref03_Proves.f
    rw [town_eq _ _ k (.inr (by omega)), hr, Option.bind_some, if_pos rfl, e1, if_pos (by omega), if_pos (by omega), Int.toNat_natCast, if_pos (by omega)]
  have h0 := fun k => rp_l0 (l := l) hn ps hps ps.length 0 k (List.replicate (2 ^ n) false) (by omega) hm
  rw [List.drop_zero] at h0
  by_cases hS : SetsOk n ps (fun s => rdOf false (List.replicate (2 ^ n) false) s = true)
  · have hp : ∀ p ∈ ps, OkPr n p := fun p hp => (hS.ok p hp).1
    have h1 := fun k => rp_l1 hn hx h30 ps hps hp l.length 0 k (by omega)
    have hb : (ps.length + 2) * l.length ≤ 62 * 30 := Nat.mul_le_mul (by omega) h30
    have hgo : ∀ k, 3000 ≤ k → trishawref03_Proves.f k (n : Int) l ps = trishawref03_Proves.l1 (k - 2 * ps.length - 1) l ps 0 := by
      intro k hk
      have := (h0 (k - 2 * ps.length - 1)).1 hS
      rw [show k - 2 * ps.length - 1 + 2 * ps.length + 1 = k from by omega] at this
      rw [hstep k hk]
      exact this
    by_cases hA : ∀ j, 0 ≤ j → j < l.length → worthAt l j ps ≤ costW l j
    · have hP : ProofOk n l (fun i => i < l.length) (costL l) ps (worthAll ps) := ⟨hp, hS.apart, rfl, fun i hi => by rw [costL_rd l i hi]; exact hA i (by omega) hi⟩
      refine ⟨fun _ k hk => ?_, fun h => absurd hP h⟩
      have := (h1 (k - 2 * ps.length - 1 - (ps.length + 2) * l.length - 1)).1 hA
      rw [show k - 2 * ps.length - 1 - (ps.length + 2) * l.length - 1 + (ps.length + 2) * l.length + 1 = k - 2 * ps.length - 1 from by omega] at this
      have h3 := rp_l3 ps hps hp ps.length 0 (k - 2 * ps.length - 1 - (ps.length + 2) * l.length - 1 - ps.length - 1) 0 (by omega) (by omega) (by omega)
      rw [show k - 2 * ps.length - 1 - (ps.length + 2) * l.length - 1 - ps.length - 1 + ps.length + 1 = k - 2 * ps.length - 1 - (ps.length + 2) * l.length - 1 from by omega, List.drop_zero, Int.zero_add] at h3
      rw [hgo k hk]
      exact this.trans h3
    · refine ⟨fun hP => absurd (fun j _ hj => by have := hP.below j hj; rwa [costL_rd l j hj] at this) hA, fun _ k hk => ?_⟩
      have := (h1 (k - 2 * ps.length - 1 - (ps.length + 2) * l.length - 1)).2 hA
      rw [show k - 2 * ps.length - 1 - (ps.length + 2) * l.length - 1 + (ps.length + 2) * l.length + 1 = k - 2 * ps.length - 1 from by omega] at this
      rw [hgo k hk]
      exact this
  · refine ⟨fun hP => absurd ⟨fun p hp => ⟨hP.sets p hp, hmet _⟩, hP.apart⟩ hS, fun _ k hk => ?_⟩
    have := (h0 (k - 2 * ps.length - 1)).2 hS
    rw [show k - 2 * ps.length - 1 + 2 * ps.length + 1 = k from by omega] at this
    rw [hstep k hk]
    exact this
end
end Go.Proofs.Ytpmadffgdfholaa.B
namespace Go.Proofs.Ytpmadffgdfholaa.Pure
set_option linter.unusedVariables false
open Go.RowKit Go.Proofs.Ytpmadffgdfholaa.B Go.Proofs.YtpmadffgdfholaaW.PrintWords Go.Proofs.YtpmadffgdfholaaW.PrintLast Go.Proofs.YtpmadffgdfholaaW.PrintMore
theorem proofs_loop (n : Int) (l : List S30) (P : List S41) (hP : P.length ≤ 60) (e c : Int) (k : Nat) : ∀ (d i : Nat), i + d = P.length →
    trishawlaw03_BranchProofs.l0 (k + d + 1) n l P e P c (i : Int) = if e = 0 then ((trishawref03_Proves.f k n l P).bind fun bt119 => (if bt119.2.1 = true then (if bt119.1 = c then ((trishawlaw03_alive.f k).bind fun t122 => (some t122)) else (some false)) else (some false))) else (if (P.length : Int) = 0 then ((trishawlaw03_alive.f k).bind fun t123 => (some t123)) else (some false))
  | 0, i, h => by rw [show k + 0 + 1 = k + 1 from rfl, trishawlaw03_BranchProofs.l0, if_neg (by omega)]
  | d + 1, i, h => by
    have hw := wrap_nat i (by omega)
    rw [show k + (d + 1) + 1 = (k + d + 1) + 1 from by omega, trishawlaw03_BranchProofs.l0, if_pos (by omega), if_pos (by omega), if_pos (by omega), if_neg (by simp), hw]
    exact proofs_loop n l P hP e c k d (i + 1) (by omega)
theorem BranchProofs : trishawlaw03_BranchProofs.Pure := by
  intro a0 l1 _ _ _
  have al := fun k hk => alive_from k hk
  have hj : ∀ q, 100 ≤ q → trishawlaw03_BranchProofs.j0 (q + 1) a0 l1 true = some true := fun q hq => by
    rw [trishawlaw03_BranchProofs.j0, if_pos rfl, al _ (by omega)]; rfl
  by_cases hf : (l1.length : Int) ≤ 60
  case neg =>
    refine ⟨200 + 1, ?_⟩
    unfold trishawlaw03_BranchProofs.f trishawlaw03_few.f
    rw [if_neg hf, Option.bind_some, if_neg (by decide)]; exact hj 200 (by omega)
  have hfew : trishawlaw03_few.f l1 [] = some true := by unfold trishawlaw03_few.f; rw [if_pos hf]; rfl
  obtain ⟨b, hb⟩ := light_f a0 l1 (by omega)
  -- what the calls answer
  have h3 : ∃ (P : List S41) (e : Int) (L : List Int) (c : Int), P.length ≤ 60 ∧ (∀ k, 4000 ≤ k → branch_Proof.f k a0 l1 = some (P, e)) ∧ (∀ k, 4000 ≤ k → trishawref03_Branching.f k a0 l1 = some (L, c, e)) ∧ ((e = 0 ∧ ∀ k, 3000 ≤ k → trishawref03_Proves.f k a0 l1 P = some (c, true, 0)) ∨ (e ≠ 0 ∧ P = [])) := by
    by_cases hr : readB a0 l1 = 0
    · obtain ⟨h2, h7, h30, hx⟩ := readB_ok hr
      obtain ⟨n, rfl⟩ := Int.eq_ofNat_of_zero_le (show 0 ≤ a0 by omega)
      rcases branching_spec hr with ⟨f, v, hfb, hk⟩ | ⟨hno, hk⟩
      · rcases proof_spec hr with ⟨P, v', hopt, hPok, hPl, hk2⟩ | ⟨hno, _⟩
        · have hv : v' = v := hopt.unique ⟨⟨f, hfb.is, hfb.cost⟩, hfb.least⟩
          subst hv
          have hPw := hPok.worth
          have hP2 : ProofOk n l1 (fun i => i < l1.length) (costL l1) P (worthAll P) := hPw.symm ▸ hPok
          refine ⟨P, 0, _, v', by omega, fun k h => hk2 k (by omega), fun k h => (branching_ref hr k h).trans (hk k (by omega)), .inl ⟨rfl, fun k h => ?_⟩⟩
          rw [(proves_ref hr P (by omega)).1 hP2 k h, hPw]
        · exact absurd hfb.is (hno f)
      · rcases proof_spec hr with ⟨P, v', ⟨⟨f, hf, _⟩, _⟩, _⟩ | ⟨_, hk2⟩
        · exact absurd hf (hno f)
        · exact ⟨[], 10, _, 0, by simp, fun k h => hk2 k (by omega), fun k h => (branching_ref hr k h).trans (hk k (by omega)), .inr ⟨by decide, rfl⟩⟩
    · exact ⟨[], readB a0 l1, [], 0, by simp, fun k _ => (refused_spec hr k).2.2.1, fun k h => (search_refused hr k (by omega)).1, .inr ⟨hr, rfl⟩⟩
  obtain ⟨P, e, L, c, hP, h1, h2, h4⟩ := h3
  obtain ⟨q, hq⟩ : ∃ q, 10000 ≤ q := ⟨10000, Nat.le_refl _⟩
  refine ⟨q + P.length + 3, ?_⟩
  unfold trishawlaw03_BranchProofs.f
  rw [hfew, Option.bind_some, if_pos rfl, hb _ (by omega), Option.bind_some]
  cases b with
  | false => exact hj (q + P.length + 2) (by omega)
  | true =>
    show trishawlaw03_BranchProofs.j0 (q + P.length + 3) a0 l1 false = some true
    rw [trishawlaw03_BranchProofs.j0, if_neg (by decide), h1 _ (by omega), Option.bind_some, Option.bind_some, h2 _ (by omega), Option.bind_some, if_pos rfl, if_pos rfl]
    simp only [bne_self_eq_false]
    rw [trishawlaw03_BranchProofs.j1, if_neg (by decide)]
    have hl := proofs_loop a0 l1 P hP e c q P.length 0 (by omega)
    refine hl.trans ?_
    rcases h4 with ⟨rfl, h5⟩ | ⟨he, rfl⟩
    · rw [if_pos rfl, h5 _ (by omega), Option.bind_some, if_pos rfl, if_pos rfl, al _ (by omega)]; rfl
    · rw [if_neg he, if_pos (by simp), al _ (by omega)]; rfl
end Go.Proofs.Ytpmadffgdfholaa.Pure
