/- Part 7: lemmas in plain Lean. -/
import Derived.Below
import Derived.Deep.Draws
import Derived.Deep.AppendLies
import Derived.Maps.AppendAt
import Derived.OwnWalk
import Derived.Laws.BytesArg
import Derived.Laws.MakeOwn
import Derived.Laws.OwnMore
import Derived.Deep.OwnRows
import Derived.Tactics
import Derived.Lib.ConvBytes
import Derived.Laws.Slices
import Derived.WalkKit
import Derived.KernelRfl
import Derived.RowKit3
import Derived.Deep.LoopGhost
import Derived.Deep.QuietTactic
import Derived.BigQuiet
import Derived.WideLaws
import Derived.Deep.DeepCutAuto
import Derived.Deep.CutBlock
import Derived.Deep.RegionHeld3
import Derived.Laws.Rows
import Derived.Lib.AppendStr
import Derived.ArgAppend
import Derived.Laws.IdiomCopy
import Derived.RowKit
import Derived.OrdersHeld
import Derived.Laws.BitsLemmas
import Derived.Laws.StructEq
import Derived.Test.YtjgbdicbdlollaaProg
import Derived.WalkSpells
import Derived.MapKept
import Derived.Maps.RangeWalk
import Derived.Shelf.SlSortCmp.SmallK
import Derived.Ground.SlsfProg
import Derived.Deep.Slices
import Derived.Deep.Fields
import Derived.ChangeSame
import Derived.ChangeSlices
import Derived.SizedLaws
import Derived.Sort.LotA
import Derived.Test.YtjgbdicbdlollaaCL1
import Derived.Test.YtjgbdicbdlollaaCL2
import Derived.Test.YtjgbdicbdlollaaCL3
import Derived.Test.YtjgbdicbdlollaaCL4
import Derived.Test.YtjgbdicbdlollaaCL5
import Derived.Test.YtjgbdicbdlollaaCL6
namespace Go.Proofs.Ytjgbdicbdlollaa.B
open Go.RowKit Go.Sort Go.Proofs.YtjgbdicbdlollaaW.PrintWords Go.Proofs.YtjgbdicbdlollaaW.PrintLast Go.Proofs.YtjgbdicbdlollaaW.PrintMore
set_option linter.unusedVariables false
set_option linter.unusedSimpArgs false
set_option linter.unusedSectionVars false
/-- The B of lane i, or 1. -/
def bAt (l : List S36) (i : Nat) : Nat := if i < l.length then (rdT_ l (i : Int)).f1.toNat else 1
def lcL (l : List S36) : Nat := lc (bAt l 0) (bAt l 1) (bAt l 2) (bAt l 3)
theorem bAt_b {l : List S36} (hv : ∀ x ∈ l, okL x) (i : Nat) : 1 ≤ bAt l i ∧ bAt l i < 11 := by
  unfold bAt
  split
  · rename_i h
    have := hv _ (rdT_mem l i h)
    unfold okL at this
    omega
  · omega
theorem lc_dvd (a b c d : Nat) : a ∣ lc a b c d ∧ b ∣ lc a b c d ∧ c ∣ lc a b c d ∧ d ∣ lc a b c d :=
  ⟨Nat.dvd_lcm_left _ _, Nat.dvd_trans (Nat.dvd_lcm_left _ _) (Nat.dvd_lcm_right _ _), Nat.dvd_trans (Nat.dvd_trans (Nat.dvd_lcm_left _ _) (Nat.dvd_lcm_right _ _)) (Nat.dvd_lcm_right _ _), Nat.dvd_trans (Nat.dvd_trans (Nat.dvd_lcm_right _ _) (Nat.dvd_lcm_right _ _)) (Nat.dvd_lcm_right _ _)⟩
theorem lc_pos {a b c d : Nat} (ha : 1 ≤ a) (hb : 1 ≤ b) (hc : 1 ≤ c) (hd : 1 ≤ d) : 0 < lc a b c d := Nat.lcm_pos ha (Nat.lcm_pos hb (Nat.lcm_pos hc hd))
theorem bAt_dvd (l : List S36) (i : Nat) (h : i < 4) : bAt l i ∣ lcL l := by
  obtain ⟨h0, h1, h2, h3⟩ := lc_dvd (bAt l 0) (bAt l 1) (bAt l 2) (bAt l 3)
  match i, h with
  | 0, _ => exact h0
  | 1, _ => exact h1
  | 2, _ => exact h2
  | 3, _ => exact h3
theorem lcL_scale {t : Int} (ht : t = 1 ∨ t = 2) {l : List S36} (hl : l.length ≤ 4) (hv : ∀ x ∈ l, okL x) :
    0 < (lcL l : Int) * t ∧ (∀ x ∈ l, (x.f1 * t) ∣ (lcL l : Int) * t) ∧ sumL (wv ((lcL l : Int) * t) t) l * ((lcL l : Int) * t) ≤ 10000000 := by
  have hb := bAt_b hv
  have hL : 0 < lcL l := lc_pos (hb 0).1 (hb 1).1 (hb 2).1 (hb 3).1
  have hLi : 0 < (lcL l : Int) := by omega
  have ht0 : 0 < t := by omega
  have hat : ∀ i : Nat, i < l.length → (rdT_ l (i : Int)).f1 = (bAt l i : Int) := fun i hi => by
    have := hv _ (rdT_mem l i hi)
    unfold okL at this
    unfold bAt
    rw [if_pos hi]; omega
  have hdv : ∀ i : Nat, i < l.length → ((rdT_ l (i : Int)).f1 * t) ∣ (lcL l : Int) * t := fun i hi => by
    rw [hat i hi]
    exact Int.mul_dvd_mul_right _ (Int.natCast_dvd_natCast.2 (bAt_dvd l i (by omega)))
  refine ⟨Int.mul_pos hLi ht0, fun x hx => ?_, ?_⟩
  · obtain ⟨i, hi, rfl⟩ := List.mem_iff_getElem.1 hx
    have := hdv i hi
    simpa [rdT_, List.getD, List.getElem?_eq_getElem hi] using this
  · have hw : ∀ i : Nat, i < l.length → wv ((lcL l : Int) * t) t (rdT_ l (i : Int)) = ((lcL l / bAt l i : Nat) : Int) := fun i hi => by
      have e1 := wv_mul (hdv i hi)
      have e2 : ((lcL l / bAt l i : Nat) : Int) * (bAt l i : Int) = (lcL l : Int) := by
        rw [← Int.natCast_mul, Nat.div_mul_cancel (bAt_dvd l i (by omega))]
      have h1 := (hb i).1
      rw [hat i hi] at e1
      refine Int.eq_of_mul_eq_mul_right (show (bAt l i : Int) * t ≠ 0 from ?_) ?_
      · have := Int.mul_pos (show 0 < (bAt l i : Int) by omega) ht0; omega
      · rw [e1, ← Int.mul_assoc, e2]
    have hs : sumL (wv ((lcL l : Int) * t) t) l ≤ ((lcL l / bAt l 0 + lcL l / bAt l 1 + lcL l / bAt l 2 + lcL l / bAt l 3 : Nat) : Int) := by
      rw [← sI_sumL', sI_congr l.length hw]
      have hmono : ∀ m n : Nat, n + m = 4 → sI n (fun i => ((lcL l / bAt l i : Nat) : Int)) ≤ sI 4 (fun i => ((lcL l / bAt l i : Nat) : Int)) := by
        intro m
        induction m with
        | zero => intro n h; have : n = 4 := by omega
                  subst this; exact Int.le_refl _
        | succ m ih =>
          intro n h
          have := ih (n + 1) (by omega)
          refine Int.le_trans ?_ this
          show _ ≤ sI n (fun i => ((lcL l / bAt l i : Nat) : Int)) + _
          exact Int.le_add_of_nonneg_right (Int.natCast_nonneg _)
      have := hmono (4 - l.length) l.length (by omega)
      refine Int.le_trans this ?_
      simp only [sI, Int.natCast_add]
      omega
    have hc := lc_chk (bAt l 0) (hb 0).2 (bAt l 1) (hb 1).2 (bAt l 2) (hb 2).2 (bAt l 3) (hb 3).2
    change 2 * lcL l * (lcL l / bAt l 0 + lcL l / bAt l 1 + lcL l / bAt l 2 + lcL l / bAt l 3) ≤ 10000000 at hc
    generalize lcL l / bAt l 0 + lcL l / bAt l 1 + lcL l / bAt l 2 + lcL l / bAt l 3 = S at *
    have h1 : sumL (wv ((lcL l : Int) * t) t) l * ((lcL l : Int) * t) ≤ (S : Int) * ((lcL l : Int) * t) := Int.mul_le_mul_of_nonneg_right hs (Int.le_of_lt (Int.mul_pos hLi ht0))
    have h2 : (S : Int) * ((lcL l : Int) * t) ≤ (S : Int) * ((lcL l : Int) * 2) := Int.mul_le_mul_of_nonneg_left (Int.mul_le_mul_of_nonneg_left (by omega) (Int.le_of_lt hLi)) (by omega)
    have h3 : (S : Int) * ((lcL l : Int) * 2) = ((2 * lcL l * S : Nat) : Int) := by
      rw [Int.natCast_mul, Int.natCast_mul]; grind
    omega
theorem nv_scale {p q t : Int} {x : S36} (hp : 0 < p) (hq : 0 < q) (hb : 1 ≤ x.f1 * t) (hd : (x.f1 * t) ∣ p) (hdq : (x.f1 * t) ∣ q) {n d N C : Int} (e2 : q * n = p * N) (e1 : q * d = p * C) :
    (q * q) * nv (wv p t) n d x = (p * p) * nv (wv q t) N C x := by
  have hw := wv_cross' hb hd hdq
  have a1 : q * (x.f0 * d) = p * (x.f0 * C) := by rw [Int.mul_left_comm, e1, Int.mul_left_comm]
  have hs : (x.f0 * d < n) ↔ (x.f0 * C < N) := by
    constructor
    · intro h
      have h3 := Int.mul_lt_mul_of_pos_left h hq
      rw [a1, e2] at h3
      exact Int.lt_of_mul_lt_mul_left h3 (Int.le_of_lt hp)
    · intro h
      have h3 : p * (x.f0 * C) < p * N := Int.mul_lt_mul_of_pos_left h hp
      rw [← a1, ← e2] at h3
      exact Int.lt_of_mul_lt_mul_left h3 (Int.le_of_lt hq)
  unfold nv
  by_cases hx : x.f0 * d < n
  · rw [if_pos hx, if_pos (hs.1 hx)]
    have a2 : q * (n - x.f0 * d) = p * (N - x.f0 * C) := by rw [Int.mul_sub, Int.mul_sub, a1, e2]
    generalize n - x.f0 * d = u at *
    generalize N - x.f0 * C = u' at *
    generalize wv p t x = v at *
    generalize wv q t x = v' at *
    have e3 : (q * q) * (u * v) = (q * u) * (q * v) := by grind
    have e4 : (p * p) * (u' * v') = (p * u') * (p * v') := by grind
    rw [e3, e4, a2, hw]
  · rw [if_neg hx, if_neg fun h => hx (hs.2 h)]; simp
/-- The parts that balance answers with. -/
theorem balance_flow {l : List S36} {t : Int} (ht : t = 1 ∨ t = 2) (hne : l ≠ []) (hl : l.length ≤ 4) (hv : ∀ x ∈ l, okL x) :
    ∃ (X : List Int) (D T n d : Int), X.length = l.length ∧ D ≤ 10000000 ∧ gl X D = 1 ∧ Flow l.length (LX X) D ∧ BalT l.length t (LA l) (LB l) (LX X) D T ∧ T * d = n * D ∧ 0 ≤ n ∧ n ≤ 6560000 ∧ 0 < d ∧ d ≤ 640000 ∧ Ev (fun k => jBa.f k l t) (X, D, (ratR n d).1, (ratR n d).2) := by
  obtain ⟨n, d, g, h⟩ := balance_ev ht hne hl hv
  have hp := prodL_b ht hv
  have hbt : ∀ x ∈ l, 1 ≤ x.f1 * t := fun x hx => (bt_b ht (hv x hx)).1
  have hdv : ∀ x ∈ l, (x.f1 * t) ∣ prodL t l := fun x hx => prodL_dvd x hx
  have gb := g.b hp.1 (Int.le_trans hp.2 (pow20 hl)) hl (fun x hx => ⟨hv x hx, wv_b (prodL_dvd x hx) hp.1 (bt_b ht (hv x hx)).1⟩)
  obtain ⟨q0, hdq, hqb⟩ := lcL_scale ht hl hv
  generalize (lcL l : Int) * t = q at *
  generalize prodL t l = p at *
  obtain ⟨fl, ba⟩ := good_flow hp.1 hbt hdv g
  obtain ⟨N, C, gs, s1, s2⟩ := g.scale hp.1 q0 hbt hdv hdq
  have hdp : 0 < d * p := Int.mul_pos g.1 hp.1
  have hCq : 0 < C * q := Int.mul_pos gs.1 q0
  obtain ⟨r0, r1, r2, r3, r4, r5, r6⟩ := parts_red (l.map (nv (wv p t) n d)) (d * p) hdp
  obtain ⟨z0, z1, z2, z3, z4, z5, z6⟩ := parts_red (l.map (nv (wv q t) N C)) (C * q) hCq
  generalize gl (l.map (nv (wv p t) n d)) (d * p) = G at *
  generalize gl (l.map (nv (wv q t) N C)) (C * q) = H at *
  generalize partsR (l.map (nv (wv p t) n d)) (d * p) G = P at *
  generalize partsR (l.map (nv (wv q t) N C)) (C * q) H = Z at *
  have hPl : P.1.length = l.length := by rw [r3]; simp
  have hZl : Z.1.length = l.length := by rw [z3]; simp
  have hcross : ∀ i : Nat, i < P.1.length → rd Z.1 (i : Int) * P.2 = rd P.1 (i : Int) * Z.2 := by
    intro i hi
    have hil : i < l.length := by omega
    have a1 := r2 i (by simpa using hil)
    have a2 := z2 i (by simpa using hil)
    have e1 : rd (l.map (nv (wv p t) n d)) (i : Int) = nv (wv p t) n d (rdT_ l (i : Int)) := by simp [rd, rdT_, List.getD, List.getElem?_eq_getElem hil]
    have e2 : rd (l.map (nv (wv q t) N C)) (i : Int) = nv (wv q t) N C (rdT_ l (i : Int)) := by simp [rd, rdT_, List.getD, List.getElem?_eq_getElem hil]
    have hm := rdT_mem l i hil
    have hsc := nv_scale hp.1 q0 (hbt _ hm) (hdv _ hm) (hdq _ hm) s1 s2
    rw [← e1, ← e2, a1, a2] at hsc
    have hden : (q * q) * (G * P.2) = (p * p) * (H * Z.2) := by
      rw [← r1, ← z1]
      have e3 : (q * q) * (d * p) = (q * d) * (q * p) := by grind
      rw [e3, s2]; grind
    generalize rd P.1 (i : Int) = x at *
    generalize rd Z.1 (i : Int) = y at *
    generalize P.2 = D at *
    generalize Z.2 = E at *
    have k1 : ((q * q) * G) * x = ((p * p) * H) * y := by rw [Int.mul_assoc (q * q), Int.mul_assoc (p * p)]; exact hsc
    have k2 : ((q * q) * G) * D = ((p * p) * H) * E := by rw [Int.mul_assoc (q * q), Int.mul_assoc (p * p)]; exact hden
    have u0 : 0 < (q * q) * G := Int.mul_pos (Int.mul_pos q0 q0) r0
    have v0 : 0 < (p * p) * H := Int.mul_pos (Int.mul_pos hp.1 hp.1) z0
    generalize (q * q) * G = u at *
    generalize (p * p) * H = v at *
    refine Int.eq_of_mul_eq_mul_left (show u * v ≠ 0 by have := Int.mul_pos u0 v0; omega) ?_
    have j1 : u * v * (y * D) = (v * y) * (u * D) := by grind
    have j2 : u * v * (x * E) = (u * x) * (v * E) := by grind
    rw [j1, j2, k1, k2]
  obtain ⟨w1, w2⟩ := low_uniq (X := P.1) (Y := Z.1) (by rw [hPl, hZl]) r5 z5 r4 z4 hcross
  have hD : P.2 ≤ 10000000 := by
    have hC : C ≤ sumL (wv q t) l := by
      conv => lhs; rw [gs.2.2]
      refine sumL_le fun x hx => ?_
      have := (wv_b (hdq x hx) q0 (hbt x hx)).1
      split <;> omega
    have := Int.mul_le_mul_of_nonneg_right hC (Int.le_of_lt q0)
    omega
  obtain ⟨f1, S, hS, f2⟩ := flow_red (b := LX P.1) (E := P.2) r0 (fun i hi => r2 i (by simpa using hi)) r1 fl ba
  refine ⟨P.1, P.2, S, n, d, hPl, hD, r4, f1, f2, ?_, gb.1, gb.2.1, gb.2.2.1, gb.2.2.2, h⟩
  refine Int.eq_of_mul_eq_mul_left (show G ≠ 0 by omega) ?_
  have j1 : G * (S * d) = (G * S) * d := by rw [Int.mul_assoc]
  have j2 : G * (n * P.2) = n * (G * P.2) := Int.mul_left_comm _ _ _
  rw [j1, j2, ← hS, ← r1]; grind
end Go.Proofs.Ytjgbdicbdlollaa.B
namespace Go.Proofs.Ytjgbdicbdlollaa.B
open Go.RowKit Go.Sort Go.Proofs.YtjgbdicbdlollaaW.PrintWords Go.Proofs.YtjgbdicbdlollaaW.PrintLast Go.Proofs.YtjgbdicbdlollaaW.PrintMore
set_option linter.unusedVariables false
set_option linter.unusedSimpArgs false
set_option linter.unusedSectionVars false
structure AreOk (l : List S36) (X : List Int) (D : Int) : Prop where
  len : X.length = l.length
  pos : 0 < D
  le : D ≤ 10000000
  bd : ∀ q : Nat, q < X.length → 0 ≤ rd X (q : Int) ∧ rd X (q : Int) ≤ D
  gl : gl X D = 1
  sum : sI X.length (LX X) = D
theorem AreOk.flow {l : List S36} {X : List Int} {D : Int} (h : AreOk l X D) : Flow l.length (LX X) D := ⟨h.pos, fun i hi => (h.bd i (by have := h.len; omega)).1, by rw [← h.len]; exact h.sum⟩
theorem AreOk.all {l : List S36} {X : List Int} {D : Int} (h : AreOk l X D) : ∀ y ∈ X, 0 ≤ y ∧ y ≤ D := fun y hy => by
  obtain ⟨q, hq, rfl⟩ := List.mem_iff_getElem.1 hy
  have := h.bd q hq
  simpa [rd, List.getD, List.getElem?_eq_getElem hq] using this
theorem sI_mem {F : Nat → Int} : ∀ n, (∀ i, i < n → 0 ≤ F i) → ∀ i, i < n → F i ≤ sI n F
  | 0, _, i, hi => by omega
  | n + 1, h, i, hi => by
    have h1 := sI_nonneg n fun i hi => h i (by omega)
    have h2 := h n (by omega)
    simp only [sI]
    by_cases e : i = n
    · subst e; omega
    · have := sI_mem n (fun i hi => h i (by omega)) i (by omega); omega
theorem AreOk.mk' {l : List S36} {X : List Int} {D : Int} (hl : X.length = l.length) (hD : D ≤ 10000000) (hg : B.gl X D = 1) (f : Flow l.length (LX X) D) : AreOk l X D := by
  refine ⟨hl, f.pos, hD, fun q hq => ⟨f.nn q (by omega), ?_⟩, hg, by rw [hl]; exact f.sum⟩
  have := sI_mem l.length f.nn q (by omega)
  rw [f.sum] at this; exact this
/-- A delay. -/
def dlR (l : List S36) (X : List Int) (D : Int) : Int × Int := ratR (sI l.length (dT (LA l) (LB l) (LX X) D)) (D * D)
/-- Balance and Cheapest. -/
theorem balT_ev {l : List S36} (h0 : laneE l = 0) : ∃ (X : List Int) (D T n d : Int), AreOk l X D ∧ BalT l.length 1 (LA l) (LB l) (LX X) D T ∧ T * d = n * D ∧ 0 ≤ n ∧ n ≤ 6560000 ∧ 0 < d ∧ d ≤ 640000 ∧ Ev (fun k => jam_Balance.f k l) (X, D, (ratR n d).1, (ratR n d).2, 0) := by
  obtain ⟨hne, hl, hv⟩ := laneE_ok h0
  obtain ⟨X, D, T, n, d, h1, h2, h3, h4, h5, h6, h7, h8, h9, h10, h11⟩ := balance_flow (Or.inl rfl) hne hl hv
  refine ⟨X, D, T, n, d, AreOk.mk' h1 h2 h3 h4, h5, h6, h7, h8, h9, h10, ?_⟩
  unfold jam_Balance.f
  exact Ev.congr (fun k => by rw [stream_laneE, Option.bind_some, h0, if_pos rfl]) (Ev.bind h11 (Ev.now _))
theorem cheap_ev {l : List S36} (h0 : laneE l = 0) : ∃ (X : List Int) (D T : Int), AreOk l X D ∧ BalT l.length 2 (LA l) (LB l) (LX X) D T ∧ Ev (fun k => jCh_.f k l) (X, D, (dlR l X D).1, (dlR l X D).2, 0) := by
  obtain ⟨hne, hl, hv⟩ := laneE_ok h0
  obtain ⟨X, D, T, n, d, h1, h2, h3, h4, h5, h6, h7, h8, h9, h10, h11⟩ := balance_flow (Or.inr rfl) hne hl hv
  have ok := AreOk.mk' h1 h2 h3 h4
  have d1 := (delay_ev hl ok.len hv ok.pos (by have := ok.le; omega) ok.all).1
  rw [delS_eq] at d1
  refine ⟨X, D, T, ok, h5, ?_⟩
  unfold jCh_.f
  exact Ev.congr (fun k => by rw [stream_laneE, Option.bind_some, h0, if_pos rfl]) (Ev.bind h11 (Ev.bind (f := fun _ (c : Int × Int) => some (X, D, c.1, c.2, (0 : Int))) d1 (Ev.now _)))
theorem lanes_A {l : List S36} (hv : ∀ x ∈ l, okL x) : (∀ i, i < l.length → 0 ≤ LA l i) ∧ ∀ i, i < l.length → 1 ≤ LB l i := ⟨fun i hi => (hv _ (rdT_mem l i hi)).1, fun i hi => (hv _ (rdT_mem l i hi)).2.2.1⟩
theorem del_b {l : List S36} (hl : l.length ≤ 4) (hv : ∀ x ∈ l, okL x) {X : List Int} {D : Int} (ok : AreOk l X D) : 0 ≤ sI l.length (dT (LA l) (LB l) (LX X) D) ∧ sI l.length (dT (LA l) (LB l) (LX X) D) ≤ 825908841676800000 ∧ 0 < D * D ∧ D * D ≤ 100000000000000 := by
  obtain ⟨⟨e1, e2, e3⟩, _⟩ := delS_ev hl ok.len hv ok.pos (by have := ok.le; omega) ok.all l.length 0 0 (by omega) (by omega) (by omega)
  rw [delS_eq] at e2 e3
  have hm := mulb (x := D) (y := D) (X := 10000000) (Y := 10000000) (Int.le_of_lt ok.pos) ok.le (Int.le_of_lt ok.pos) ok.le
  exact ⟨e2, by omega, Int.mul_pos ok.pos ok.pos, by omega⟩
end Go.Proofs.Ytjgbdicbdlollaa.B
namespace Go.Proofs.Ytjgbdicbdlollaa.B
open Go.RowKit Go.Sort Go.Proofs.YtjgbdicbdlollaaW.PrintWords Go.Proofs.YtjgbdicbdlollaaW.PrintLast Go.Proofs.YtjgbdicbdlollaaW.PrintMore
set_option linter.unusedVariables false
set_option linter.unusedSimpArgs false
theorem sI_lt {F G : Nat → Int} : ∀ n, (∀ i, i < n → F i ≤ G i) → (∃ i, i < n ∧ F i < G i) → sI n F < sI n G
  | 0, _, ⟨i, hi, _⟩ => by omega
  | n + 1, h, ⟨i, hi, hlt⟩ => by
    have h1 := sI_le n fun i hi => h i (by omega)
    have h2 := h n (by omega)
    simp only [sI]
    by_cases e : i = n
    · subst e; omega
    · have := sI_lt n (fun i hi => h i (by omega)) ⟨i, by omega, hlt⟩; omega
/-- With another lane the time is not greater. -/
theorem lane_time {n : Nat} {A B A' B' a a' : Nat → Int} {D T D' T' : Int} (hA : ∀ i, i < n → A' i = A i ∧ B' i = B i) (hB : ∀ i, i < n → 1 ≤ B i) (f : Flow n a D) (f' : Flow (n + 1) a' D') (h : BalT n 1 A B a D T) (h' : BalT (n + 1) 1 A' B' a' D' T') : T' * D ≤ T * D' := by
  rcases Int.lt_or_le (T * D') (T' * D) with hlt | hle
  · exfalso
    have key : ∀ i, i < n → a i * D' ≤ a' i * D ∧ (0 < a i → a i * D' < a' i * D) := by
      intro i hi
      have h1 := h i hi
      have h2 := h' i (by omega)
      have hn := f.nn i hi
      have hn' := f'.nn i (by omega)
      have hD := f.pos
      have hD' := f'.pos
      rw [(hA i hi).1, (hA i hi).2] at h2
      by_cases h0 : 0 < a i
      · have e1 := h1.1 h0
        have hs : a i * D' < a' i * D := by
          by_cases h3 : 0 < a' i
          · have e2 := h2.1 h3
            have e3 : B i * (a' i * D - a i * D') = T' * D - T * D' := by rw [← e1, ← e2]; grind
            have hb := hB i hi
            rcases Int.lt_or_le 0 (a' i * D - a i * D') with h4 | h4
            · omega
            · have := Int.mul_le_mul_of_nonneg_left h4 (show 0 ≤ B i by omega)
              rw [Int.mul_zero] at this; omega
          · have h4 : a' i = 0 := by omega
            have e2 := h2.2 h4
            have e4 := Int.mul_le_mul_of_nonneg_right e2 (Int.le_of_lt hD)
            have e5 : T * D' = A i * D' * D + 1 * (B i * a i) * D' := by rw [← e1]; grind
            have e6 : 0 ≤ 1 * (B i * a i) * D' := Int.mul_nonneg (by rw [Int.one_mul]; exact Int.mul_nonneg (by have := hB i hi; omega) hn) (Int.le_of_lt hD')
            omega
        exact ⟨Int.le_of_lt hs, fun _ => hs⟩
      · have : a i = 0 := by omega
        refine ⟨?_, fun h => absurd h h0⟩
        rw [this, Int.zero_mul]
        exact Int.mul_nonneg hn' (Int.le_of_lt hD)
    have hex : ∃ i, i < n ∧ 0 < a i := by
      apply Classical.byContradiction
      intro hno
      have : sI n a = sI n (fun _ => 0 * 0) := sI_congr n fun i hi => by
        have := f.nn i hi
        have : ¬ 0 < a i := fun h => hno ⟨i, hi, h⟩
        omega
      rw [sI_mul, f.sum] at this
      have := f.pos
      omega
    obtain ⟨j, hj, hpj⟩ := hex
    have hs := sI_lt n (F := fun i => D' * a i) (G := fun i => D * a' i) (fun i hi => by rw [Int.mul_comm D', Int.mul_comm D]; exact (key i hi).1) ⟨j, hj, by rw [Int.mul_comm D', Int.mul_comm D]; exact (key j hj).2 hpj⟩
    rw [sI_mul, sI_mul, f.sum] at hs
    have h5 := f'.sum
    have h6 := f'.nn n (by omega)
    simp only [sI] at h5
    have h7 := Int.mul_le_mul_of_nonneg_left (show sI n a' ≤ D' by omega) (Int.le_of_lt f.pos)
    rw [Int.mul_comm D' D] at hs
    omega
  · exact hle
theorem LA_snoc (l : List S36) (x : S36) (i : Nat) (h : i < l.length) : LA (l ++ [x]) i = LA l i ∧ LB (l ++ [x]) i = LB l i := by
  have e : rdT_ (l ++ [x]) (i : Int) = rdT_ l (i : Int) := by
    simp [rdT_, List.getD, List.getElem?_append_left h]
  exact ⟨by show (rdT_ _ _).f0 = _; rw [e], by show (rdT_ _ _).f1 = _; rw [e]⟩
theorem lane_end {l : List S36} {x : S36} (h0 : laneE l = 0) (h1 : laneE (l ++ [x]) = 0) : Ev (fun k => lJL_.j0 k l (l ++ [x]) false) true := by
  obtain ⟨hne, hl, hv⟩ := laneE_ok h0
  obtain ⟨hne', hl', hv'⟩ := laneE_ok h1
  obtain ⟨X, D, T, n, d, ok, bal, e1, n0, n1, d0, d1, ev1⟩ := balT_ev h0
  obtain ⟨X', D', T', n', d', ok', bal', e1', n0', n1', d0', d1', ev1'⟩ := balT_ev h1
  obtain ⟨C, E, S, okC, balC, ev2⟩ := cheap_ev h0
  obtain ⟨C', E', S', okC', balC', ev2'⟩ := cheap_ev h1
  have hlen : (l ++ [x]).length = l.length + 1 := by simp
  have ht := lane_time (n := l.length) (A := LA l) (B := LB l) (A' := LA (l ++ [x])) (B' := LB (l ++ [x])) (fun i hi => LA_snoc l x i hi) (lanes_A hv).2 ok.flow (hlen ▸ ok'.flow) bal (hlen ▸ bal')
  have hdl : E * E * sI (l ++ [x]).length (dT (LA (l ++ [x])) (LB (l ++ [x])) (LX C') E') ≤ E' * E' * sI l.length (dT (LA l) (LB l) (LX C) E) := by
    have hC0 : ∀ i, i < l.length → LX (C ++ [0]) i = LX C i := fun i hi => by
      show rd _ _ = rd _ _
      simp [rd, List.getD, List.getElem?_append_left (show i < C.length by rw [okC.len]; exact hi)]
    have hC1 : LX (C ++ [0]) l.length = 0 := by
      show rd _ _ = 0
      rw [← okC.len]
      simp [rd, List.getD]
    have fl : Flow (l ++ [x]).length (LX (C ++ [0])) E := by
      rw [hlen]
      refine ⟨okC.pos, fun i hi => ?_, ?_⟩
      · by_cases e : i = l.length
        · rw [e, hC1]; exact Int.le_refl _
        · rw [hC0 i (by omega)]; exact okC.flow.nn i (by omega)
      · simp only [sI]
        rw [hC1, sI_congr l.length hC0, okC.flow.sum]; omega
    have := opt_le okC'.flow fl (lanes_A hv').1 (lanes_A hv').2 balC'
    have e : sI (l ++ [x]).length (dT (LA (l ++ [x])) (LB (l ++ [x])) (LX (C ++ [0])) E) = sI l.length (dT (LA l) (LB l) (LX C) E) := by
      rw [hlen]
      simp only [sI]
      have e2 : dT (LA (l ++ [x])) (LB (l ++ [x])) (LX (C ++ [0])) E l.length = 0 := by unfold dT; rw [hC1]; simp
      rw [e2, Int.add_zero]
      refine sI_congr l.length fun i hi => ?_
      unfold dT
      rw [(LA_snoc l x i hi).1, (LA_snoc l x i hi).2, hC0 i hi]
    rw [e] at this
    exact this
  have dC := del_b hl hv okC
  have dC' := del_b hl' hv' okC'
  have b1 := ratR_b n0 d0
  have b1' := ratR_b n0' d0'
  have b2 := ratR_b dC.1 dC.2.2.1
  have b2' := ratR_b dC'.1 dC'.2.2.1
  have L1 : Ev (fun k => lLe_.f k (ratR n d).1 (ratR n d).2 1 (ratR n' d').1 (ratR n' d').2 1) false := by
    have h := less_ev (m := 1) (k := 1) b1.1 (by omega) b1.2.2.1 (by omega) b1'.1 (by omega) b1'.2.2.1 (by omega) (by decide) (by decide) (by decide) (by decide)
    rw [decide_eq_false] at h
    · exact h
    · rw [ratR_lt d0 d0', Int.mul_one, Int.mul_one]
      intro hlt
      have k0 := Int.mul_pos ok.pos ok'.pos
      have k1 : T * d * (D' * d') = n * D * (D' * d') := by rw [e1]
      have k2 : T' * d' * (D * d) = n' * D' * (D * d) := by rw [e1']
      have k3 : (D * D') * (n * d') < (D * D') * (n' * d) := Int.mul_lt_mul_of_pos_left hlt k0
      have k4 : T' * D * (d * d') ≤ T * D' * (d * d') := Int.mul_le_mul_of_nonneg_right ht (Int.le_of_lt (Int.mul_pos d0 d0'))
      have k5 : T * d * (D' * d') = T * D' * (d * d') := by grind
      have k6 : T' * d' * (D * d) = T' * D * (d * d') := by grind
      have k7 : n * D * (D' * d') = (D * D') * (n * d') := by grind
      have k8 : n' * D' * (D * d) = (D * D') * (n' * d) := by grind
      omega
  have L2 : Ev (fun k => lLe_.f k (dlR l C E).1 (dlR l C E).2 1 (dlR (l ++ [x]) C' E').1 (dlR (l ++ [x]) C' E').2 1) false := by
    have h := less_ev (m := 1) (k := 1) b2.1 (by omega) b2.2.2.1 (by omega) b2'.1 (by omega) b2'.2.2.1 (by omega) (by decide) (by decide) (by decide) (by decide)
    rw [decide_eq_false] at h
    · exact h
    · rw [ratR_lt dC.2.2.1 dC'.2.2.1, Int.mul_one, Int.mul_one]
      rw [Int.mul_comm (E * E), Int.mul_comm (E' * E')] at hdl
      omega
  have hj1 : Ev (fun k => lJL_.j1 k false (ratR n d).1 (ratR n d).2 (ratR n' d').1 (ratR n' d').2 (dlR l C E).1 (dlR l C E).2 (dlR (l ++ [x]) C' E').1 (dlR (l ++ [x]) C' E').2) true := by
    refine Ev.step (f := fun k => (lLe_.f k (ratR n d).1 (ratR n d).2 1 (ratR n' d').1 (ratR n' d').2 1).bind fun t252 => (if t252 = true then (some false) else ((lLe_.f k (dlR l C E).1 (dlR l C E).2 1 (dlR (l ++ [x]) C' E').1 (dlR (l ++ [x]) C' E').2 1).bind fun t253 => (if t253 = true then (some false) else ((lAl_.f k).bind fun t254 => (some t254)))))) (fun k => ?_) (Ev.bind L1 (Ev.congr (fun k => if_neg Bool.false_ne_true) (Ev.bind L2 (Ev.congr (fun k => if_neg Bool.false_ne_true) alive_ev2))))
    simp only [lJL_.j1]
    rw [if_neg Bool.false_ne_true]
  refine Ev.step (fun k => by simp only [lJL_.j0]; rw [if_neg Bool.false_ne_true]) (Ev.bind ev1 (Ev.bind ev1' (Ev.bind ev2 (Ev.bind ev2' (Ev.congr (fun k => ?_) hj1)))))
  rw [if_pos rfl, if_pos rfl, if_pos rfl, if_pos rfl, if_neg (show ¬ (ratR n d).2 < 1 by have := b1.2.2.1; omega), if_neg (show ¬ (ratR n' d').2 < 1 by have := b1'.2.2.1; omega), if_neg (show ¬ (dlR l C E).2 < 1 by have : 0 < (dlR l C E).2 := b2.2.2.1; omega), decide_eq_false (show ¬ (dlR (l ++ [x]) C' E').2 < 1 by have : 0 < (dlR (l ++ [x]) C' E').2 := b2'.2.2.1; omega)]
theorem jamlane_ev (l : List S36) (x : S36) (hs : l.length * 16 ≤ 140737488351232) : Ev (fun k => lJL_.f k l x.f0 x.f1) true := by
  unfold lJL_.f
  have hskip : ∀ y : List S36, Ev (fun k => lJL_.j0 k l y true) true := fun y => Ev.step (fun k => by simp only [lJL_.j0]; rw [if_pos trivial]) alive_ev2
  simp only [Option.bind_some, List.nil_append, List.length_nil, Nat.zero_add, List.length_cons]
  refine Ev.congr (fun k => by rw [if_pos (show l.length < 8796093022208 by omega), if_pos (show l.length + 1 < 8796093022208 by omega)]) ?_
  by_cases h20 : (l.length : Int) > 20
  · exact Ev.congr (fun k => if_pos h20) (hskip _)
  · refine Ev.congr (fun k => if_neg h20) (Ev.bind (lanes_ev l (by omega)) ?_)
    by_cases h0 : laneE l = 0
    · refine Ev.congr (fun k => if_pos h0) (Ev.bind (lanes_ev (l ++ [x]) (by simp; omega)) ?_)
      by_cases h1 : laneE (l ++ [x]) = 0
      · rw [h1]; exact lane_end h0 h1
      · rw [show (laneE (l ++ [x]) != 0) = true by simp [h1]]; exact hskip _
    · exact Ev.congr (fun k => if_neg h0) (hskip _)
end Go.Proofs.Ytjgbdicbdlollaa.B
namespace Go.Proofs.Ytjgbdicbdlollaa.Pure
open Go.RowKit Go.Proofs.Ytjgbdicbdlollaa.B Go.Proofs.YtjgbdicbdlollaaW.PrintWords Go.Proofs.YtjgbdicbdlollaaW.PrintLast Go.Proofs.YtjgbdicbdlollaaW.PrintMore
theorem JamLane : lJL_.Pure := fun l0 a1 _ h _ _ => (jamlane_ev l0 a1 h).rounds
end Go.Proofs.Ytjgbdicbdlollaa.Pure
