/- Texts behind the row of JamStreams, part 6. -/
import Derived.Below
import Derived.Deep.Draws
import Derived.Deep.AppendLies
import Derived.Maps.AppendAt
import Derived.OwnWalk
import Derived.Laws.BytesArg
import Derived.Laws.MakeOwn
import Derived.Laws.OwnMore
import Derived.Deep.OwnRows
import Derived.Tactics
import Derived.Lib.ConvBytes
import Derived.Laws.Slices
import Derived.WalkKit
import Derived.KernelRfl
import Derived.RowKit3
import Derived.Deep.LoopGhost
import Derived.Deep.QuietTactic
import Derived.BigQuiet
import Derived.WideLaws
import Derived.Deep.DeepCutAuto
import Derived.Deep.CutBlock
import Derived.Deep.RegionHeld3
import Derived.Laws.Rows
import Derived.Lib.AppendStr
import Derived.ArgAppend
import Derived.Laws.IdiomCopy
import Derived.RowKit
import Derived.OrdersHeld
import Derived.Laws.BitsLemmas
import Derived.Laws.StructEq
import Derived.Test.YtjgbdicbdlollaaProg
import Derived.WalkSpells
import Derived.MapKept
import Derived.Maps.RangeWalk
import Derived.Shelf.SlSortCmp.SmallK
import Derived.Ground.SlsfProg
import Derived.Deep.Slices
import Derived.Deep.Fields
import Derived.ChangeSame
import Derived.ChangeSlices
import Derived.Sort.LotA
import Derived.Test.YtjgbdicbdlollaaCM1
import Derived.Test.YtjgbdicbdlollaaCM2
import Derived.Test.YtjgbdicbdlollaaCM3
import Derived.Test.YtjgbdicbdlollaaCM4
import Derived.Test.YtjgbdicbdlollaaCM5
namespace Go.Proofs.Ytjgbdicbdlollaa.B
open Go.RowKit Go.Sort Go.Proofs.YtjgbdicbdlollaaW.PrintWords Go.Proofs.YtjgbdicbdlollaaW.PrintLast Go.Proofs.YtjgbdicbdlollaaW.PrintMore
set_option linter.unusedVariables false
set_option linter.unusedSimpArgs false
set_option linter.unusedSectionVars false
def valD : List Int → Int
  | [] => 0
  | d :: l => d + 10000 * valD l
def Dg (l : List Int) : Prop := ∀ d ∈ l, 0 ≤ d ∧ d < 10000
def Tr (l : List Int) : Prop := l = [] ∨ rd l ((l.length : Int) - 1) ≠ 0
theorem rdB (l : List Int) (i : Nat) (h : i < l.length) : rd l (i : Int) = l[i] := by simp [rd, List.getD, List.getElem?_eq_getElem h]
theorem rd_hi (l : List Int) (i : Nat) (h : l.length ≤ i) : rd l (i : Int) = 0 := by simp [rd, List.getD, List.getElem?_eq_none h]
theorem rdB_mem (l : List Int) (i : Nat) (h : i < l.length) : rd l (i : Int) ∈ l := by rw [rdB l i h]; exact List.getElem_mem h
theorem Dg.rd {l : List Int} (h : Dg l) (i : Nat) : 0 ≤ rd l (i : Int) ∧ rd l (i : Int) < 10000 := by
  by_cases hi : i < l.length
  · exact h _ (rdB_mem l i hi)
  rw [rd_hi l i (by omega)]; omega
theorem valD_append : ∀ a b : List Int, valD (a ++ b) = valD a + 10000 ^ a.length * valD b
  | [], b => by simp [valD]
  | x :: a, b => by
    simp only [List.cons_append, valD, valD_append a b, List.length_cons, Int.pow_succ]
    grind
theorem takeB_snoc (l : List Int) (i : Nat) (h : i < l.length) : l.take (i + 1) = l.take i ++ [rd l (i : Int)] := by
  rw [List.take_add_one, List.getElem?_eq_getElem h, rdB l i h]; rfl
theorem valD_take (l : List Int) (i : Nat) (h : i < l.length) : valD (l.take (i + 1)) = valD (l.take i) + 10000 ^ i * rd l (i : Int) := by
  rw [takeB_snoc l i h, valD_append, List.length_take, Nat.min_eq_left (by omega)]
  simp [valD]
theorem pow_pos' (n : Nat) : (0 : Int) < 10000 ^ n := Int.pow_pos (by decide)
theorem valD_b : ∀ {l : List Int}, Dg l → 0 ≤ valD l ∧ valD l < 10000 ^ l.length
  | [], _ => by simp [valD]
  | d :: l, h => by
    have h1 := h d (by simp)
    have h2 := valD_b (l := l) fun y hy => h y (by simp [hy])
    simp only [valD, List.length_cons, Int.pow_succ]
    omega
theorem Dg.take {l : List Int} (h : Dg l) (n : Nat) : Dg (l.take n) := fun d hd => h d (List.mem_of_mem_take hd)
theorem Dg.append {a b : List Int} (h : Dg a) (k : Dg b) : Dg (a ++ b) := fun d hd => by
  rcases List.mem_append.1 hd with h1 | h1
  · exact h d h1
  exact k d h1
theorem Dg.one {d : Int} (h : 0 ≤ d ∧ d < 10000) : Dg [d] := fun x hx => by
  have : x = d := by simpa using hx
  subst this; exact h
theorem Dg.set {l : List Int} (h : Dg l) (i : Nat) {v : Int} (hv : 0 ≤ v ∧ v < 10000) : Dg (l.set i v) := fun d hd => by
  rcases List.mem_or_eq_of_mem_set hd with h1 | h1
  · exact h d h1
  subst h1; exact hv
theorem Tr.low {l : List Int} (h : Dg l) (t : Tr l) (hne : l ≠ []) : (10000 : Int) ^ (l.length - 1) ≤ valD l := by
  rcases t with t | t
  · exact absurd t hne
  have hl : 0 < l.length := List.length_pos_iff.2 hne
  have e := valD_take l (l.length - 1) (by omega)
  rw [show l.length - 1 + 1 = l.length by omega, List.take_of_length_le (Nat.le_refl _)] at e
  have h1 := valD_b (h.take (l.length - 1))
  have h2 := h.rd (l.length - 1)
  rw [show ((l.length - 1 : Nat) : Int) = (l.length : Int) - 1 by omega] at h2 e
  have h3 := pow_pos' (l.length - 1)
  have h4 : (10000 : Int) ^ (l.length - 1) * 1 ≤ 10000 ^ (l.length - 1) * rd l ((l.length : Int) - 1) := Int.mul_le_mul_of_nonneg_left (by omega) (Int.le_of_lt h3)
  omega
theorem Tr.nil {l : List Int} (h : Dg l) (t : Tr l) (h0 : valD l = 0) : l = [] := by
  by_cases hne : l = []
  · exact hne
  have := t.low h hne
  have := pow_pos' (l.length - 1)
  omega
theorem pow_mono' {m n : Nat} (h : m ≤ n) : (10000 : Int) ^ m ≤ 10000 ^ n := by
  obtain ⟨k, rfl⟩ := Nat.exists_eq_add_of_le h
  rw [Int.pow_add]
  have h1 := pow_pos' m
  have h2 := pow_pos' k
  have := Int.mul_le_mul_of_nonneg_left (show 1 ≤ (10000 : Int) ^ k by omega) (Int.le_of_lt h1)
  omega
theorem Tr.len {a b : List Int} (ha : Dg a) (ta : Tr a) (hb : Dg b) (h : valD a ≤ valD b) : a.length ≤ b.length := by
  rcases Nat.lt_or_ge b.length a.length with hl | hl
  · exfalso
    have hne : a ≠ [] := by intro e; subst e; simp at hl
    have h1 := ta.low ha hne
    have h2 := (valD_b hb).2
    have h3 := pow_mono' (m := b.length) (n := a.length - 1) (by omega)
    omega
  exact hl
theorem valD_set : ∀ (l : List Int) (i : Nat) (v : Int), i < l.length → valD (l.set i v) = valD l + (v - rd l (i : Int)) * 10000 ^ i
  | d :: l, 0, v, h => by simp [valD, rd]; omega
  | d :: l, i + 1, v, h => by
    have ih := valD_set l i v (by simpa using h)
    have e : rd (d :: l) ((i + 1 : Nat) : Int) = rd l (i : Int) := by simp only [rd, Int.toNat_natCast, List.getD_cons_succ]
    rw [e]
    simp only [List.set_cons_succ, valD, ih, Int.pow_succ]
    grind
theorem rd_set_same (l : List Int) (i : Nat) (v : Int) (h : i < l.length) : rd (l.set i v) (i : Int) = v := by
  rw [rdB _ i (by simpa using h)]; simp
theorem rd_set_far (l : List Int) (i j : Nat) (v : Int) (h : j ≠ i) : rd (l.set i v) (j : Int) = rd l (j : Int) := by
  unfold rd
  simp only [Int.toNat_natCast, List.getD_eq_getElem?_getD]
  rw [List.getElem?_set_ne (fun e => h e.symm)]
theorem trim_l1 (l : List Int) (n : Nat) (hn : n ≤ l.length) (hl : l.length < 1000000) : ∀ (m i : Nat), i + m = n → Ev (fun k => rTr.l1 k l (n : Int) (l.take i) (i : Int)) (l.take n)
  | 0, i, h => by
    have : i = n := by omega
    subst this
    refine Ev.step (f := fun _ => some (l.take i)) (fun k => ?_) (Ev.now _)
    simp only [rTr.l1]
    rw [if_neg (by omega)]
  | m + 1, i, h => by
    have ih := trim_l1 l n hn hl m (i + 1) (by omega)
    rw [takeB_snoc l i (by omega)] at ih
    refine Ev.step (fun k => ?_) ih
    simp only [rTr.l1]
    rw [if_pos (by omega), if_pos (by omega), if_pos (by omega), if_pos (by rw [List.length_take]; omega), wrapN i (by omega)]
theorem trim_l0 (l : List Int) (hd : Dg l) (hl : l.length < 1000000) : ∀ n : Nat, n ≤ l.length → ∃ m, m ≤ n ∧ Ev (fun k => rTr.l0 k l (n : Int)) (l.take m) ∧ valD (l.take m) = valD (l.take n) ∧ Tr (l.take m)
  | 0, hn => by
    refine ⟨0, Nat.le_refl _, ?_, rfl, Or.inl (by simp)⟩
    have h1 := trim_l1 l 0 hn hl 0 0 rfl
    refine Ev.step (f := fun k => rTr.j1 k l ((0 : Nat) : Int)) (fun k => ?_) (Ev.step (fun k => ?_) h1)
    · simp only [rTr.l0]; rw [if_neg (by omega)]
    simp only [rTr.j1]; rfl
  | n + 1, hn => by
    have w : wrap64 (((n + 1 : Nat) : Int) - 1) = (n : Int) := by unfold wrap64; omega
    by_cases h0 : rd l (n : Int) = 0
    · obtain ⟨m, h1, h2, h3, h4⟩ := trim_l0 l hd hl n (by omega)
      refine ⟨m, by omega, Ev.step (fun k => ?_) h2, ?_, h4⟩
      · simp only [rTr.l0]
        rw [if_pos (by omega), w, if_pos (by omega), if_pos (by omega), if_pos h0]
      rw [valD_take l n (by omega), h0, h3]; simp
    refine ⟨n + 1, Nat.le_refl _, ?_, rfl, Or.inr ?_⟩
    · have h1 := trim_l1 l (n + 1) hn hl (n + 1) 0 (by omega)
      refine Ev.step (f := fun k => rTr.j1 k l ((n + 1 : Nat) : Int)) (fun k => ?_) (Ev.step (fun k => ?_) h1)
      · simp only [rTr.l0]
        rw [if_pos (by omega), w, if_pos (by omega), if_pos (by omega), if_neg h0]
      simp only [rTr.j1]; rfl
    rw [List.length_take, Nat.min_eq_left hn, show ((n + 1 : Nat) : Int) - 1 = (n : Int) by omega, rdB _ n (by rw [List.length_take]; omega), List.getElem_take, ← rdB l n (by omega)]
    exact h0
structure Big (r : List Int) (v : Int) : Prop where
  dg : Dg r
  tr : Tr r
  val : valD r = v
theorem Big.nn {r : List Int} {v : Int} (h : Big r v) : 0 ≤ v := by rw [← h.val]; exact (valD_b h.dg).1
theorem Big.zero {r : List Int} (h : Big r 0) : r = [] := h.tr.nil h.dg h.val
theorem Big.ne {r : List Int} {v : Int} (h : Big r v) (h0 : 0 < v) : r ≠ [] := by
  intro e; have := h.val; rw [e] at this; simp only [valD] at this; omega
theorem trim_ev {l : List Int} (hd : Dg l) (hl : l.length < 1000000) : ∃ r, Ev (fun k => rTr.f k l) r ∧ Big r (valD l) ∧ r.length ≤ l.length := by
  obtain ⟨m, h1, h2, h3, h4⟩ := trim_l0 l hd hl l.length (Nat.le_refl _)
  rw [List.take_of_length_le (Nat.le_refl _)] at h3
  exact ⟨l.take m, h2, ⟨hd.take m, h4, h3⟩, by rw [List.length_take]; omega⟩
theorem whole_ev {l : List Int} (hd : Dg l) (hl : l.length < 1000000) : ∃ r, Ev (fun k => rWh.f k false l) (false, r) ∧ Big r (valD l) ∧ r.length ≤ l.length := by
  obtain ⟨r, h1, h2, h3⟩ := trim_ev hd hl
  refine ⟨r, ?_, h2, h3⟩
  unfold rWh.f
  exact Ev.bind h1 (Ev.congr (fun k => if_neg (by simp)) (Ev.now _))
def sgn (a b : Int) : Int := if a < b then -1 else if a = b then 0 else 1
theorem cmp_l0 (a b : List Int) (ha : Dg a) (hb : Dg b) (hl : a.length < 1000000) (he : a.length = b.length) : ∀ n : Nat, n ≤ a.length → Ev (fun k => trishawref01_cmpD.l0 k a b ((n : Int) - 1)) (sgn (valD (a.take n)) (valD (b.take n)))
  | 0, _ => by
    refine Ev.step (f := fun _ => some 0) (fun k => ?_) (Ev.now _)
    simp only [trishawref01_cmpD.l0]
    rw [if_neg (by omega)]
  | n + 1, hn => by
    have ih := cmp_l0 a b ha hb hl he n (by omega)
    have e1 := valD_take a n (by omega)
    have e2 := valD_take b n (by omega)
    have b1 := valD_b (ha.take n)
    have b2 := valD_b (hb.take n)
    rw [List.length_take, Nat.min_eq_left (by omega)] at b1 b2
    have hp := pow_pos' n
    have w : wrap64 (((n + 1 : Nat) : Int) - 1 - 1) = (n : Int) - 1 := by unfold wrap64; omega
    have ei : (((n + 1 : Nat) : Int) - 1) = (n : Int) := by omega
    by_cases h1 : rd a (n : Int) < rd b (n : Int)
    · have h2 : 10000 ^ n * rd a (n : Int) + 10000 ^ n ≤ 10000 ^ n * rd b (n : Int) := by
        have := Int.mul_le_mul_of_nonneg_left (show rd a (n : Int) + 1 ≤ rd b (n : Int) by omega) (Int.le_of_lt hp)
        rw [Int.mul_add] at this; omega
      have e : sgn (valD (a.take (n + 1))) (valD (b.take (n + 1))) = -1 := by unfold sgn; rw [if_pos (by omega)]
      rw [e]
      refine Ev.step (f := fun _ => some (-1)) (fun k => ?_) (Ev.now _)
      simp only [trishawref01_cmpD.l0]
      rw [ei, if_pos (by omega), if_pos (by omega), if_pos (by omega), if_pos (by omega), if_pos h1]
    by_cases h3 : rd b (n : Int) < rd a (n : Int)
    · have h2 : 10000 ^ n * rd b (n : Int) + 10000 ^ n ≤ 10000 ^ n * rd a (n : Int) := by
        have := Int.mul_le_mul_of_nonneg_left (show rd b (n : Int) + 1 ≤ rd a (n : Int) by omega) (Int.le_of_lt hp)
        rw [Int.mul_add] at this; omega
      have e : sgn (valD (a.take (n + 1))) (valD (b.take (n + 1))) = 1 := by unfold sgn; rw [if_neg (by omega), if_neg (by omega)]
      rw [e]
      refine Ev.step (f := fun _ => some 1) (fun k => ?_) (Ev.now _)
      simp only [trishawref01_cmpD.l0]
      rw [ei, if_pos (by omega), if_pos (by omega), if_pos (by omega), if_pos (by omega), if_neg h1, if_pos h3]
    have h4 : rd a (n : Int) = rd b (n : Int) := by omega
    have e : sgn (valD (a.take (n + 1))) (valD (b.take (n + 1))) = sgn (valD (a.take n)) (valD (b.take n)) := by
      unfold sgn
      rw [e1, e2, h4]
      split <;> split <;> (try split) <;> (try split) <;> omega
    rw [e]
    refine Ev.step (fun k => ?_) ih
    simp only [trishawref01_cmpD.l0]
    rw [w, ei, if_pos (by omega), if_pos (by omega), if_pos (by omega), if_pos (by omega), if_neg h1, if_neg h3]
theorem cmpD_ev {a b : List Int} {u v : Int} (ha : Big a u) (hb : Big b v) (hl : a.length < 1000000) : Ev (fun k => trishawref01_cmpD.f k a b) (sgn u v) := by
  have e1 := ha.val
  have e2 := hb.val
  unfold trishawref01_cmpD.f
  by_cases h1 : a.length < b.length
  · have : u < v := by
      rcases Int.lt_or_le u v with h | h
      · exact h
      have := hb.tr.len hb.dg ha.dg (by omega); omega
    refine Ev.congr (f := fun _ => some (-1)) (fun k => if_pos (by omega)) ?_
    unfold sgn; rw [if_pos this]; exact Ev.now _
  by_cases h2 : b.length < a.length
  · have : v < u := by
      rcases Int.lt_or_le v u with h | h
      · exact h
      have := ha.tr.len ha.dg hb.dg (by omega); omega
    refine Ev.congr (f := fun _ => some 1) (fun k => by rw [if_neg (by omega), if_pos (by omega)]) ?_
    unfold sgn; rw [if_neg (by omega), if_neg (by omega)]; exact Ev.now _
  have h := cmp_l0 a b ha.dg hb.dg hl (by omega) a.length (Nat.le_refl _)
  rw [List.take_of_length_le (Nat.le_refl _), List.take_of_length_le (by omega), e1, e2] at h
  refine Ev.congr (fun k => ?_) h
  rw [if_neg (by omega), if_neg (by omega)]
  congr 1
  unfold wrap64; omega
theorem tdm (s : Int) (h : 0 ≤ s) : Int.tmod s 10000 + 10000 * Int.tdiv s 10000 = s ∧ 0 ≤ Int.tmod s 10000 ∧ Int.tmod s 10000 < 10000 ∧ 0 ≤ Int.tdiv s 10000 := by
  rw [Int.tmod_eq_emod_of_nonneg h, Int.tdiv_eq_ediv_of_nonneg h]; omega
structure MulI (a b : List Int) (out : List Int) (j : Nat) : Prop where
  dg : Dg out
  len : out.length = a.length + b.length
  hi : ∀ q : Nat, j ≤ q → rd out (q : Int) = 0
theorem mul_alg1 (V c o p A B a p1 : Int) (ho : o = 0) (h : V + c * p = A + a * p1 * B) : V + (c - o) * p = A + p1 * a * B := by
  subst ho; rw [Int.sub_zero, h, Int.mul_comm a p1]
theorem mul_alg2 (V c o a b p p1 p2 A B s tm td : Int) (hp : p = p1 * p2) (hs : o + a * b + c = s) (ht : tm + 10000 * td = s) (h : V + c * p = A + a * p1 * B) : V + (tm - o) * p + td * (p * 10000) = A + a * p1 * (B + p2 * b) := by
  have e1 : (tm - o) * p + td * (p * 10000) = (tm + 10000 * td - o) * p := by
    rw [Int.sub_mul, Int.sub_mul, Int.add_mul]
    have : td * (p * 10000) = 10000 * td * p := by rw [Int.mul_comm p, ← Int.mul_assoc, Int.mul_comm td]
    omega
  have e2 : (s - o) * p = a * b * p + c * p := by rw [← Int.add_mul]; congr 1; omega
  have e3 : a * p1 * (B + p2 * b) = a * p1 * B + a * b * p := by
    rw [Int.mul_add, hp]; congr 1
    rw [Int.mul_assoc, Int.mul_assoc, ← Int.mul_assoc p1, Int.mul_comm (p1 * p2) b]
  rw [Int.add_assoc, e1, ht, e2, e3]
  omega
theorem mulD_next (a b out : List Int) (i j : Nat) (c s : Int) (hi : i < a.length) (hj : j < b.length) (hl : i + j < out.length) (la : a.length < 100000) (lb : b.length < 100000)
    (w : wrap64 ((i : Int) + (j : Int)) = ((i + j : Nat) : Int)) (w1 : wrap64 (rd a (i : Int) * rd b (j : Int)) = rd a (i : Int) * rd b (j : Int)) (w2 : wrap64 (rd out ((i + j : Nat) : Int) + rd a (i : Int) * rd b (j : Int)) = rd out ((i + j : Nat) : Int) + rd a (i : Int) * rd b (j : Int))
    (hs : rd out ((i + j : Nat) : Int) + rd a (i : Int) * rd b (j : Int) + c = s) (w3 : wrap64 s = s) (w4 : wrap64 (Int.tdiv s 10000) = Int.tdiv s 10000) (k : Nat) :
    rMl.l1 (k + 1) a b out (i : Int) c (j : Int) = rMl.l1 k a b (out.set (i + j) (Int.tmod s 10000)) (i : Int) (Int.tdiv s 10000) ((j + 1 : Nat) : Int) := by
  have c1 : (j : Int) < (b.length : Int) := by omega
  have c2 : (0 : Int) ≤ ((i + j : Nat) : Int) := Int.natCast_nonneg _
  have c3 : ((i + j : Nat) : Int) < (out.length : Int) := Int.ofNat_lt.2 hl
  have c4 : (0 : Int) ≤ (i : Int) := Int.natCast_nonneg _
  have c5 : (i : Int) < (a.length : Int) := Int.ofNat_lt.2 hi
  have c6 : (0 : Int) ≤ (j : Int) := Int.natCast_nonneg _
  have c7 := wrapN j (by omega)
  simp only [rMl.l1]
  rw [if_pos c1, w, if_pos c2, if_pos c3, if_pos c4, if_pos c5, if_pos c6, w1, w2, hs, w3, w4, c7, Int.toNat_natCast]
theorem mul_l1 (a b : List Int) (ha : Dg a) (hb : Dg b) (la : a.length < 100000) (lb : b.length < 100000) (i : Nat) (hi : i < a.length) :
    ∀ (m j : Nat) (out : List Int) (c : Int), j + m = b.length → MulI a b out (i + b.length) → 0 ≤ c → c < 10000 → valD out + c * 10000 ^ (i + j) = valD (a.take i) * valD b + rd a (i : Int) * 10000 ^ i * valD (b.take j) →
      ∃ out2, MulI a b out2 (i + 1 + b.length) ∧ valD out2 = valD (a.take (i + 1)) * valD b ∧ ∀ R, Ev (fun k => rMl.l0 k a b out2 ((i + 1 : Nat) : Int)) R → Ev (fun k => rMl.l1 k a b out (i : Int) c (j : Int)) R := by
  intro m
  induction m with
  | zero =>
    intro j out c h hI c0 c1 hv
    have hj : j = b.length := by omega
    subst hj
    rw [List.take_of_length_le (Nat.le_refl _)] at hv
    have HV := Az0.mk hv
    clear hv
    have hz := hI.hi (i + b.length) (Nat.le_refl _)
    have hlen : i + b.length < out.length := by rw [hI.len]; omega
    have w : wrap64 ((i : Int) + (b.length : Int)) = ((i + b.length : Nat) : Int) := by unfold wrap64; omega
    refine ⟨out.set (i + b.length) c, ⟨hI.dg.set _ ⟨c0, c1⟩, by rw [List.length_set]; exact hI.len, fun q hq => ?_⟩, ?_, fun R hR => ?_⟩
    rotate_left 2
    · refine Ev.step (f := fun k => rMl.l0 k a b (out.set (i + b.length) c) ((i + 1 : Nat) : Int)) (fun k => ?_) hR
      simp only [rMl.l1]
      rw [if_neg (by omega), w, if_pos (by omega), if_pos (by omega), wrapN i (by omega), Int.toNat_natCast]
    · rw [rd_set_far _ _ _ _ (by omega)]; exact hI.hi q (by omega)
    rw [valD_set out _ c hlen, valD_take a i hi, Int.add_mul]
    exact mul_alg1 _ _ _ _ _ _ _ _ hz HV.out
  | succ m ih =>
    intro j out c h hI c0 c1 hv
    have HV := Az0.mk hv
    clear hv
    have hj : j < b.length := by omega
    have hj2 : j + 1 + m = b.length := by omega
    have hq2 : ∀ q : Nat, i + b.length ≤ q → q ≠ i + j := fun q hq => by omega
    have hlen : i + j < out.length := by rw [hI.len]; omega
    have d1 := hI.dg.rd (i + j)
    have d2 := ha.rd i
    have d3 := hb.rd j
    have hm : 0 ≤ rd a (i : Int) * rd b (j : Int) ∧ rd a (i : Int) * rd b (j : Int) ≤ 9999 * 9999 := ⟨Int.mul_nonneg d2.1 d3.1, Int.mul_le_mul (by omega) (by omega) d3.1 (by omega)⟩
    have w : wrap64 ((i : Int) + (j : Int)) = ((i + j : Nat) : Int) := by unfold wrap64; omega
    obtain ⟨s, hs⟩ : ∃ s, rd out ((i + j : Nat) : Int) + rd a (i : Int) * rd b (j : Int) + c = s := ⟨_, rfl⟩
    have hs0 : 0 ≤ s ∧ s < 100000000 := by omega
    have w1 : wrap64 (rd a (i : Int) * rd b (j : Int)) = rd a (i : Int) * rd b (j : Int) := wsm (by unfold sm; omega)
    have w2 : wrap64 (rd out ((i + j : Nat) : Int) + rd a (i : Int) * rd b (j : Int)) = rd out ((i + j : Nat) : Int) + rd a (i : Int) * rd b (j : Int) := wsm (by unfold sm; omega)
    have w3 : wrap64 s = s := wsm (by unfold sm; omega)
    obtain ⟨t1, t2, t3, t4⟩ := tdm s hs0.1
    have t5 : Int.tdiv s 10000 < 10000 := by omega
    have w4 : wrap64 (Int.tdiv s 10000) = Int.tdiv s 10000 := wsm (by unfold sm; omega)
    have HV2 := Az0.mk (show valD (out.set (i + j) (Int.tmod s 10000)) + Int.tdiv s 10000 * 10000 ^ (i + (j + 1)) = valD (a.take i) * valD b + rd a (i : Int) * 10000 ^ i * valD (b.take (j + 1)) by
        rw [valD_set out _ _ hlen, valD_take b j hj, ← Nat.add_assoc, Int.pow_succ]
        exact mul_alg2 _ _ _ _ _ _ _ _ _ _ _ _ _ (Int.pow_add _ _ _) hs t1 HV.out)
    obtain ⟨out2, e1, e2, e3⟩ := ih (j + 1) (out.set (i + j) (Int.tmod s 10000)) (Int.tdiv s 10000) hj2 ⟨hI.dg.set _ ⟨t2, t3⟩, by rw [List.length_set]; exact hI.len, fun q hq => by rw [rd_set_far _ _ _ _ (hq2 q hq)]; exact hI.hi q hq⟩ t4 t5 HV2.out
    exact ⟨out2, e1, e2, fun R hR => Ev.step (fun k => mulD_next a b out i j c s hi hj hlen la lb w w1 w2 hs w3 w4 k) (e3 R hR)⟩
theorem mul_l0 (a b : List Int) (ha : Dg a) (hb : Dg b) (la : a.length < 100000) (lb : b.length < 100000) :
    ∀ (m i : Nat) (out : List Int), i + m = a.length → MulI a b out (i + b.length) → valD out = valD (a.take i) * valD b →
      ∃ r, Big r (valD a * valD b) ∧ r.length ≤ a.length + b.length ∧ Ev (fun k => rMl.l0 k a b out (i : Int)) r
  | 0, i, out, h, hI, hv => by
    rw [List.take_of_length_le (by omega)] at hv
    obtain ⟨r, h1, h2, h3⟩ := trim_ev hI.dg (by rw [hI.len]; omega)
    rw [hv] at h2
    rw [hI.len] at h3
    refine ⟨r, h2, h3, Ev.step (fun k => ?_) (Ev.bind h1 (Ev.now r))⟩
    simp only [rMl.l0]
    rw [if_neg (by omega)]
  | m + 1, i, out, h, hI, hv => by
    obtain ⟨out2, e1, e2, e3⟩ := mul_l1 a b ha hb la lb i (by omega) b.length 0 out 0 (by omega) hI (by omega) (by omega) (by rw [hv]; simp [valD])
    obtain ⟨r, h1, h2, h3⟩ := mul_l0 a b ha hb la lb m (i + 1) out2 (by omega) e1 e2
    refine ⟨r, h1, h2, Ev.step (fun k => ?_) (e3 r h3)⟩
    simp only [rMl.l0]
    rw [if_pos (by omega)]
    rfl
theorem Dg.zeros (n : Nat) : Dg (List.replicate n 0) := fun d hd => by
  have := List.eq_of_mem_replicate hd; omega
theorem valD_zeros : ∀ n, valD (List.replicate n 0) = 0
  | 0 => rfl
  | n + 1 => by simp only [List.replicate_succ, valD, valD_zeros n]; rfl
theorem rd_zeros (n q : Nat) : rd (List.replicate n 0) (q : Int) = 0 := by
  by_cases h : q < n
  · rw [rdB _ q (by simpa using h)]; simp
  exact rd_hi _ q (by simpa using h)
theorem mulD_ev {a b : List Int} (ha : Dg a) (hb : Dg b) (la : a.length < 100000) (lb : b.length < 100000) : ∃ r, Ev (fun k => rMl.f k a b) r ∧ Big r (valD a * valD b) ∧ r.length ≤ a.length + b.length := by
  obtain ⟨r, h1, h2, h3⟩ := mul_l0 a b ha hb la lb a.length 0 (List.replicate (a.length + b.length) 0) (by omega) ⟨Dg.zeros _, by simp, fun q _ => rd_zeros _ q⟩ (by rw [valD_zeros]; simp [valD])
  refine ⟨r, ?_, h1, h2⟩
  have w : wrap64 ((a.length : Int) + (b.length : Int)) = ((a.length + b.length : Nat) : Int) := by unfold wrap64; omega
  refine Ev.congr (fun k => ?_) h3
  unfold rMl.f
  rw [w, if_pos (by omega), Int.toNat_natCast, if_pos (by omega)]
  rfl
theorem sub_alg1 (V c p A B x y s b2 : Int) (hs : x - c - y = s) (h : V - c * p = A - B) : V + p * (s + 10000 * b2) - b2 * (p * 10000) = A + p * x - (B + p * y) := by
  have e1 : p * (s + 10000 * b2) - b2 * (p * 10000) = p * s := by
    rw [Int.mul_add, Int.mul_comm b2, Int.mul_assoc p 10000 b2]; omega
  have e2 : p * s = p * x - p * c - p * y := by rw [← hs, Int.mul_sub, Int.mul_sub]
  have e3 : c * p = p * c := Int.mul_comm _ _
  omega
theorem subD_next (a b out : List Int) (i : Nat) (c : Int) (hi : i < a.length) (la : a.length < 100000) (ho : out.length = i) (c01 : c = 0 ∨ c = 1) (da : 0 ≤ rd a (i : Int) ∧ rd a (i : Int) < 10000) (db : 0 ≤ rd b (i : Int) ∧ rd b (i : Int) < 10000) (k : Nat) :
    trishawref01_subD.l0 (k + 1) a b out c (i : Int) = if rd a (i : Int) - c - rd b (i : Int) < 0 then trishawref01_subD.l0 k a b (out ++ [rd a (i : Int) - c - rd b (i : Int) + 10000]) 1 ((i + 1 : Nat) : Int) else trishawref01_subD.l0 k a b (out ++ [rd a (i : Int) - c - rd b (i : Int)]) 0 ((i + 1 : Nat) : Int) := by
  have c1 : (i : Int) < (a.length : Int) := by omega
  have c2 : (0 : Int) ≤ (i : Int) := Int.natCast_nonneg _
  have c3 : out.length < 17592186044416 := by omega
  have c4 := wrapN i (by omega)
  have w1 : wrap64 (rd a (i : Int) - c) = rd a (i : Int) - c := wsm (by unfold sm; omega)
  simp only [trishawref01_subD.l0]
  rw [if_pos c1, if_pos c2, w1, c4]
  by_cases hb : (i : Int) < (b.length : Int)
  · have w2 : wrap64 (rd a (i : Int) - c - rd b (i : Int)) = rd a (i : Int) - c - rd b (i : Int) := wsm (by unfold sm; omega)
    have w3 : wrap64 (rd a (i : Int) - c - rd b (i : Int) + 10000) = rd a (i : Int) - c - rd b (i : Int) + 10000 := wsm (by unfold sm; omega)
    rw [if_pos hb, w2, w3, if_pos c3, if_pos c3]
  have hz : rd b (i : Int) = 0 := rd_hi b i (by omega)
  have w3 : wrap64 (rd a (i : Int) - c + 10000) = rd a (i : Int) - c + 10000 := wsm (by unfold sm; omega)
  rw [if_neg hb, hz, w3, if_pos c3, if_pos c3, Int.sub_zero]
theorem valD_take' (l : List Int) (i : Nat) : valD (l.take (i + 1)) = valD (l.take i) + 10000 ^ i * rd l (i : Int) := by
  by_cases h : i < l.length
  · exact valD_take l i h
  rw [rd_hi l i (by omega), List.take_of_length_le (by omega), List.take_of_length_le (by omega)]; simp
theorem sub_l0 (a b : List Int) (ha : Dg a) (hb : Dg b) (la : a.length < 100000) (lb : b.length ≤ a.length) (hle : valD b ≤ valD a) : ∀ (m i : Nat) (out : List Int) (c : Int), i + m = a.length → out.length = i → Dg out → (c = 0 ∨ c = 1) → valD out - c * 10000 ^ i = valD (a.take i) - valD (b.take i) →
    ∃ r, Big r (valD a - valD b) ∧ r.length ≤ a.length ∧ Ev (fun k => trishawref01_subD.l0 k a b out c (i : Int)) r
  | 0, i, out, c, h, ho, hd, hc, hv => by
    have hi : i = a.length := by omega
    rw [List.take_of_length_le (by omega), List.take_of_length_le (by omega)] at hv
    have hbd := valD_b hd
    rw [ho] at hbd
    have hc0 : c = 0 := by
      rcases hc with hc | hc
      · exact hc
      subst hc
      rw [Int.one_mul] at hv
      generalize (10000 : Int) ^ i = p at *
      omega
    subst hc0
    rw [Int.zero_mul, Int.sub_zero] at hv
    obtain ⟨r, h1, h2, h3⟩ := trim_ev hd (by omega)
    rw [hv] at h2
    refine ⟨r, h2, by omega, Ev.step (fun k => ?_) (Ev.bind h1 (Ev.now r))⟩
    simp only [trishawref01_subD.l0]
    rw [if_neg (by omega)]
  | m + 1, i, out, c, h, ho, hd, hc, hv => by
    have hi : i < a.length := by omega
    have hi2 : i + 1 + m = a.length := by omega
    have HV := Az0.mk hv
    clear hv
    have da := ha.rd i
    have db := hb.rd i
    by_cases hs : rd a (i : Int) - c - rd b (i : Int) < 0
    · have hv2 : Az0 (valD (out ++ [rd a (i : Int) - c - rd b (i : Int) + 10000]) - 1 * 10000 ^ (i + 1) = valD (a.take (i + 1)) - valD (b.take (i + 1))) := ⟨by
        rw [valD_take', valD_take', valD_append, ho, Int.pow_succ]
        simp only [valD]
        have := sub_alg1 _ c _ _ _ (rd a (i : Int)) (rd b (i : Int)) _ 1 rfl HV.out
        simpa using this⟩
      obtain ⟨r, h1, h2, h3⟩ := sub_l0 a b ha hb la lb hle m (i + 1) (out ++ [rd a (i : Int) - c - rd b (i : Int) + 10000]) 1 hi2 (by simp [ho]) (hd.append (Dg.one (by omega))) (Or.inr rfl) hv2.out
      refine ⟨r, h1, h2, Ev.step (fun k => ?_) h3⟩
      rw [subD_next a b out i c hi la ho hc da db k, if_pos hs]
    have hv2 : Az0 (valD (out ++ [rd a (i : Int) - c - rd b (i : Int)]) - 0 * 10000 ^ (i + 1) = valD (a.take (i + 1)) - valD (b.take (i + 1))) := ⟨by
      rw [valD_take', valD_take', valD_append, ho, Int.pow_succ]
      simp only [valD]
      have := sub_alg1 _ c _ _ _ (rd a (i : Int)) (rd b (i : Int)) _ 0 rfl HV.out
      simpa using this⟩
    obtain ⟨r, h1, h2, h3⟩ := sub_l0 a b ha hb la lb hle m (i + 1) (out ++ [rd a (i : Int) - c - rd b (i : Int)]) 0 hi2 (by simp [ho]) (hd.append (Dg.one (by omega))) (Or.inl rfl) hv2.out
    refine ⟨r, h1, h2, Ev.step (fun k => ?_) h3⟩
    rw [subD_next a b out i c hi la ho hc da db k, if_neg hs]
theorem subD_ev {a b : List Int} {u v : Int} (ha : Big a u) (hb : Big b v) (la : a.length < 100000) (h : v ≤ u) : ∃ r, Big r (u - v) ∧ r.length ≤ a.length ∧ Ev (fun k => trishawref01_subD.f k a b) r := by
  have e1 := ha.val
  have e2 := hb.val
  obtain ⟨r, h1, h2, h3⟩ := sub_l0 a b ha.dg hb.dg la (hb.tr.len hb.dg ha.dg (by omega)) (by omega) a.length 0 [] 0 (by omega) rfl (fun d hd => by simp at hd) (Or.inl rfl) (by simp [valD])
  rw [e1, e2] at h1
  exact ⟨r, h1, h2, h3⟩
theorem sgn_le {a b : Int} : sgn a b ≤ 0 ↔ a ≤ b := by
  unfold sgn
  split
  · omega
  split <;> omega
theorem digit_ev (x : Int) (h : 0 ≤ x ∧ x < 10000) : ∃ r, Ev (fun k => rTr.f k [x]) r ∧ Big r x ∧ r.length ≤ 1 := by
  obtain ⟨r, h1, h2, h3⟩ := trim_ev (l := [x]) (Dg.one h) (by simp)
  refine ⟨r, h1, ?_, by simpa using h3⟩
  have e : valD [x] = x := by simp [valD]
  rw [e] at h2; exact h2
theorem div_bits (a b q rem : List Int) {v R : Int} (hb : Big b v) (hv : 0 < v) (lb : b.length < 50000) (i : Nat) (hr : Big rem R) (lr : rem.length < 50000) :
    ∀ (n : Nat) (lo hi : Int), hi - lo ≤ n → 0 ≤ lo → lo ≤ hi → hi ≤ 9999 → lo * v ≤ R → R < (hi + 1) * v →
      ∃ d, 0 ≤ d ∧ d ≤ 9999 ∧ d * v ≤ R ∧ R < (d + 1) * v ∧ ∀ S, Ev (fun k => rDv.l1 k a b q rem (i : Int) d d) S → Ev (fun k => rDv.l1 k a b q rem (i : Int) lo hi) S
  | n, lo, hi, hn, h0, h1, h2, h3, h4 => by
    by_cases he : lo = hi
    · subst he
      exact ⟨lo, h0, h2, h3, h4, fun S hS => hS⟩
    have hlt : lo < hi := by omega
    match n, hn with
    | 0, hn => omega
    | n + 1, hn =>
    obtain ⟨mid, hm⟩ : ∃ mid, Int.tdiv (lo + hi + 1) 2 = mid := ⟨_, rfl⟩
    have hmv : mid = (lo + hi + 1) / 2 := by rw [← hm, Int.tdiv_eq_ediv_of_nonneg (by omega)]
    have hm1 : lo < mid := by omega
    have hm2 : mid ≤ hi := by omega
    have w1 : wrap64 (lo + hi) = lo + hi := wsm (by unfold sm; omega)
    have w2 : wrap64 (lo + hi + 1) = lo + hi + 1 := wsm (by unfold sm; omega)
    have w3 : wrap64 mid = mid := wsm (by unfold sm; omega)
    have w4 : wrap64 (mid - 1) = mid - 1 := wsm (by unfold sm; omega)
    have g1 : hi - mid ≤ n := by omega
    have g2 : mid - 1 - lo ≤ n := by omega
    have g3 : lo ≤ mid - 1 := by omega
    have g4 : mid - 1 ≤ 9999 := by omega
    have g5 : 0 ≤ mid := by omega
    have g6 : mid < 10000 := by omega
    clear hmv hn
    obtain ⟨r, t1, t2, t3⟩ := digit_ev mid ⟨g5, g6⟩
    obtain ⟨p, p1, p2, p3⟩ := mulD_ev hb.dg t2.dg (by omega) (by omega)
    rw [hb.val, t2.val] at p2
    have hc := cmpD_ev p2 hr (by omega)
    by_cases hle : v * mid ≤ R
    · have hs : sgn (v * mid) R ≤ 0 := sgn_le.2 hle
      obtain ⟨d, d1, d2, d3, d4, d5⟩ := div_bits a b q rem hb hv lb i hr lr n mid hi g1 g5 hm2 h2 (by rw [Int.mul_comm]; exact hle) h4
      refine ⟨d, d1, d2, d3, d4, fun S hS => Ev.step (f := fun k => (rTr.f k [mid]).bind fun t => (rMl.f k b t).bind fun t2 => (trishawref01_cmpD.f k t2 rem).bind fun c => if c ≤ 0 then rDv.l1 k a b q rem (i : Int) mid hi else rDv.l1 k a b q rem (i : Int) lo (mid - 1)) (fun k => ?_) (Ev.bind t1 (Ev.bind p1 (Ev.bind hc (Ev.congr (fun k => if_pos hs) (d5 S hS)))))⟩
      simp only [rDv.l1]
      rw [if_pos hlt, w1, w2, hm, w3, w4]
    have hs : ¬ sgn (v * mid) R ≤ 0 := fun e => hle (sgn_le.1 e)
    obtain ⟨d, d1, d2, d3, d4, d5⟩ := div_bits a b q rem hb hv lb i hr lr n lo (mid - 1) g2 h0 g3 g4 h3 (by rw [Int.sub_add_cancel, Int.mul_comm]; omega)
    refine ⟨d, d1, d2, d3, d4, fun S hS => Ev.step (f := fun k => (rTr.f k [mid]).bind fun t => (rMl.f k b t).bind fun t2 => (trishawref01_cmpD.f k t2 rem).bind fun c => if c ≤ 0 then rDv.l1 k a b q rem (i : Int) mid hi else rDv.l1 k a b q rem (i : Int) lo (mid - 1)) (fun k => ?_) (Ev.bind t1 (Ev.bind p1 (Ev.bind hc (Ev.congr (fun k => if_neg hs) (d5 S hS)))))⟩
    simp only [rDv.l1]
    rw [if_pos hlt, w1, w2, hm, w3, w4]
structure DivI (a q rem : List Int) (v : Int) (i : Nat) : Prop where
  dg : Dg q
  len : q.length = a.length
  low : valD (q.take i) = 0
  rem : Big rem (valD (a.drop i) - valD (q.drop i) * v)
  lt : valD (a.drop i) - valD (q.drop i) * v < v
theorem drop_snoc (l : List Int) (i : Nat) (h : i < l.length) : l.drop i = rd l (i : Int) :: l.drop (i + 1) := by
  rw [List.drop_eq_getElem_cons h, rdB l i h]
theorem div_alg (x A Q v d : Int) : x + 10000 * (A - Q * v) - d * v = x + 10000 * A - (d + 10000 * Q) * v := by
  rw [Int.add_mul, Int.mul_sub, Int.mul_assoc]; omega
theorem div_l0 (a b : List Int) {v : Int} (ha : Dg a) (hb : Big b v) (hv : 0 < v) (la : a.length < 40000) (lb : b.length < 40000) :
    ∀ (i : Nat) (q rem : List Int), i ≤ a.length → DivI a q rem v i → ∃ q2 r2, Big q2 (valD a / v) ∧ Big r2 (valD a % v) ∧ q2.length ≤ a.length ∧ Ev (fun k => rDv.l0 k a b q rem ((i : Int) - 1)) (q2, r2)
  | 0, q, rem, hi, hI => by
    have e1 := hI.rem
    have e2 := hI.lt
    simp only [List.drop_zero] at e1 e2
    have e3 := e1.nn
    obtain ⟨q2, h1, h2, h3⟩ := trim_ev hI.dg (by rw [hI.len]; omega)
    have hd : valD a / v = valD q ∧ valD a % v = valD a - valD q * v := by
      have e : valD a = (valD a - valD q * v) + v * valD q := by rw [Int.mul_comm v]; omega
      constructor
      · conv => lhs; rw [e]
        rw [Int.add_mul_ediv_left _ _ (by omega), Int.ediv_eq_zero_of_lt e3 e2]; omega
      conv => lhs; rw [e]
      rw [Int.add_mul_emod_self_left, Int.emod_eq_of_lt e3 e2]
    refine ⟨q2, rem, by rw [hd.1]; exact h2, by rw [hd.2]; exact e1, by rw [← hI.len]; exact h3, Ev.step (f := fun k => (rTr.f k q).bind fun t => some (t, rem)) (fun k => ?_) (Ev.bind h1 (Ev.now (q2, rem)))⟩
    simp only [rDv.l0]
    rw [if_neg (by omega)]
  | i + 1, q, rem, hi, hI => by
    have hi1 : i < a.length := by omega
    have hq1 : i < q.length := by rw [hI.len]; omega
    have z1 : (((i + 1 : Nat) : Int) - 1) = (i : Int) := by omega
    have z2 : (i : Int) ≥ 0 := Int.natCast_nonneg _
    have z3 : (i : Int) < (a.length : Int) := by omega
    have z4 : (i : Int) < (q.length : Int) := by omega
    have z5 : wrap64 ((i : Int) - 1) = (i : Int) - 1 := by unfold wrap64; omega
    have z6 : i ≤ a.length := by omega
    have dx := ha.rd i
    have hr := hI.rem
    have hlt := hI.lt
    have hrn := hr.nn
    have lr : rem.length ≤ b.length := hr.tr.len hr.dg hb.dg (by rw [hr.val, hb.val]; omega)
    obtain ⟨P, hP⟩ : ∃ P, valD (a.drop (i + 1)) - valD (q.drop (i + 1)) * v = P := ⟨_, rfl⟩
    rw [hP] at hr hlt hrn
    have hc : Dg ([rd a (i : Int)] ++ rem) := (Dg.one dx).append hr.dg
    obtain ⟨rm, t1, t2, t3⟩ := trim_ev hc (by simp; omega)
    have vr : valD ([rd a (i : Int)] ++ rem) = rd a (i : Int) + 10000 * P := by
      rw [valD_append, hr.val]; simp [valD]
    rw [vr] at t2
    have lrm : rm.length ≤ b.length + 1 := by
      have : ([rd a (i : Int)] ++ rem).length = rem.length + 1 := by simp [Nat.add_comm]
      omega
    have y2 : ([rd a (i : Int)] : List Int).length + rem.length < 17592186044416 := by
      have : ([rd a (i : Int)] : List Int).length = 1 := rfl
      omega
    have y3 : b.length < 100000 := by omega
    have y4 : b.length < 50000 := by omega
    have y5 : rm.length < 50000 := by omega
    have y6 : rm.length < 100000 := by omega
    have y1 : rd a (i : Int) + 10000 * P < (9999 + 1) * v := by omega
    have y0 : 0 ≤ rd a (i : Int) + 10000 * P := by omega
    obtain ⟨d, d1, d2, d3, d4, d5⟩ := div_bits a b q rm hb hv y4 i t2 y5 9999 0 9999 (by decide) (by decide) (by decide) (by decide) (by rw [Int.zero_mul]; exact y0) y1
    have d6 : d < 10000 := Int.lt_of_le_of_lt d2 (by decide)
    obtain ⟨dg, g1, g2, g3⟩ := digit_ev d ⟨d1, d6⟩
    obtain ⟨p, p1, p2, p3⟩ := mulD_ev hb.dg g2.dg y3 (Nat.lt_of_le_of_lt g3 (by decide))
    rw [hb.val, g2.val, Int.mul_comm] at p2
    obtain ⟨r3, s1, s2, s3⟩ := subD_ev t2 p2 y6 d3
    have HD : valD ((q.set i d).drop i) = d + 10000 * valD (q.drop (i + 1)) := by
      rw [drop_snoc _ i (by simpa using hq1), rd_set_same q i d hq1]
      simp only [valD]
      congr 2
      rw [List.drop_set]
      rw [if_pos (by omega)]
    have HA : valD (a.drop i) = rd a (i : Int) + 10000 * valD (a.drop (i + 1)) := by
      rw [drop_snoc _ i hi1]; rfl
    have HE : rd a (i : Int) + 10000 * P - d * v = valD (a.drop i) - valD ((q.set i d).drop i) * v := by
      rw [HA, HD, ← hP]; exact div_alg _ _ _ _ _
    have HL : valD ((q.set i d).take i) = 0 := by
      rw [List.take_set_of_le (Nat.le_refl _)]
      have h9 := hI.low
      rw [valD_take q i hq1] at h9
      have b1 := valD_b (hI.dg.take i)
      have b2 := hI.dg.rd i
      have b3 := Int.mul_nonneg (Int.le_of_lt (pow_pos' i)) b2.1
      generalize 10000 ^ i * rd q (i : Int) = z at *
      omega
    have HT : rd a (i : Int) + 10000 * P - d * v < v := by rw [Int.add_mul, Int.one_mul] at d4; omega
    obtain ⟨q2, r2, k1, k2, k3, k4⟩ := div_l0 a b ha hb hv la lb i (q.set i d) r3 z6 ⟨hI.dg.set _ ⟨d1, d6⟩, by rw [List.length_set]; exact hI.len, HL, by rw [← HE]; exact s1, by rw [← HE]; exact HT⟩
    refine ⟨q2, r2, k1, k2, k3, ?_⟩
    have G2 : Ev (fun k => rDv.l1 k a b q rm (i : Int) d d) (q2, r2) := by
      refine Ev.step (f := fun k => (rTr.f k [d]).bind fun t => (rMl.f k b t).bind fun t2 => (trishawref01_subD.f k rm t2).bind fun t3 => rDv.l0 k a b (q.set i d) t3 ((i : Int) - 1)) (fun k => ?_) (Ev.bind g1 (Ev.bind p1 (Ev.bind s3 k4)))
      simp only [rDv.l1]
      rw [if_neg (Int.lt_irrefl d), if_pos z2, if_pos z4, z5, Int.toNat_natCast]
    refine Ev.step (f := fun k => (rTr.f k ([rd a (i : Int)] ++ rem)).bind fun t => rDv.l1 k a b q t (i : Int) 0 9999) (fun k => ?_) (Ev.bind t1 (d5 _ G2))
    simp only [rDv.l0]
    rw [z1, if_pos z2, if_pos z2, if_pos z3, Option.bind_some, if_pos y2]
theorem divD_ev {a b : List Int} {u v : Int} (ha : Big a u) (hb : Big b v) (hv : 0 < v) (la : a.length < 40000) (lb : b.length < 40000) : ∃ q r, Big q (u / v) ∧ Big r (u % v) ∧ q.length ≤ a.length ∧ Ev (fun k => rDv.f k a b) (q, r) := by
  have hne := hb.ne hv
  have hl : b.length ≠ 0 := fun e => hne (List.length_eq_zero_iff.1 e)
  obtain ⟨q, r, h1, h2, h3, h4⟩ := div_l0 a b ha.dg hb hv la lb a.length (List.replicate a.length 0) [] (Nat.le_refl _) ⟨Dg.zeros _, by simp, by rw [List.take_of_length_le (by simp)]; exact valD_zeros _, by rw [List.drop_of_length_le (Nat.le_refl _), List.drop_of_length_le (by simp)]; exact ⟨fun d hd => by simp at hd, Or.inl rfl, by simp [valD]⟩, by rw [List.drop_of_length_le (Nat.le_refl _), List.drop_of_length_le (by simp)]; simp [valD]; exact hv⟩
  rw [ha.val] at h1 h2
  refine ⟨q, r, h1, h2, h3, Ev.congr (fun k => ?_) h4⟩
  unfold rDv.f
  have w : wrap64 ((a.length : Int) - 1) = (a.length : Int) - 1 := by unfold wrap64; omega
  rw [if_neg (by omega), if_pos (Int.natCast_nonneg _), Int.toNat_natCast, if_pos (by omega), w]
theorem gcd_emod_ (u v : Int) (hu : 0 ≤ u) (hv : 0 ≤ v) : Int.gcd v (u % v) = Int.gcd u v := by
  obtain ⟨a, rfl⟩ := Int.eq_ofNat_of_zero_le hu
  obtain ⟨b, rfl⟩ := Int.eq_ofNat_of_zero_le hv
  show Nat.gcd b ((a : Int) % (b : Int)).natAbs = Nat.gcd a b
  rw [← Int.natCast_emod, Int.natAbs_natCast, Nat.gcd_comm a b, Nat.gcd_comm b (a % b), ← Nat.gcd_rec]
theorem gcdD_ev : ∀ (n : Nat) (a b : List Int) (u v : Int), v ≤ n → Big a u → Big b v → a.length < 40000 → b.length < 40000 → ∃ r, Big r (Int.gcd u v : Int) ∧ r.length < 40000 ∧ Ev (fun k => trishawref01_gcdD.l0 k a b) r
  | n, a, b, u, v, hn, ha, hb, la, lb => by
    have hu := ha.nn
    have hv := hb.nn
    by_cases h0 : v = 0
    · subst h0
      have hb0 := hb.zero
      subst hb0
      refine ⟨a, ?_, la, Ev.step (f := fun _ => some a) (fun k => ?_) (Ev.now _)⟩
      · have e : (Int.gcd u 0 : Int) = u := by rw [Int.gcd_zero_right]; omega
        rw [e]; exact ha
      simp only [trishawref01_gcdD.l0]
      rw [if_neg (by simp)]
    match n, hn with
    | 0, hn => omega
    | n + 1, hn =>
      have hv1 : 0 < v := by omega
      obtain ⟨q, r, h1, h2, h3, h4⟩ := divD_ev ha hb hv1 la lb
      have hm := Int.emod_lt_of_pos u hv1
      have lr : r.length < 40000 := Nat.lt_of_le_of_lt (h2.tr.len h2.dg hb.dg (by rw [h2.val, hb.val]; exact Int.le_of_lt hm)) lb
      have hm2 : u % v ≤ n := by omega
      obtain ⟨g, g1, g2, g3⟩ := gcdD_ev n b r v (u % v) hm2 hb h2 lb lr
      have e : (Int.gcd v (u % v) : Int) = (Int.gcd u v : Int) := by
        exact congrArg _ (gcd_emod_ u v hu hv)
      rw [e] at g1
      have hl : b.length ≠ 0 := fun e => hb.ne hv1 (List.length_eq_zero_iff.1 e)
      have hl2 : (b.length : Int) > 0 := by omega
      refine ⟨g, g1, g2, Ev.step (f := fun k => (rDv.f k a b).bind fun t => trishawref01_gcdD.l0 k b t.2) (fun k => ?_) (Ev.bind h4 g3)⟩
      simp only [trishawref01_gcdD.l0]
      rw [if_pos hl2]
theorem of_l0 : ∀ (n : Nat) (x : Int) (acc : List Int) (V : Int), 0 ≤ x → x < 2 ^ 62 → x < 2 ^ n → acc.length + n < 1000 → Dg acc → valD acc + 10000 ^ acc.length * x = V → ∃ r, Big r V ∧ r.length < 1000 ∧ Ev (fun k => trishawref01_Of.l0 k x acc false) (false, r)
  | n, x, acc, V, h0, h62, hn, hl, hd, hv => by
    by_cases hx : x = 0
    · subst hx
      rw [Int.mul_zero, Int.add_zero] at hv
      have hl2 : acc.length < 1000000 := by omega
      obtain ⟨r, h1, h2, h3⟩ := whole_ev hd hl2
      rw [hv] at h2
      refine ⟨r, h2, by omega, Ev.step (f := fun k => (rWh.f k false acc).bind fun t => some (t.1, t.2)) (fun k => ?_) (Ev.bind h1 (Ev.now _))⟩
      simp only [trishawref01_Of.l0]
      rw [if_pos trivial]
    match n, hn with
    | 0, hn => omega
    | n + 1, hn =>
      have HV := Az0.mk hv
      clear hv
      obtain ⟨t1, t2, t3, t4⟩ := tdm x h0
      have q1 : Int.tdiv x 10000 < 2 ^ 62 := by omega
      have q2 : Int.tdiv x 10000 < 2 ^ n := by
        have : (2 : Int) ^ (n + 1) = 2 ^ n * 2 := Int.pow_succ _ _
        omega
      have w : wrap64 (Int.tdiv x 10000) = Int.tdiv x 10000 := wsm (by unfold sm; omega)
      have hl2 : (acc ++ [Int.tmod x 10000]).length + n < 1000 := by simp; omega
      have hl3 : acc.length < 17592186044416 := by omega
      have ht : ¬ Int.tmod x 10000 < 0 := by omega
      have hv2 : Az0 (valD (acc ++ [Int.tmod x 10000]) + 10000 ^ (acc ++ [Int.tmod x 10000]).length * Int.tdiv x 10000 = V) := ⟨by
        rw [← HV.out, valD_append, List.length_append]
        simp only [valD, List.length_cons, List.length_nil, Int.mul_zero, Int.add_zero, Int.pow_succ, Nat.zero_add]
        rw [Int.mul_assoc, Int.add_assoc, ← Int.mul_add, t1]⟩
      obtain ⟨r, h1, h2, h3⟩ := of_l0 n (Int.tdiv x 10000) (acc ++ [Int.tmod x 10000]) V t4 q1 q2 hl2 (hd.append (Dg.one ⟨t2, t3⟩)) hv2.out
      refine ⟨r, h1, h2, Ev.step (f := fun k => trishawref01_Of.l0 k (Int.tdiv x 10000) (acc ++ [Int.tmod x 10000]) false) (fun k => ?_) h3⟩
      simp only [trishawref01_Of.l0]
      rw [if_neg hx, if_neg ht, if_pos hl3, w]
theorem of_ev' {x : Int} (h0 : 0 ≤ x) (h1 : x < 2 ^ 62) : ∃ r, Big r x ∧ r.length < 1000 ∧ Ev (fun k => trishawref01_Of.f k x) (false, r) := by
  obtain ⟨r, h1, h2, h3⟩ := of_l0 62 x [] x h0 h1 h1 (by simp) (fun d hd => by simp at hd) (by simp [valD])
  refine ⟨r, h1, h2, Ev.congr (fun k => ?_) h3⟩
  unfold trishawref01_Of.f
  rw [decide_eq_false (by omega)]
theorem times_ev {a b : List Int} {u v : Int} (ha : Big a u) (hb : Big b v) (la : a.length < 10000) (lb : b.length < 10000) : ∃ r, Big r (u * v) ∧ r.length ≤ a.length + b.length ∧ Ev (fun k => trishawref01_Times.f k false a false b) (false, r) := by
  obtain ⟨p, p1, p2, p3⟩ := mulD_ev ha.dg hb.dg (by omega) (by omega)
  rw [ha.val, hb.val] at p2
  obtain ⟨r, h1, h2, h3⟩ := whole_ev p2.dg (by omega)
  rw [p2.val] at h2
  refine ⟨r, h2, by omega, ?_⟩
  unfold trishawref01_Times.f
  exact Ev.bind p1 (Ev.bind (f := fun _ (t : Bool × List Int) => some (t.1, t.2)) h1 (Ev.now _))
theorem over_ev {a b : List Int} {u v : Int} (ha : Big a u) (hb : Big b v) (hv : 0 < v) (la : a.length < 40000) (lb : b.length < 40000) : ∃ q r : List Int, Big q (u / v) ∧ q.length ≤ a.length ∧ Ev (fun k => trishawref01_Over.f k false a false b) (false, q, false, r) := by
  obtain ⟨q, r, h1, h2, h3, h4⟩ := divD_ev ha hb hv la lb
  have hm := Int.emod_lt_of_pos u hv
  have lr : r.length < 40000 := Nat.lt_of_le_of_lt (h2.tr.len h2.dg hb.dg (by rw [h2.val, hb.val]; exact Int.le_of_lt hm)) lb
  obtain ⟨q2, k1, k2, k3⟩ := whole_ev h1.dg (by omega)
  obtain ⟨r2, m1, m2, m3⟩ := whole_ev h2.dg (by omega)
  rw [h1.val] at k2
  refine ⟨q2, r2, k2, by omega, ?_⟩
  unfold trishawref01_Over.f
  refine Ev.bind h4 (Ev.congr (fun k => if_neg (by simp)) (Ev.bind k1 (Ev.bind (f := fun _ (t : Bool × List Int) => some (false, q2, t.1, t.2)) m1 (Ev.now _))))
/-- A fraction of two numbers, told up to a common factor. -/
structure Fr (n d : List Int) (u v : Int) : Prop where
  ex : ∃ c N D : Int, 0 < c ∧ u = c * N ∧ v = c * D ∧ Big n N ∧ Big d D ∧ 0 < D
theorem lowest_ev' {n d : List Int} {u v : Int} (hn : Big n u) (hd : Big d v) (hv : 0 < v) (ln : n.length < 40000) (ld : d.length < 40000) : ∃ a b : List Int, Fr a b u v ∧ a.length ≤ n.length ∧ b.length ≤ d.length ∧ Ev (fun k => rLo.f k false n false d) (false, a, false, b) := by
  have hu := hn.nn
  obtain ⟨g, g1, g2, g3⟩ := gcdD_ev v.toNat n d u v (by omega) hn hd ln ld
  obtain ⟨w, w1, w2, w3⟩ := whole_ev g1.dg (by omega)
  rw [g1.val] at w2
  have hg : 0 < (Int.gcd u v : Int) := by
    have : 0 < Int.gcd u v := Nat.gcd_pos_of_pos_right _ (by omega)
    omega
  have lw : w.length < 40000 := by omega
  obtain ⟨a, r1, a1, a2, a3⟩ := over_ev hn w2 hg ln lw
  obtain ⟨b, r2, b1, b2, b3⟩ := over_ev hd w2 hg ld lw
  have e1 : u = (Int.gcd u v : Int) * (u / (Int.gcd u v : Int)) := (Int.mul_ediv_cancel' (Int.gcd_dvd_left ..)).symm
  have e2 : v = (Int.gcd u v : Int) * (v / (Int.gcd u v : Int)) := (Int.mul_ediv_cancel' (Int.gcd_dvd_right ..)).symm
  refine ⟨a, b, ⟨(Int.gcd u v : Int), _, _, hg, e1, e2, a1, b1, ?_⟩, a2, b2, ?_⟩
  · rcases Int.lt_or_le 0 (v / (Int.gcd u v : Int)) with h | h
    · exact h
    have := Int.mul_le_mul_of_nonneg_left h (Int.le_of_lt hg)
    rw [← e2, Int.mul_zero] at this; omega
  refine Ev.congr (f := fun k => rLo.t k false n d) (fun k => ?_) ?_
  · unfold rLo.f
    rw [if_neg (by simp)]
  unfold rLo.t
  exact Ev.bind (a := g) g3 (Ev.bind w1 (Ev.bind a3 (Ev.bind (f := fun _ (y : Bool × List Int × Bool × List Int) => some (false, a, y.1, y.2.1)) b3 (Ev.now _))))
theorem compare_ev {a b : List Int} {u v : Int} (ha : Big a u) (hb : Big b v) (la : a.length < 1000000) : Ev (fun k => trishawref01_Compare.f k false a false b) (sgn u v) := by
  unfold trishawref01_Compare.f
  refine Ev.congr (f := fun k => (trishawref01_cmpD.f k a b).bind fun t => some t) (fun k => ?_) (Ev.bind (cmpD_ev ha hb la) (Ev.now _))
  rw [if_neg (by simp)]
  congr 1
theorem sgn_pos {a b c : Int} (hc : 0 < c) : sgn (c * a) (c * b) = sgn a b := by
  unfold sgn
  rcases Int.lt_trichotomy a b with h | h | h
  · rw [if_pos (Int.mul_lt_mul_of_pos_left h hc), if_pos h]
  · subst h; rw [if_neg (Int.lt_irrefl _), if_pos rfl, if_neg (Int.lt_irrefl _), if_pos rfl]
  have := Int.mul_lt_mul_of_pos_left h hc
  rw [if_neg (by omega), if_neg (by omega), if_neg (by omega), if_neg (by omega)]
theorem cross_alg (c N c2 D2 : Int) : (c * N) * (c2 * D2) = (c * c2) * (N * D2) := by
  rw [Int.mul_assoc c c2, Int.mul_left_comm c2 N D2, ← Int.mul_assoc c N]
theorem cmp_ev {a b a2 b2 : List Int} {u v u2 v2 : Int} (h : Fr a b u v) (h2 : Fr a2 b2 u2 v2) (la : a.length < 5000) (lb : b.length < 5000) (la2 : a2.length < 5000) (lb2 : b2.length < 5000) : Ev (fun k => trishawref01_Cmp.f k false a false b false a2 false b2) (sgn (u * v2) (u2 * v)) := by
  obtain ⟨c, N, D, c0, e1, e2, k1, k2, D0⟩ := h
  obtain ⟨c', N', D', c0', e1', e2', k1', k2', D0'⟩ := h2
  obtain ⟨p, p1, p2, p3⟩ := times_ev k1 k2' (by omega) (by omega)
  obtain ⟨q, q1, q2, q3⟩ := times_ev k1' k2 (by omega) (by omega)
  have hc := compare_ev p1 q1 (by omega)
  have e : sgn (u * v2) (u2 * v) = sgn (N * D') (N' * D) := by
    rw [e1, e2, e1', e2', cross_alg, cross_alg c' N' c D, Int.mul_comm c' c]
    exact sgn_pos (Int.mul_pos c0 c0')
  rw [e]
  unfold trishawref01_Cmp.f
  exact Ev.bind p3 (Ev.bind q3 (Ev.bind (f := fun _ t => some t) hc (Ev.now _)))
theorem mulq_ev {a b a2 b2 : List Int} {u v u2 v2 : Int} (h : Fr a b u v) (h2 : Fr a2 b2 u2 v2) (la : a.length < 2000) (lb : b.length < 2000) (la2 : a2.length < 2000) (lb2 : b2.length < 2000) : ∃ n d m e : List Int, Fr n d (u * u2) (v * v2) ∧ n.length < 4000 ∧ d.length < 4000 ∧ Ev (fun k => trishawref01_Times.f k false a false a2) (false, m) ∧ Ev (fun k => trishawref01_Times.f k false b false b2) (false, e) ∧ Ev (fun k => rLo.f k false m false e) (false, n, false, d) := by
  obtain ⟨c, N, D, c0, e1, e2, k1, k2, D0⟩ := h
  obtain ⟨c', N', D', c0', e1', e2', k1', k2', D0'⟩ := h2
  obtain ⟨p, p1, p2, p3⟩ := times_ev k1 k1' (by omega) (by omega)
  obtain ⟨q, q1, q2, q3⟩ := times_ev k2 k2' (by omega) (by omega)
  obtain ⟨n, d, f1, f2, f3, f4⟩ := lowest_ev' p1 q1 (Int.mul_pos D0 D0') (by omega) (by omega)
  obtain ⟨x, X, Y, x0, y1, y2, y3, y4, y5⟩ := f1
  refine ⟨n, d, p, q, ⟨c * c' * x, X, Y, Int.mul_pos (Int.mul_pos c0 c0') x0, ?_, ?_, y3, y4, y5⟩, by omega, by omega, p3, q3, f4⟩
  · rw [e1, e1', cross_alg, y1, Int.mul_assoc (c * c')]
  rw [e2, e2', cross_alg, y2, Int.mul_assoc (c * c')]
theorem frac_ev {n d : Int} (hn : 0 ≤ n) (hn2 : n < 2 ^ 62) (hd : 0 < d) (hd2 : d < 2 ^ 62) : ∃ a b p q : List Int, Fr a b n d ∧ a.length < 1000 ∧ b.length < 1000 ∧ Ev (fun k => trishawref01_Of.f k n) (false, p) ∧ Ev (fun k => trishawref01_Of.f k d) (false, q) ∧ Ev (fun k => rLo.f k false p false q) (false, a, false, b) := by
  obtain ⟨p, p1, p2, p3⟩ := of_ev' hn hn2
  obtain ⟨q, q1, q2, q3⟩ := of_ev' (Int.le_of_lt hd) hd2
  obtain ⟨a, b, f1, f2, f3, f4⟩ := lowest_ev' p1 q1 hd (by omega) (by omega)
  exact ⟨a, b, p, q, f1, by omega, by omega, p3, q3, f4⟩
theorem fromRatio_ev {n d : Int} (hn : 0 ≤ n) (hn2 : n < 2 ^ 62) (hd : 0 < d) (hd2 : d < 2 ^ 62) : ∃ a b : List Int, Fr a b n d ∧ a.length < 1000 ∧ b.length < 1000 ∧ Ev (fun k => trishawref01_Frac.f k n d) (false, a, false, b) ∧ Ev (fun k => trishawref01_FromRatio.f k n d) (false, a, false, b) := by
  obtain ⟨a, b, p, q, h1, h2, h3, h4, h5, h6⟩ := frac_ev hn hn2 hd hd2
  have hf : Ev (fun k => trishawref01_Frac.f k n d) (false, a, false, b) := by
    unfold trishawref01_Frac.f
    exact Ev.bind h4 (Ev.bind h5 (Ev.bind (f := fun _ (t : Bool × List Int × Bool × List Int) => some (t.1, t.2.1, t.2.2.1, t.2.2.2)) h6 (Ev.now _)))
  refine ⟨a, b, h1, h2, h3, hf, ?_⟩
  unfold trishawref01_FromRatio.f
  exact Ev.bind (f := fun _ (t : Bool × List Int × Bool × List Int) => some (t.1, t.2.1, t.2.2.1, t.2.2.2)) hf (Ev.now _)
theorem mul_ev {a b a2 b2 : List Int} {u v u2 v2 : Int} (h : Fr a b u v) (h2 : Fr a2 b2 u2 v2) (la : a.length < 2000) (lb : b.length < 2000) (la2 : a2.length < 2000) (lb2 : b2.length < 2000) : ∃ n d : List Int, Fr n d (u * u2) (v * v2) ∧ n.length < 4000 ∧ d.length < 4000 ∧ Ev (fun k => trishawref01_Mul.f k false a false b false a2 false b2) (false, n, false, d) := by
  obtain ⟨n, d, m, e, f1, f2, f3, f4, f5, f6⟩ := mulq_ev h h2 la lb la2 lb2
  refine ⟨n, d, f1, f2, f3, ?_⟩
  unfold trishawref01_Mul.f
  exact Ev.bind f4 (Ev.bind f5 (Ev.bind (f := fun _ (t : Bool × List Int × Bool × List Int) => some (t.1, t.2.1, t.2.2.1, t.2.2.2)) f6 (Ev.now _)))
/-- less compares as_ it should. -/
theorem less_ev {a b c d m k : Int} (ha : 0 ≤ a) (ha2 : a < 2 ^ 62) (hb : 0 < b) (hb2 : b < 2 ^ 62) (hc : 0 ≤ c) (hc2 : c < 2 ^ 62) (hd : 0 < d) (hd2 : d < 2 ^ 62) (hm : 0 ≤ m) (hm2 : m < 100) (hk : 0 ≤ k) (hk2 : k < 100) :
    Ev (fun q => lLe_.f q a b m c d k) (decide (a * m * d < c * k * b)) := by
  obtain ⟨a1, b1, x1, x2, x3, x4, x5⟩ := fromRatio_ev ha ha2 hb hb2
  obtain ⟨a2, b2, y1, y2, y3, y4, y5⟩ := fromRatio_ev hm (by omega) (show (0 : Int) < 1 by decide) (by decide)
  obtain ⟨a3, b3, z1, z2, z3, z4, z5⟩ := fromRatio_ev hc hc2 hd hd2
  obtain ⟨a4, b4, w1, w2, w3, w4, w5⟩ := fromRatio_ev hk (by omega) (show (0 : Int) < 1 by decide) (by decide)
  obtain ⟨n, e, p1, p2, p3, p4⟩ := mul_ev x1 y1 (by omega) (by omega) (by omega) (by omega)
  obtain ⟨n2, e2, q1, q2, q3, q4⟩ := mul_ev z1 w1 (by omega) (by omega) (by omega) (by omega)
  have hcmp := cmp_ev p1 q1 (by omega) (by omega) (by omega) (by omega)
  have hs : decide (sgn (a * m * (d * 1)) (c * k * (b * 1)) < 0) = decide (a * m * d < c * k * b) := by
    rw [Int.mul_one, Int.mul_one]
    refine decide_eq_decide.2 ?_
    unfold sgn
    split
    · rename_i h; exact ⟨fun _ => h, fun _ => by decide⟩
    rename_i h
    split
    · exact ⟨fun h2 => absurd h2 (by decide), fun h2 => absurd h2 h⟩
    exact ⟨fun h2 => absurd h2 (by decide), fun h2 => absurd h2 h⟩
  rw [← hs]
  unfold lLe_.f
  exact Ev.bind x5 (Ev.bind y4 (Ev.bind p4 (Ev.bind z5 (Ev.bind w4 (Ev.bind q4 (Ev.bind (f := fun _ (t : Int) => some (decide (t < 0))) hcmp (Ev.now _)))))))
end Go.Proofs.Ytjgbdicbdlollaa.B
namespace Go.Proofs.Ytjgbdicbdlollaa.B
open Go.RowKit Go.Sort Go.Proofs.YtjgbdicbdlollaaW.PrintWords Go.Proofs.YtjgbdicbdlollaaW.PrintLast Go.Proofs.YtjgbdicbdlollaaW.PrintMore
set_option linter.unusedVariables false
set_option linter.unusedSimpArgs false
set_option linter.unusedSectionVars false
abbrev LA (l : List S36) : Nat → Int := fun i => (rdT_ l (i : Int)).f0
abbrev LB (l : List S36) : Nat → Int := fun i => (rdT_ l (i : Int)).f1
abbrev LX (X : List Int) : Nat → Int := fun i => rd X (i : Int)
theorem takeT_snoc (l : List S36) (i : Nat) (h : i < l.length) : l.take (i + 1) = l.take i ++ [rdT_ l (i : Int)] := by
  rw [List.take_add_one, List.getElem?_eq_getElem h]
  simp [rdT_, List.getD, List.getElem?_eq_getElem h]
theorem sI_sumL (f : S36 → Int) (l : List S36) : ∀ i, i ≤ l.length → sI i (fun i => f (rdT_ l (i : Int))) = sumL f (l.take i)
  | 0, _ => by simp [sI, sumL]
  | i + 1, h => by
    rw [takeT_snoc l i (by omega), sumL_append, sI, sI_sumL f l i (by omega)]
    simp [sumL]
theorem sI_sumL' (f : S36 → Int) (l : List S36) : sI l.length (fun i => f (rdT_ l (i : Int))) = sumL f l := by
  rw [sI_sumL f l _ (Nat.le_refl _), List.take_of_length_le (Nat.le_refl _)]
theorem delS_sI (l : List S36) (X : List Int) (D : Int) : ∀ (m i : Nat) (s : Int), delS l X D m i s + sI i (dT (LA l) (LB l) (LX X) D) = s + sI (i + m) (dT (LA l) (LB l) (LX X) D)
  | 0, i, s => by simp [delS]
  | m + 1, i, s => by
    have ih := delS_sI l X D m (i + 1) (s + rd X (i : Int) * ((rdT_ l (i : Int)).f0 * D + (rdT_ l (i : Int)).f1 * rd X (i : Int)))
    simp only [delS]
    rw [show i + (m + 1) = i + 1 + m by omega]
    have e : sI (i + 1) (dT (LA l) (LB l) (LX X) D) = sI i (dT (LA l) (LB l) (LX X) D) + rd X (i : Int) * ((rdT_ l (i : Int)).f0 * D + (rdT_ l (i : Int)).f1 * rd X (i : Int)) := rfl
    omega
theorem delS_eq (l : List S36) (X : List Int) (D : Int) : delS l X D l.length 0 0 = sI l.length (dT (LA l) (LB l) (LX X) D) := by
  have := delS_sI l X D l.length 0 0
  simp only [sI, Nat.zero_add] at this
  omega
theorem gl_dvd : ∀ (l : List Int) (d : Int), gl l d ∣ d ∧ ∀ x ∈ l, gl l d ∣ x
  | [], d => ⟨Int.dvd_refl d, fun x hx => by simp at hx⟩
  | n :: l, d => by
    obtain ⟨h1, h2⟩ := gl_dvd l (Int.gcd d n : Int)
    refine ⟨Int.dvd_trans h1 (Int.gcd_dvd_left ..), fun x hx => ?_⟩
    rcases List.mem_cons.1 hx with rfl | hx
    · exact Int.dvd_trans h1 (Int.gcd_dvd_right ..)
    exact h2 x hx
theorem gl_pos' : ∀ (l : List Int) (d : Int), 0 < d → 0 < gl l d ∧ gl l d ≤ d
  | [], d, h => ⟨h, Int.le_refl _⟩
  | n :: l, d, h => by
    have h1 : 0 < (Int.gcd d n : Int) := by
      have : 0 < Int.gcd d n := Nat.gcd_pos_of_pos_left _ (by omega)
      omega
    obtain ⟨h2, h3⟩ := gl_pos' l _ h1
    exact ⟨h2, Int.le_trans h3 (Int.le_of_dvd h (Int.gcd_dvd_left ..))⟩
theorem rd_map_lt (f : Int → Int) (l : List Int) (i : Nat) (h : i < l.length) : rd (l.map f) (i : Int) = f (rd l (i : Int)) := by
  simp [rd, List.getD, List.getElem?_eq_getElem h]
theorem rd_ext {X Y : List Int} (hl : X.length = Y.length) (h : ∀ i : Nat, i < X.length → rd X (i : Int) = rd Y (i : Int)) : X = Y := by
  refine List.ext_getElem hl fun i h1 h2 => ?_
  have := h i h1
  simpa [rd, List.getD, List.getElem?_eq_getElem h1, List.getElem?_eq_getElem h2] using this
theorem parts_red (nums : List Int) (den : Int) (h0 : 0 < den) :
    0 < gl nums den ∧ den = gl nums den * (partsR nums den (gl nums den)).2 ∧ (∀ i : Nat, i < nums.length → rd nums (i : Int) = gl nums den * rd (partsR nums den (gl nums den)).1 (i : Int)) ∧ (partsR nums den (gl nums den)).1.length = nums.length ∧ gl (partsR nums den (gl nums den)).1 (partsR nums den (gl nums den)).2 = 1 ∧ 0 < (partsR nums den (gl nums den)).2 ∧ (partsR nums den (gl nums den)).2 ≤ den := by
  obtain ⟨g0, g1⟩ := gl_pos' nums den h0
  obtain ⟨d1, d2⟩ := gl_dvd nums den
  obtain ⟨G, hG⟩ : ∃ G, gl nums den = G := ⟨_, rfl⟩
  rw [hG] at g0 g1 d1 d2 ⊢
  have e1 : den = G * (partsR nums den G).2 := (Int.mul_tdiv_cancel' d1).symm
  have e2 : ∀ i : Nat, i < nums.length → rd nums (i : Int) = G * rd (partsR nums den G).1 (i : Int) := fun i hi => by
    show _ = G * rd (nums.map fun n => Int.tdiv n G) (i : Int)
    rw [rd_map_lt (fun n => Int.tdiv n G) nums i hi, Int.mul_tdiv_cancel' (d2 _ (rd_mem2 nums i hi))]
  have e3 : (partsR nums den G).1.length = nums.length := by simp [partsR]
  have e4 : nums = (partsR nums den G).1.map fun x => G * x := by
    refine rd_ext (by simp [e3]) fun i hi => ?_
    rw [rd_map_lt (fun x => G * x) _ i (by omega)]
    exact e2 i hi
  have e5 := gl_scale g0 (partsR nums den G).1 (partsR nums den G).2
  rw [← e4, ← e1, hG] at e5
  have e6 : gl (partsR nums den G).1 (partsR nums den G).2 = 1 := by
    have : G * 1 = G * gl (partsR nums den G).1 (partsR nums den G).2 := by rw [Int.mul_one]; exact e5
    exact (Int.eq_of_mul_eq_mul_left (by omega) this).symm
  have e7 : 0 < (partsR nums den G).2 := by
    rcases Int.lt_or_le 0 (partsR nums den G).2 with h | h
    · exact h
    have := Int.mul_le_mul_of_nonneg_left h (Int.le_of_lt g0)
    rw [← e1, Int.mul_zero] at this; omega
  refine ⟨g0, e1, e2, e3, e6, e7, ?_⟩
  have := Int.mul_le_mul_of_nonneg_right (show 1 ≤ G by omega) (Int.le_of_lt e7)
  omega
theorem low_uniq {X Y : List Int} {D E : Int} (hl : X.length = Y.length) (hD : 0 < D) (hE : 0 < E) (gX : gl X D = 1) (gY : gl Y E = 1) (h : ∀ i : Nat, i < X.length → rd Y (i : Int) * D = rd X (i : Int) * E) : D = E ∧ X = Y := by
  have e1 := gl_scale hE X D
  have e2 := gl_scale hD Y E
  have e3 : (X.map fun x => E * x) = Y.map fun x => D * x := by
    refine rd_ext (by simp [hl]) fun i hi => ?_
    have hi2 : i < X.length := by simpa using hi
    rw [rd_map_lt (fun x => E * x) X i hi2, rd_map_lt (fun x => D * x) Y i (by omega), Int.mul_comm E, Int.mul_comm D]
    exact (h i hi2).symm
  rw [e3, Int.mul_comm E D, e2, gX, gY, Int.mul_one, Int.mul_one] at e1
  refine ⟨e1, rd_ext hl fun i hi => ?_⟩
  have := h i hi
  rw [e1] at this
  exact (Int.eq_of_mul_eq_mul_right (by omega) this).symm
theorem ratR_red (a b : Int) (hb : 0 < b) : ∃ g, 0 < g ∧ a = g * (ratR a b).1 ∧ b = g * (ratR a b).2 ∧ 0 < (ratR a b).2 := by
  have hg := gcd_posr (a := a) hb
  refine ⟨(Int.gcd a b : Int), hg, (Int.mul_tdiv_cancel' (Int.gcd_dvd_left ..)).symm, (Int.mul_tdiv_cancel' (Int.gcd_dvd_right ..)).symm, ?_⟩
  have e : b = (Int.gcd a b : Int) * (ratR a b).2 := (Int.mul_tdiv_cancel' (Int.gcd_dvd_right ..)).symm
  rcases Int.lt_or_le 0 (ratR a b).2 with h | h
  · exact h
  have := Int.mul_le_mul_of_nonneg_left h (Int.le_of_lt hg)
  rw [← e, Int.mul_zero] at this; omega
theorem ratR_b {a b : Int} (ha : 0 ≤ a) (hb : 0 < b) : 0 ≤ (ratR a b).1 ∧ (ratR a b).1 ≤ a ∧ 0 < (ratR a b).2 ∧ (ratR a b).2 ≤ b := by
  obtain ⟨g, g0, e1, e2, e3⟩ := ratR_red a b hb
  have h1 : 0 ≤ (ratR a b).1 := by
    rcases Int.lt_or_le (ratR a b).1 0 with h | h
    · have := Int.mul_neg_of_pos_of_neg g0 h; omega
    exact h
  have h2 := Int.mul_le_mul_of_nonneg_right (show 1 ≤ g by omega) h1
  have h3 := Int.mul_le_mul_of_nonneg_right (show 1 ≤ g by omega) (Int.le_of_lt e3)
  omega
theorem ratR_scale {c : Int} (hc : 0 < c) (a b : Int) : ratR (c * a) (c * b) = ratR a b := by
  unfold ratR
  have e : (Int.gcd (c * a) (c * b) : Int) = c * (Int.gcd a b : Int) := by
    rw [Int.gcd_mul_left, Int.natCast_mul]; congr 1; omega
  rw [e, Int.mul_tdiv_mul_of_pos _ _ hc, Int.mul_tdiv_mul_of_pos _ _ hc]
theorem ratR_eq {a b c e : Int} (hb : 0 < b) (he : 0 < e) (h : a * e = c * b) : ratR a b = ratR c e := by
  rw [← ratR_scale he a b, ← ratR_scale hb c e, Int.mul_comm e a, Int.mul_comm e b, Int.mul_comm b c, h]
theorem ratR_inj {a b c e : Int} (hb : 0 < b) (he : 0 < e) (h : ratR a b = ratR c e) : a * e = c * b := by
  obtain ⟨g, g0, e1, e2, e3⟩ := ratR_red a b hb
  obtain ⟨g', g0', e1', e2', e3'⟩ := ratR_red c e he
  rw [h] at e1 e2
  generalize (ratR c e).1 = x at e1 e1'
  generalize (ratR c e).2 = y at e2 e2'
  clear h
  subst e1 e2 e1' e2'
  rw [Int.mul_assoc g, Int.mul_left_comm x, Int.mul_assoc g', Int.mul_left_comm x g y, Int.mul_left_comm g' g]
theorem ratR_lt {a b c e m k : Int} (hb : 0 < b) (he : 0 < e) : ((ratR a b).1 * m * (ratR c e).2 < (ratR c e).1 * k * (ratR a b).2) ↔ a * m * e < c * k * b := by
  obtain ⟨g, g0, e1, e2, e3⟩ := ratR_red a b hb
  obtain ⟨g', g0', e1', e2', e3'⟩ := ratR_red c e he
  have h1 : a * m * e = (g * g') * ((ratR a b).1 * m * (ratR c e).2) := by
    conv => lhs; rw [e1, e2']
    generalize (ratR a b).1 = x; generalize (ratR c e).2 = y
    grind
  have h2 : c * k * b = (g * g') * ((ratR c e).1 * k * (ratR a b).2) := by
    conv => lhs; rw [e1', e2]
    generalize (ratR c e).1 = x; generalize (ratR a b).2 = y
    grind
  rw [h1, h2]
  exact ⟨fun h => Int.mul_lt_mul_of_pos_left h (Int.mul_pos g0 g0'), fun h => Int.lt_of_mul_lt_mul_left h (Int.le_of_lt (Int.mul_pos g0 g0'))⟩
theorem flow_red {n : Nat} {t : Int} {A B a b : Nat → Int} {D E T g : Int} (hg : 0 < g) (hab : ∀ i, i < n → a i = g * b i) (hD : D = g * E) (f : Flow n a D) (h : BalT n t A B a D T) : Flow n b E ∧ ∃ S, T = g * S ∧ BalT n t A B b E S := by
  have hE : 0 < E := by
    have := f.pos
    rcases Int.lt_or_le 0 E with h | h
    · exact h
    have := Int.mul_le_mul_of_nonneg_left h (Int.le_of_lt hg)
    rw [← hD, Int.mul_zero] at this; omega
  have hb : ∀ i, i < n → 0 ≤ b i := fun i hi => by
    have h1 := f.nn i hi
    rw [hab i hi] at h1
    rcases Int.lt_or_le (b i) 0 with h | h
    · have := Int.mul_neg_of_pos_of_neg hg h; omega
    exact h
  have hs : sI n b = E := by
    have h1 := f.sum
    rw [sI_congr n (G := fun i => g * b i) (fun i hi => hab i hi), sI_mul, hD] at h1
    exact Int.eq_of_mul_eq_mul_left (by omega) h1
  refine ⟨⟨hE, hb, hs⟩, ?_⟩
  have hex : ∃ i, i < n ∧ 0 < b i := by
    apply Classical.byContradiction
    intro hno
    have : sI n b = sI n (fun _ => 0 * 0) := sI_congr n fun i hi => by
      have := hb i hi
      have : ¬ 0 < b i := fun h => hno ⟨i, hi, h⟩
      omega
    rw [sI_mul, hs] at this
    omega
  obtain ⟨j, hj, hbj⟩ := hex
  have haj : 0 < a j := by rw [hab j hj]; exact Int.mul_pos hg hbj
  have hT := (h j hj).1 haj
  refine ⟨A j * E + t * (B j * b j), by rw [← hT, hab j hj, hD]; grind, fun i hi => ⟨fun hbi => ?_, fun hbi => ?_⟩⟩
  · have hai : 0 < a i := by rw [hab i hi]; exact Int.mul_pos hg hbi
    have h1 := (h i hi).1 hai
    rw [← hT, hab j hj, hD, hab i hi] at h1
    refine Int.eq_of_mul_eq_mul_left (show g ≠ 0 by omega) ?_
    grind
  have hai : a i = 0 := by rw [hab i hi, hbi]; simp
  have h1 := (h i hi).2 hai
  rw [← hT, hab j hj, hD] at h1
  refine Int.le_of_mul_le_mul_left ?_ hg
  have e1 : A j * (g * E) + t * (B j * (g * b j)) = g * (A j * E + t * (B j * b j)) := by grind
  have e2 : A i * (g * E) = g * (A i * E) := by grind
  omega
theorem good_flow {p t : Int} {l : List S36} {n d : Int} (hp : 0 < p) (hb : ∀ x ∈ l, 1 ≤ x.f1 * t) (hd : ∀ x ∈ l, (x.f1 * t) ∣ p) (g : Good (wv p t) p l n d) :
    Flow l.length (LX (l.map (nv (wv p t) n d))) (d * p) ∧ BalT l.length t (LA l) (LB l) (LX (l.map (nv (wv p t) n d))) (d * p) (n * p) := by
  have hr : ∀ i, i < l.length → LX (l.map (nv (wv p t) n d)) i = nv (wv p t) n d (rdT_ l (i : Int)) := fun i hi => by
    show rd _ _ = _
    simp [rd, rdT_, List.getD, List.getElem?_eq_getElem hi]
  have hw : ∀ x ∈ l, 0 < wv p t x := fun x hx => (wv_b (hd x hx) hp (hb x hx)).1
  refine ⟨⟨Int.mul_pos g.1 hp, fun i hi => ?_, ?_⟩, fun i hi => ?_⟩
  · rw [hr i hi]
    unfold nv
    have := hw _ (rdT_mem l i hi)
    split
    · exact Int.mul_nonneg (by omega) (by omega)
    simp
  · rw [sI_congr l.length hr, sI_sumL' (nv (wv p t) n d) l, Int.mul_comm d p, ← g.full]
    refine sumL_congr fun x _ => ?_
    unfold nv
    split
    · exact Int.mul_comm _ _
    simp
  have hwi := hw _ (rdT_mem l i hi)
  have hm := wv_mul (hd _ (rdT_mem l i hi))
  rw [hr i hi]
  show (0 < nv (wv p t) n d (rdT_ l (i : Int)) → (rdT_ l (i : Int)).f0 * (d * p) + t * ((rdT_ l (i : Int)).f1 * nv (wv p t) n d (rdT_ l (i : Int))) = n * p) ∧ (nv (wv p t) n d (rdT_ l (i : Int)) = 0 → n * p ≤ (rdT_ l (i : Int)).f0 * (d * p))
  generalize rdT_ l (i : Int) = x at *
  unfold nv
  by_cases hx : x.f0 * d < n
  · rw [if_pos hx]
    refine ⟨fun _ => ?_, fun h => ?_⟩
    · have e : t * (x.f1 * ((n - x.f0 * d) * wv p t x)) = (n - x.f0 * d) * (wv p t x * (x.f1 * t)) := by grind
      rw [e, hm]; grind
    have := Int.mul_pos (show 0 < n - x.f0 * d by omega) hwi
    omega
  rw [if_neg hx]
  refine ⟨fun h => by simp at h, fun _ => ?_⟩
  have := Int.mul_le_mul_of_nonneg_right (show n ≤ x.f0 * d by omega) (Int.le_of_lt hp)
  rw [← Int.mul_assoc]; exact this
theorem wv_cross' {p q t : Int} {x : S36} (hb : 1 ≤ x.f1 * t) (hd : (x.f1 * t) ∣ p) (hq : (x.f1 * t) ∣ q) : q * wv p t x = p * wv q t x := by
  have e1 := wv_mul hd
  have e2 := wv_mul hq
  refine Int.eq_of_mul_eq_mul_right (show x.f1 * t ≠ 0 by omega) ?_
  rw [Int.mul_assoc, e1, Int.mul_assoc, e2, Int.mul_comm]
theorem Good.scale {p q t : Int} {l : List S36} {n d : Int} (hp : 0 < p) (hq : 0 < q) (hb : ∀ x ∈ l, 1 ≤ x.f1 * t) (hd : ∀ x ∈ l, (x.f1 * t) ∣ p) (hdq : ∀ x ∈ l, (x.f1 * t) ∣ q) (g : Good (wv p t) p l n d) :
    ∃ N C, Good (wv q t) q l N C ∧ q * n = p * N ∧ q * d = p * C := by
  obtain ⟨h0, h1, h2⟩ := g
  have e1 : q * d = p * sumL (fun x => if x.f0 * d < n then wv q t x else 0) l := by
    rw [← sumL_mul]
    conv => lhs; rw [h2, ← sumL_mul]
    refine sumL_congr fun x hx => ?_
    split
    · exact wv_cross' (hb x hx) (hd x hx) (hdq x hx)
    simp
  have e2 : q * n = p * (q + sumL (fun x => if x.f0 * d < n then x.f0 * wv q t x else 0) l) := by
    rw [Int.mul_add, ← sumL_mul]
    conv => lhs; rw [h1, Int.mul_add, ← sumL_mul]
    rw [Int.mul_comm q p]
    congr 1
    refine sumL_congr fun x hx => ?_
    split
    · rw [Int.mul_left_comm, wv_cross' (hb x hx) (hd x hx) (hdq x hx), Int.mul_left_comm]
    simp
  refine ⟨_, _, ?_, e2, e1⟩
  generalize hC : sumL (fun x => if x.f0 * d < n then wv q t x else 0) l = C at *
  generalize hN : (q + sumL (fun x => if x.f0 * d < n then x.f0 * wv q t x else 0) l) = N at *
  have hs : ∀ x : S36, (x.f0 * d < n) ↔ (x.f0 * C < N) := by
    intro x
    have a1 : q * (x.f0 * d) = p * (x.f0 * C) := by rw [Int.mul_left_comm, e1, Int.mul_left_comm]
    constructor
    · intro h
      have h3 := Int.mul_lt_mul_of_pos_left h hq
      rw [a1, e2] at h3
      exact Int.lt_of_mul_lt_mul_left h3 (Int.le_of_lt hp)
    intro h
    have h3 : p * (x.f0 * C) < p * N := Int.mul_lt_mul_of_pos_left h hp
    rw [← a1, ← e2] at h3
    exact Int.lt_of_mul_lt_mul_left h3 (Int.le_of_lt hq)
  refine ⟨?_, ?_, ?_⟩
  · have h3 := Int.mul_pos hq h0
    rw [e1] at h3
    rcases Int.lt_or_le 0 C with h | h
    · exact h
    have := Int.mul_le_mul_of_nonneg_left h (Int.le_of_lt hp)
    rw [Int.mul_zero] at this; omega
  · rw [← hN]; congr 1; rw [hN]
    refine sumL_congr fun x hx => ?_
    by_cases hx : x.f0 * d < n
    · rw [if_pos hx, if_pos ((hs x).1 hx)]
    rw [if_neg hx, if_neg fun h => hx ((hs x).2 h)]
  conv => lhs; rw [← hC]
  refine sumL_congr fun x hx => ?_
  by_cases hx : x.f0 * d < n
  · rw [if_pos hx, if_pos ((hs x).1 hx)]
  rw [if_neg hx, if_neg fun h => hx ((hs x).2 h)]
def lc (a b c d : Nat) : Nat := Nat.lcm a (Nat.lcm b (Nat.lcm c d))
theorem lc_chk : ∀ a, a < 11 → ∀ b, b < 11 → ∀ c, c < 11 → ∀ d, d < 11 → 2 * lc a b c d * (lc a b c d / a + lc a b c d / b + lc a b c d / c + lc a b c d / d) ≤ 10000000 := by
  decide +kernel
end Go.Proofs.Ytjgbdicbdlollaa.B
namespace Go.Proofs.Ytjgbdicbdlollaa.B
open Go.RowKit Go.Sort Go.Proofs.YtjgbdicbdlollaaW.PrintWords Go.Proofs.YtjgbdicbdlollaaW.PrintLast Go.Proofs.YtjgbdicbdlollaaW.PrintMore
set_option linter.unusedVariables false
set_option linter.unusedSimpArgs false
set_option linter.unusedSectionVars false
/-- The B of lane i, or 1. -/
def bAt (l : List S36) (i : Nat) : Nat := if i < l.length then (rdT_ l (i : Int)).f1.toNat else 1
def lcL (l : List S36) : Nat := lc (bAt l 0) (bAt l 1) (bAt l 2) (bAt l 3)
theorem bAt_b {l : List S36} (hv : ∀ x ∈ l, okL x) (i : Nat) : 1 ≤ bAt l i ∧ bAt l i < 11 := by
  unfold bAt
  split
  · rename_i h
    have := hv _ (rdT_mem l i h)
    unfold okL at this
    omega
  omega
theorem lc_dvd (a b c d : Nat) : a ∣ lc a b c d ∧ b ∣ lc a b c d ∧ c ∣ lc a b c d ∧ d ∣ lc a b c d :=
  ⟨Nat.dvd_lcm_left _ _, Nat.dvd_trans (Nat.dvd_lcm_left _ _) (Nat.dvd_lcm_right _ _), Nat.dvd_trans (Nat.dvd_trans (Nat.dvd_lcm_left _ _) (Nat.dvd_lcm_right _ _)) (Nat.dvd_lcm_right _ _), Nat.dvd_trans (Nat.dvd_trans (Nat.dvd_lcm_right _ _) (Nat.dvd_lcm_right _ _)) (Nat.dvd_lcm_right _ _)⟩
theorem lc_pos {a b c d : Nat} (ha : 1 ≤ a) (hb : 1 ≤ b) (hc : 1 ≤ c) (hd : 1 ≤ d) : 0 < lc a b c d := Nat.lcm_pos ha (Nat.lcm_pos hb (Nat.lcm_pos hc hd))
theorem bAt_dvd (l : List S36) (i : Nat) (h : i < 4) : bAt l i ∣ lcL l := by
  obtain ⟨h0, h1, h2, h3⟩ := lc_dvd (bAt l 0) (bAt l 1) (bAt l 2) (bAt l 3)
  match i, h with
  | 0, _ => exact h0
  | 1, _ => exact h1
  | 2, _ => exact h2
  | 3, _ => exact h3
theorem lcL_scale {t : Int} (ht : t = 1 ∨ t = 2) {l : List S36} (hl : l.length ≤ 4) (hv : ∀ x ∈ l, okL x) :
    0 < (lcL l : Int) * t ∧ (∀ x ∈ l, (x.f1 * t) ∣ (lcL l : Int) * t) ∧ sumL (wv ((lcL l : Int) * t) t) l * ((lcL l : Int) * t) ≤ 10000000 := by
  have hb := bAt_b hv
  have hL : 0 < lcL l := lc_pos (hb 0).1 (hb 1).1 (hb 2).1 (hb 3).1
  have hLi : 0 < (lcL l : Int) := by omega
  have ht0 : 0 < t := by omega
  have hat : ∀ i : Nat, i < l.length → (rdT_ l (i : Int)).f1 = (bAt l i : Int) := fun i hi => by
    have := hv _ (rdT_mem l i hi)
    unfold okL at this
    unfold bAt
    rw [if_pos hi]; omega
  have hdv : ∀ i : Nat, i < l.length → ((rdT_ l (i : Int)).f1 * t) ∣ (lcL l : Int) * t := fun i hi => by
    rw [hat i hi]
    exact Int.mul_dvd_mul_right _ (Int.natCast_dvd_natCast.2 (bAt_dvd l i (by omega)))
  refine ⟨Int.mul_pos hLi ht0, fun x hx => ?_, ?_⟩
  · obtain ⟨i, hi, rfl⟩ := List.mem_iff_getElem.1 hx
    have := hdv i hi
    simpa [rdT_, List.getD, List.getElem?_eq_getElem hi] using this
  have hw : ∀ i : Nat, i < l.length → wv ((lcL l : Int) * t) t (rdT_ l (i : Int)) = ((lcL l / bAt l i : Nat) : Int) := fun i hi => by
    have e1 := wv_mul (hdv i hi)
    have e2 : ((lcL l / bAt l i : Nat) : Int) * (bAt l i : Int) = (lcL l : Int) := by
      rw [← Int.natCast_mul, Nat.div_mul_cancel (bAt_dvd l i (by omega))]
    have h1 := (hb i).1
    rw [hat i hi] at e1
    refine Int.eq_of_mul_eq_mul_right (show (bAt l i : Int) * t ≠ 0 from ?_) ?_
    · have := Int.mul_pos (show 0 < (bAt l i : Int) by omega) ht0; omega
    rw [e1, ← Int.mul_assoc, e2]
  have hs : sumL (wv ((lcL l : Int) * t) t) l ≤ ((lcL l / bAt l 0 + lcL l / bAt l 1 + lcL l / bAt l 2 + lcL l / bAt l 3 : Nat) : Int) := by
    rw [← sI_sumL', sI_congr l.length hw]
    have hmono : ∀ m n : Nat, n + m = 4 → sI n (fun i => ((lcL l / bAt l i : Nat) : Int)) ≤ sI 4 (fun i => ((lcL l / bAt l i : Nat) : Int)) := by
      intro m
      induction m with
      | zero => intro n h; have : n = 4 := by omega
                subst this; exact Int.le_refl _
      | succ m ih =>
        intro n h
        have := ih (n + 1) (by omega)
        refine Int.le_trans ?_ this
        show _ ≤ sI n (fun i => ((lcL l / bAt l i : Nat) : Int)) + _
        exact Int.le_add_of_nonneg_right (Int.natCast_nonneg _)
    have := hmono (4 - l.length) l.length (by omega)
    refine Int.le_trans this ?_
    simp only [sI, Int.natCast_add]
    omega
  have hc := lc_chk (bAt l 0) (hb 0).2 (bAt l 1) (hb 1).2 (bAt l 2) (hb 2).2 (bAt l 3) (hb 3).2
  change 2 * lcL l * (lcL l / bAt l 0 + lcL l / bAt l 1 + lcL l / bAt l 2 + lcL l / bAt l 3) ≤ 10000000 at hc
  generalize lcL l / bAt l 0 + lcL l / bAt l 1 + lcL l / bAt l 2 + lcL l / bAt l 3 = S at *
  have h1 : sumL (wv ((lcL l : Int) * t) t) l * ((lcL l : Int) * t) ≤ (S : Int) * ((lcL l : Int) * t) := Int.mul_le_mul_of_nonneg_right hs (Int.le_of_lt (Int.mul_pos hLi ht0))
  have h2 : (S : Int) * ((lcL l : Int) * t) ≤ (S : Int) * ((lcL l : Int) * 2) := Int.mul_le_mul_of_nonneg_left (Int.mul_le_mul_of_nonneg_left (by omega) (Int.le_of_lt hLi)) (by omega)
  have h3 : (S : Int) * ((lcL l : Int) * 2) = ((2 * lcL l * S : Nat) : Int) := by
    rw [Int.natCast_mul, Int.natCast_mul]; grind
  omega
theorem nv_scale {p q t : Int} {x : S36} (hp : 0 < p) (hq : 0 < q) (hb : 1 ≤ x.f1 * t) (hd : (x.f1 * t) ∣ p) (hdq : (x.f1 * t) ∣ q) {n d N C : Int} (e2 : q * n = p * N) (e1 : q * d = p * C) :
    (q * q) * nv (wv p t) n d x = (p * p) * nv (wv q t) N C x := by
  have hw := wv_cross' hb hd hdq
  have a1 : q * (x.f0 * d) = p * (x.f0 * C) := by rw [Int.mul_left_comm, e1, Int.mul_left_comm]
  have hs : (x.f0 * d < n) ↔ (x.f0 * C < N) := by
    constructor
    · intro h
      have h3 := Int.mul_lt_mul_of_pos_left h hq
      rw [a1, e2] at h3
      exact Int.lt_of_mul_lt_mul_left h3 (Int.le_of_lt hp)
    intro h
    have h3 : p * (x.f0 * C) < p * N := Int.mul_lt_mul_of_pos_left h hp
    rw [← a1, ← e2] at h3
    exact Int.lt_of_mul_lt_mul_left h3 (Int.le_of_lt hq)
  unfold nv
  by_cases hx : x.f0 * d < n
  · rw [if_pos hx, if_pos (hs.1 hx)]
    have a2 : q * (n - x.f0 * d) = p * (N - x.f0 * C) := by rw [Int.mul_sub, Int.mul_sub, a1, e2]
    generalize n - x.f0 * d = u at *
    generalize N - x.f0 * C = u' at *
    generalize wv p t x = v at *
    generalize wv q t x = v' at *
    have e3 : (q * q) * (u * v) = (q * u) * (q * v) := by grind
    have e4 : (p * p) * (u' * v') = (p * u') * (p * v') := by grind
    rw [e3, e4, a2, hw]
  rw [if_neg hx, if_neg fun h => hx (hs.2 h)]; simp
/-- The parts that balance answers with. -/
theorem balance_flow {l : List S36} {t : Int} (ht : t = 1 ∨ t = 2) (hne : l ≠ []) (hl : l.length ≤ 4) (hv : ∀ x ∈ l, okL x) :
    ∃ (X : List Int) (D T n d : Int), X.length = l.length ∧ D ≤ 10000000 ∧ gl X D = 1 ∧ Flow l.length (LX X) D ∧ BalT l.length t (LA l) (LB l) (LX X) D T ∧ T * d = n * D ∧ 0 ≤ n ∧ n ≤ 6560000 ∧ 0 < d ∧ d ≤ 640000 ∧ Ev (fun k => jBa.f k l t) (X, D, (ratR n d).1, (ratR n d).2) := by
  obtain ⟨n, d, g, h⟩ := balance_ev ht hne hl hv
  have hp := prodL_b ht hv
  have hbt : ∀ x ∈ l, 1 ≤ x.f1 * t := fun x hx => (bt_b ht (hv x hx)).1
  have hdv : ∀ x ∈ l, (x.f1 * t) ∣ prodL t l := fun x hx => prodL_dvd x hx
  have gb := g.b hp.1 (Int.le_trans hp.2 (pow20 hl)) hl (fun x hx => ⟨hv x hx, wv_b (prodL_dvd x hx) hp.1 (bt_b ht (hv x hx)).1⟩)
  obtain ⟨q0, hdq, hqb⟩ := lcL_scale ht hl hv
  generalize (lcL l : Int) * t = q at *
  generalize prodL t l = p at *
  obtain ⟨fl, ba⟩ := good_flow hp.1 hbt hdv g
  obtain ⟨N, C, gs, s1, s2⟩ := g.scale hp.1 q0 hbt hdv hdq
  have hdp : 0 < d * p := Int.mul_pos g.1 hp.1
  have hCq : 0 < C * q := Int.mul_pos gs.1 q0
  obtain ⟨r0, r1, r2, r3, r4, r5, r6⟩ := parts_red (l.map (nv (wv p t) n d)) (d * p) hdp
  obtain ⟨z0, z1, z2, z3, z4, z5, z6⟩ := parts_red (l.map (nv (wv q t) N C)) (C * q) hCq
  generalize gl (l.map (nv (wv p t) n d)) (d * p) = G at *
  generalize gl (l.map (nv (wv q t) N C)) (C * q) = H at *
  generalize partsR (l.map (nv (wv p t) n d)) (d * p) G = P at *
  generalize partsR (l.map (nv (wv q t) N C)) (C * q) H = Z at *
  have hPl : P.1.length = l.length := by rw [r3]; simp
  have hZl : Z.1.length = l.length := by rw [z3]; simp
  have hcross : ∀ i : Nat, i < P.1.length → rd Z.1 (i : Int) * P.2 = rd P.1 (i : Int) * Z.2 := by
    intro i hi
    have hil : i < l.length := by omega
    have a1 := r2 i (by simpa using hil)
    have a2 := z2 i (by simpa using hil)
    have e1 : rd (l.map (nv (wv p t) n d)) (i : Int) = nv (wv p t) n d (rdT_ l (i : Int)) := by simp [rd, rdT_, List.getD, List.getElem?_eq_getElem hil]
    have e2 : rd (l.map (nv (wv q t) N C)) (i : Int) = nv (wv q t) N C (rdT_ l (i : Int)) := by simp [rd, rdT_, List.getD, List.getElem?_eq_getElem hil]
    have hm := rdT_mem l i hil
    have hsc := nv_scale hp.1 q0 (hbt _ hm) (hdv _ hm) (hdq _ hm) s1 s2
    rw [← e1, ← e2, a1, a2] at hsc
    have hden : (q * q) * (G * P.2) = (p * p) * (H * Z.2) := by
      rw [← r1, ← z1]
      have e3 : (q * q) * (d * p) = (q * d) * (q * p) := by grind
      rw [e3, s2]; grind
    generalize rd P.1 (i : Int) = x at *
    generalize rd Z.1 (i : Int) = y at *
    generalize P.2 = D at *
    generalize Z.2 = E at *
    have k1 : ((q * q) * G) * x = ((p * p) * H) * y := by rw [Int.mul_assoc (q * q), Int.mul_assoc (p * p)]; exact hsc
    have k2 : ((q * q) * G) * D = ((p * p) * H) * E := by rw [Int.mul_assoc (q * q), Int.mul_assoc (p * p)]; exact hden
    have u0 : 0 < (q * q) * G := Int.mul_pos (Int.mul_pos q0 q0) r0
    have v0 : 0 < (p * p) * H := Int.mul_pos (Int.mul_pos hp.1 hp.1) z0
    generalize (q * q) * G = u at *
    generalize (p * p) * H = v at *
    refine Int.eq_of_mul_eq_mul_left (show u * v ≠ 0 by have := Int.mul_pos u0 v0; omega) ?_
    have j1 : u * v * (y * D) = (v * y) * (u * D) := by grind
    have j2 : u * v * (x * E) = (u * x) * (v * E) := by grind
    rw [j1, j2, k1, k2]
  obtain ⟨w1, w2⟩ := low_uniq (X := P.1) (Y := Z.1) (by rw [hPl, hZl]) r5 z5 r4 z4 hcross
  have hD : P.2 ≤ 10000000 := by
    have hC : C ≤ sumL (wv q t) l := by
      conv => lhs; rw [gs.2.2]
      refine sumL_le fun x hx => ?_
      have := (wv_b (hdq x hx) q0 (hbt x hx)).1
      split <;> omega
    have := Int.mul_le_mul_of_nonneg_right hC (Int.le_of_lt q0)
    omega
  obtain ⟨f1, S, hS, f2⟩ := flow_red (b := LX P.1) (E := P.2) r0 (fun i hi => r2 i (by simpa using hi)) r1 fl ba
  refine ⟨P.1, P.2, S, n, d, hPl, hD, r4, f1, f2, ?_, gb.1, gb.2.1, gb.2.2.1, gb.2.2.2, h⟩
  refine Int.eq_of_mul_eq_mul_left (show G ≠ 0 by omega) ?_
  have j1 : G * (S * d) = (G * S) * d := by rw [Int.mul_assoc]
  have j2 : G * (n * P.2) = n * (G * P.2) := Int.mul_left_comm _ _ _
  rw [j1, j2, ← hS, ← r1]; grind
end Go.Proofs.Ytjgbdicbdlollaa.B
namespace Go.Proofs.Ytjgbdicbdlollaa.B
open Go.RowKit Go.Sort Go.Proofs.YtjgbdicbdlollaaW.PrintWords Go.Proofs.YtjgbdicbdlollaaW.PrintLast Go.Proofs.YtjgbdicbdlollaaW.PrintMore
set_option linter.unusedVariables false
set_option linter.unusedSimpArgs false
set_option linter.unusedSectionVars false
theorem ap_loop (X : List Int) (D : Int) (hX : X.length < 1000000) (h0 : 0 < D) (h1 : D ≤ 10000000) : ∀ (m i : Nat) (g : Int), i + m = X.length → 0 < g → g ≤ 10000000 →
    ∃ b, Ev (fun k => ratio_AreParts.l0 k 0 1 g X (X.length : Int) (i : Int) X D) b ∧ (b = true ↔ (∀ q : Nat, i ≤ q → q < X.length → 0 ≤ rd X (q : Int) ∧ rd X (q : Int) ≤ D) ∧ gl (X.drop i) g = 1)
  | 0, i, g, h, g0, g1 => by
    refine ⟨g == 1, Ev.step (f := fun _ => some (g == 1)) (fun k => ?_) (Ev.now _), ?_⟩
    · simp only [ratio_AreParts.l0]
      rw [if_neg (by omega), absmx (by unfold sm; omega), show ((g.natAbs : Nat) : Int) = g by omega]
    rw [List.drop_of_length_le (by omega), beq_iff_eq]
    exact ⟨fun e => ⟨fun q h1 h2 => by omega, e⟩, fun e => e.2⟩
  | m + 1, i, g, h, g0, g1 => by
    have hi : i < X.length := by omega
    have w0 : wrap64 (0 * D) = 0 := by rw [Int.zero_mul]; exact wsm (by unfold sm; omega)
    have w1 : wrap64 (1 * D) = D := by rw [Int.one_mul]; exact wsm (by unfold sm; omega)
    by_cases hlo : rd X (i : Int) < 0
    · refine ⟨false, Ev.step (f := fun _ => some false) (fun k => ?_) (Ev.now _), ⟨fun h => absurd h (by simp), fun h => absurd (h.1 i (Nat.le_refl _) hi) (by omega)⟩⟩
      simp only [ratio_AreParts.l0]
      rw [if_pos (by omega), if_pos (by omega), if_pos (by omega), w0, if_pos hlo]
    by_cases hhi : rd X (i : Int) > D
    · refine ⟨false, Ev.step (f := fun _ => some false) (fun k => ?_) (Ev.now _), ⟨fun h => absurd h (by simp), fun h => absurd (h.1 i (Nat.le_refl _) hi) (by omega)⟩⟩
      simp only [ratio_AreParts.l0]
      rw [if_pos (by omega), if_pos (by omega), if_pos (by omega), w0, w1, if_neg hlo, if_pos hhi]
    have hsy : sm (rd X (i : Int)) := by unfold sm; omega
    have hsg : sm g := by unfold sm; omega
    have hg := sm_gcd (b := rd X (i : Int)) hsg g0
    obtain ⟨b, e1, e3⟩ := ap_loop X D hX h0 h1 m (i + 1) _ (by omega) hg.2.1 (by omega)
    refine ⟨b, Ev.step (fun k => ?_) (Ev.bind (f := fun k t => ratio_AreParts.l0 k 0 1 t X (X.length : Int) ((i + 1 : Nat) : Int) X D) (divisor_ev _ g (rd X (i : Int)) (Nat.le_refl _) hsg hsy) e1), ?_⟩
    · simp only [ratio_AreParts.l0]
      rw [if_pos (by omega), if_pos (by omega), if_pos (by omega), w0, w1, if_neg hlo, if_neg hhi, wrapN i (by omega)]
    rw [e3, rd_drop X i hi]
    refine ⟨fun h => ⟨fun q h1 h2 => ?_, h.2⟩, fun h => ⟨fun q h1 h2 => h.1 q (by omega) h2, h.2⟩⟩
    by_cases he : q = i
    · subst he; omega
    exact h.1 q (by omega) h2
theorem as_loop (X : List Int) (D : Int) (hX : X.length ≤ 1000) (hb : ∀ q : Nat, q < X.length → 0 ≤ rd X (q : Int) ∧ rd X (q : Int) ≤ 10000000) : ∀ (m i : Nat), i + m = X.length → 0 ≤ sI i (LX X) → sI i (LX X) ≤ 10000000 * i → Ev (fun k => jam_areParts.l0 k (sI i (LX X)) X (X.length : Int) (i : Int) X D) (sI X.length (LX X) == D)
  | 0, i, h, s0, s1 => by
    have : i = X.length := by omega
    subst this
    refine Ev.step (f := fun _ => some (sI X.length (LX X) == D)) (fun k => ?_) (Ev.now _)
    simp only [jam_areParts.l0]
    rw [if_neg (by omega)]
  | m + 1, i, h, s0, s1 => by
    have hi : i < X.length := by omega
    have hbi := hb i hi
    have e : sI (i + 1) (LX X) = sI i (LX X) + rd X (i : Int) := rfl
    have ih := as_loop X D hX hb m (i + 1) (by omega) (by omega) (by omega)
    refine Ev.step (fun k => ?_) ih
    simp only [jam_areParts.l0]
    rw [if_pos (by omega), if_pos (by omega), if_pos (by omega), wrapN i (by omega), e, wsm (x := sI i (LX X) + rd X (i : Int)) (by unfold sm; omega)]
structure AreOk (l : List S36) (X : List Int) (D : Int) : Prop where
  len : X.length = l.length
  pos : 0 < D
  le : D ≤ 10000000
  bd : ∀ q : Nat, q < X.length → 0 ≤ rd X (q : Int) ∧ rd X (q : Int) ≤ D
  gl : gl X D = 1
  sum : sI X.length (LX X) = D
theorem AreOk.flow {l : List S36} {X : List Int} {D : Int} (h : AreOk l X D) : Flow l.length (LX X) D := ⟨h.pos, fun i hi => (h.bd i (by have := h.len; omega)).1, by rw [← h.len]; exact h.sum⟩
theorem AreOk.all {l : List S36} {X : List Int} {D : Int} (h : AreOk l X D) : ∀ y ∈ X, 0 ≤ y ∧ y ≤ D := fun y hy => by
  obtain ⟨q, hq, rfl⟩ := List.mem_iff_getElem.1 hy
  have := h.bd q hq
  simpa [rd, List.getD, List.getElem?_eq_getElem hq] using this
theorem sI_mem {F : Nat → Int} : ∀ n, (∀ i, i < n → 0 ≤ F i) → ∀ i, i < n → F i ≤ sI n F
  | 0, _, i, hi => by omega
  | n + 1, h, i, hi => by
    have h1 := sI_nonneg n fun i hi => h i (by omega)
    have h2 := h n (by omega)
    simp only [sI]
    by_cases e : i = n
    · subst e; omega
    have := sI_mem n (fun i hi => h i (by omega)) i (by omega); omega
theorem AreOk.mk' {l : List S36} {X : List Int} {D : Int} (hl : X.length = l.length) (hD : D ≤ 10000000) (hg : B.gl X D = 1) (f : Flow l.length (LX X) D) : AreOk l X D := by
  refine ⟨hl, f.pos, hD, fun q hq => ⟨f.nn q (by omega), ?_⟩, hg, by rw [hl]; exact f.sum⟩
  have := sI_mem l.length f.nn q (by omega)
  rw [f.sum] at this; exact this
theorem areParts_iff (l : List S36) (X : List Int) (D : Int) (hX : X.length < 1000000) (hl : l.length ≤ 4) : ∃ b, Ev (fun k => jam_areParts.f k l X D) b ∧ (b = true ↔ AreOk l X D) := by
  by_cases hx : X.length = l.length ∧ 0 < D ∧ D ≤ 10000000
  · obtain ⟨hxl, d0, d1⟩ := hx
    obtain ⟨b, e1, e3⟩ := ap_loop X D hX d0 d1 X.length 0 D (by omega) d0 d1
    have a1 : Ev (fun k => ratio_AreParts.f k X D (l.length : Int) 0 1) b := by
      have hj : Ev (fun k => ratio_AreParts.j0 k 0 1 false X D) b := Ev.step (fun k => by simp only [ratio_AreParts.j0]; rw [if_neg (by simp)]; rfl) e1
      refine Ev.congr (fun k => ?_) hj
      unfold ratio_AreParts.f
      rw [if_neg (by omega), if_neg (by omega), show ((X.length : Int) != (l.length : Int)) = false by simp [hxl]]
    cases hb : b with
    | false =>
      rw [hb] at a1 e3
      refine ⟨false, ?_, ⟨fun h => absurd h (by simp), fun h => ?_⟩⟩
      · unfold jam_areParts.f
        exact Ev.bind a1 (Ev.congr (fun k => if_neg (by simp)) (Ev.now _))
      exact absurd (e3.2 ⟨fun q _ hq => h.bd q hq, by simpa using h.gl⟩) (by simp)
    | true =>
      rw [hb] at a1 e3
      have e4 := e3.1 rfl
      have hs := as_loop X D (by omega) (fun q hq => by have := e4.1 q (Nat.zero_le _) hq; omega) X.length 0 (by omega) (Int.le_refl _) (by simp [sI])
      refine ⟨sI X.length (LX X) == D, ?_, ?_⟩
      · unfold jam_areParts.f
        exact Ev.bind a1 (Ev.congr (fun k => if_pos rfl) hs)
      rw [beq_iff_eq]
      exact ⟨fun h => ⟨hxl, d0, d1, fun q hq => e4.1 q (Nat.zero_le _) hq, by simpa using e4.2, h⟩, fun h => h.sum⟩
  refine ⟨false, ?_, ⟨fun h => absurd h (by simp), fun h => absurd ⟨h.len, h.pos, h.le⟩ hx⟩⟩
  have a1 : Ev (fun k => ratio_AreParts.f k X D (l.length : Int) 0 1) false := by
    have hj : Ev (fun k => ratio_AreParts.j0 k 0 1 true X D) false := Ev.step (f := fun _ => some false) (fun k => by simp [ratio_AreParts.j0]) (Ev.now _)
    refine Ev.congr (fun k => ?_) hj
    unfold ratio_AreParts.f
    by_cases h1 : D < 1
    · rw [if_pos h1]
    rw [if_neg h1]
    by_cases h2 : D > 10000000
    · rw [if_pos h2]
    rw [if_neg h2, show ((X.length : Int) != (l.length : Int)) = true by rw [bne_iff_ne]; intro e; exact hx ⟨by omega, by omega, by omega⟩]
  unfold jam_areParts.f
  exact Ev.bind a1 (Ev.congr (fun k => if_neg (by simp)) (Ev.now _))
theorem costAt_eq {l : List S36} {X : List Int} {D : Int} (hv : ∀ x ∈ l, okL x) (h : AreOk l X D) (i : Nat) (hi : i < l.length) : costAt l X D i = LA l i * D + LB l i * LX X i := by
  have hx := hv _ (rdT_mem l i hi)
  have hb := h.bd i (by have := h.len; omega)
  have hp := h.pos
  have hle := h.le
  unfold okL at hx
  have m1 := mulb (x := (rdT_ l (i : Int)).f0) (y := D) (X := 10) (Y := 10000000) (by omega) (by omega) (by omega) (by omega)
  have m2 := mulb (x := (rdT_ l (i : Int)).f1) (y := rd X (i : Int)) (X := 10) (Y := 10000000) (by omega) (by omega) (by omega) (by omega)
  unfold costAt laneCost
  rw [wsm (x := (rdT_ l (i : Int)).f0 * D) (by unfold sm; omega), wsm (x := (rdT_ l (i : Int)).f1 * rd X (i : Int)) (by unfold sm; omega), wsm (by unfold sm; omega)]
theorem inb_ev {l : List S36} (X : List Int) (D : Int) (hX : X.length < 1000000) (h0 : laneE l = 0) : ∃ b, Ev (fun k => jam_InBalance.f k l X D) (b, 0) ∧ (b = true ↔ AreOk l X D ∧ ∃ T, BalT l.length 1 (LA l) (LB l) (LX X) D T) := by
  obtain ⟨hne, hl, hv⟩ := laneE_ok h0
  have hlen : 1 ≤ l.length := by cases l with | nil => exact absurd rfl hne | cons => simp
  obtain ⟨b, e1, e2⟩ := areParts_iff l X D hX hl
  cases hb : b with
  | false =>
    rw [hb] at e1 e2
    refine ⟨false, ?_, ⟨fun h => absurd h (by simp), fun h => absurd (e2.2 h.1) (by simp)⟩⟩
    unfold jam_InBalance.f
    exact Ev.congr (fun k => by rw [stream_laneE, Option.bind_some, h0, if_pos rfl]) (Ev.bind e1 (Ev.congr (fun k => if_neg Bool.false_ne_true) (Ev.now _)))
  | true =>
    rw [hb] at e1 e2
    have ok := e2.1 rfl
    have x1 := ok.len
    refine ⟨calmL l X D (leastL l X D l.length) l.length 0, ?_, ?_⟩
    · unfold jam_InBalance.f
      refine Ev.congr (fun k => by rw [stream_laneE, Option.bind_some, h0, if_pos rfl]) (Ev.bind e1 (Ev.congr (f := fun _ => some (calmL l X D (leastL l X D l.length) l.length 0, 0)) (fun k => ?_) (Ev.now _)))
      rw [if_pos rfl, if_pos ⟨x1, hlen, by omega⟩]
    rw [calmL_iff]
    have hlt := fun a => leastL_lt l X D a l.length
    constructor
    · intro h
      refine ⟨ok, leastL l X D l.length, fun i hi => ⟨fun hp => ?_, fun hz => ?_⟩⟩
      · have h1 := h i (Nat.zero_le _) (by omega)
        have h2 : ¬ leastL l X D l.length < costAt l X D i := fun e => h1 ⟨hp, e⟩
        have h3 : ¬ costAt l X D i < leastL l X D l.length := fun e => by
          have h4 := fun a => (hlt a).2
          have h5 : leastL l X D l.length < leastL l X D l.length := Int.lt_of_le_of_lt (by
            rcases Int.lt_or_le (costAt l X D i) (leastL l X D l.length) with h6 | h6
            · have h7 := (hlt (costAt l X D i + 1)).2 (Or.inr ⟨i, hi, by omega⟩)
              omega
            omega) e
          omega
        rw [Int.one_mul, ← costAt_eq hv ok i hi]; omega
      have h7 := (hlt (costAt l X D i + 1)).2 (Or.inr ⟨i, hi, by omega⟩)
      have h8 := costAt_eq hv ok i hi
      rw [hz, Int.mul_zero, Int.add_zero] at h8
      omega
    rintro ⟨_, T, hT⟩ q _ hq ⟨hp, hc⟩
    have hq2 : q < l.length := by omega
    have h1 := (hT q hq2).1 hp
    rw [Int.one_mul, ← costAt_eq hv ok q hq2] at h1
    rcases (hlt (costAt l X D q)).1 hc with h3 | ⟨j, hj, h3⟩
    · have h4 := hT 0 (by omega)
      have h5 := costAt_eq hv ok 0 (by omega)
      have h6 := ok.bd 0 (by omega)
      by_cases e : 0 < LX X 0
      · have := h4.1 e; rw [Int.one_mul] at this; omega
      have e0 : LX X 0 = 0 := by show rd X ((0 : Nat) : Int) = 0; have e2 : ¬ 0 < rd X ((0 : Nat) : Int) := e; omega
      have := h4.2 e0
      rw [e0, Int.mul_zero, Int.add_zero] at h5
      omega
    have h4 := hT j hj
    have h5 := costAt_eq hv ok j hj
    have h6 := ok.bd j (by omega)
    by_cases e : 0 < LX X j
    · have := h4.1 e; rw [Int.one_mul] at this; omega
    have e0 : LX X j = 0 := by show rd X (j : Int) = 0; have e2 : ¬ 0 < rd X (j : Int) := e; omega
    have := h4.2 e0
    rw [e0, Int.mul_zero, Int.add_zero] at h5
    omega
/-- A delay. -/
def dlR (l : List S36) (X : List Int) (D : Int) : Int × Int := ratR (sI l.length (dT (LA l) (LB l) (LX X) D)) (D * D)
theorem del_ev {l : List S36} (X : List Int) (D : Int) (hX : X.length < 1000000) (h0 : laneE l = 0) : (AreOk l X D → Ev (fun k => jam_Delay.f k l X D) ((dlR l X D).1, (dlR l X D).2, 0)) ∧ (¬ AreOk l X D → Ev (fun k => jam_Delay.f k l X D) (0, 0, 2)) := by
  obtain ⟨hne, hl, hv⟩ := laneE_ok h0
  obtain ⟨b, e1, e2⟩ := areParts_iff l X D hX hl
  constructor
  · intro ok
    obtain rfl : b = true := e2.2 ok
    have d1 := (delay_ev hl ok.len hv ok.pos (by have := ok.le; omega) ok.all).1
    rw [delS_eq] at d1
    unfold jam_Delay.f
    refine Ev.congr (fun k => by rw [stream_laneE, Option.bind_some, h0, if_pos rfl]) (Ev.bind e1 ?_)
    refine Ev.step (fun k => ?_) (Ev.bind (f := fun _ (c : Int × Int) => some (c.1, c.2, (0 : Int))) d1 (Ev.now _))
    simp only [jam_Delay.j0]
    rw [if_neg (by simp), if_pos trivial]
  intro no
  obtain rfl : b = false := by
    cases b with
    | false => rfl
    | true => exact absurd (e2.1 rfl) no
  unfold jam_Delay.f
  refine Ev.congr (fun k => by rw [stream_laneE, Option.bind_some, h0, if_pos rfl]) (Ev.bind e1 ?_)
  refine Ev.step (f := fun _ => some (0, 0, 2)) (fun k => ?_) (Ev.now _)
  simp only [jam_Delay.j0]
  rw [if_pos (by simp), if_neg (by omega)]
/-- Balance and Cheapest. -/
theorem balT_ev {l : List S36} (h0 : laneE l = 0) : ∃ (X : List Int) (D T n d : Int), AreOk l X D ∧ BalT l.length 1 (LA l) (LB l) (LX X) D T ∧ T * d = n * D ∧ 0 ≤ n ∧ n ≤ 6560000 ∧ 0 < d ∧ d ≤ 640000 ∧ Ev (fun k => jam_Balance.f k l) (X, D, (ratR n d).1, (ratR n d).2, 0) := by
  obtain ⟨hne, hl, hv⟩ := laneE_ok h0
  obtain ⟨X, D, T, n, d, h1, h2, h3, h4, h5, h6, h7, h8, h9, h10, h11⟩ := balance_flow (Or.inl rfl) hne hl hv
  refine ⟨X, D, T, n, d, AreOk.mk' h1 h2 h3 h4, h5, h6, h7, h8, h9, h10, ?_⟩
  unfold jam_Balance.f
  exact Ev.congr (fun k => by rw [stream_laneE, Option.bind_some, h0, if_pos rfl]) (Ev.bind h11 (Ev.now _))
theorem cheap_ev {l : List S36} (h0 : laneE l = 0) : ∃ (X : List Int) (D T : Int), AreOk l X D ∧ BalT l.length 2 (LA l) (LB l) (LX X) D T ∧ Ev (fun k => jCh_.f k l) (X, D, (dlR l X D).1, (dlR l X D).2, 0) := by
  obtain ⟨hne, hl, hv⟩ := laneE_ok h0
  obtain ⟨X, D, T, n, d, h1, h2, h3, h4, h5, h6, h7, h8, h9, h10, h11⟩ := balance_flow (Or.inr rfl) hne hl hv
  have ok := AreOk.mk' h1 h2 h3 h4
  have d1 := (delay_ev hl ok.len hv ok.pos (by have := ok.le; omega) ok.all).1
  rw [delS_eq] at d1
  refine ⟨X, D, T, ok, h5, ?_⟩
  unfold jCh_.f
  exact Ev.congr (fun k => by rw [stream_laneE, Option.bind_some, h0, if_pos rfl]) (Ev.bind h11 (Ev.bind (f := fun _ (c : Int × Int) => some (X, D, c.1, c.2, (0 : Int))) d1 (Ev.now _)))
theorem lanes_A {l : List S36} (hv : ∀ x ∈ l, okL x) : (∀ i, i < l.length → 0 ≤ LA l i) ∧ ∀ i, i < l.length → 1 ≤ LB l i := ⟨fun i hi => (hv _ (rdT_mem l i hi)).1, fun i hi => (hv _ (rdT_mem l i hi)).2.2.1⟩
theorem del_b {l : List S36} (hl : l.length ≤ 4) (hv : ∀ x ∈ l, okL x) {X : List Int} {D : Int} (ok : AreOk l X D) : 0 ≤ sI l.length (dT (LA l) (LB l) (LX X) D) ∧ sI l.length (dT (LA l) (LB l) (LX X) D) ≤ 825908841676800000 ∧ 0 < D * D ∧ D * D ≤ 100000000000000 := by
  obtain ⟨⟨e1, e2, e3⟩, _⟩ := delS_ev hl ok.len hv ok.pos (by have := ok.le; omega) ok.all l.length 0 0 (by omega) (by omega) (by omega)
  rw [delS_eq] at e2 e3
  have hm := mulb (x := D) (y := D) (X := 10000000) (Y := 10000000) (Int.le_of_lt ok.pos) ok.le (Int.le_of_lt ok.pos) ok.le
  exact ⟨e2, by omega, Int.mul_pos ok.pos ok.pos, by omega⟩
end Go.Proofs.Ytjgbdicbdlollaa.B
namespace Go.Proofs.Ytjgbdicbdlollaa.B
open Go.RowKit Go.Sort Go.Proofs.YtjgbdicbdlollaaW.PrintWords Go.Proofs.YtjgbdicbdlollaaW.PrintLast Go.Proofs.YtjgbdicbdlollaaW.PrintMore
set_option linter.unusedVariables false
set_option linter.unusedSimpArgs false
theorem parts_refl (x : List Int) (d : Int) (hx : x.length < 1000000) : Ev (fun k => trishawlaw02_parts.f k x d x d) true := parts_same x d hx
theorem streams_end {l : List S36} (h0 : laneE l = 0) (Y : List Int) (E : Int) (hY : Y.length ≤ 20) : Ev (fun k => lJS_.j0 k l false Y E) true := by
  obtain ⟨hne, hl, hv⟩ := laneE_ok h0
  obtain ⟨X, D, T, n, d, ok, bal, e1, n0, n1, d0, d1, ev1⟩ := balT_ev h0
  obtain ⟨C, F, S, okC, balC, ev2⟩ := cheap_ev h0
  have lX := ok.len
  have lC := okC.len
  obtain ⟨b3, ev3, hb3⟩ := inb_ev X D (by omega) h0
  have hb3t : b3 = true := hb3.2 ⟨ok, T, bal⟩
  subst hb3t
  have ev4 := (del_ev X D (by omega) h0).1 ok
  have ev5 := (del_ev C F (by omega) h0).1 okC
  have hbd := bal_delay ok.flow (lanes_A hv).1 (lanes_A hv).2 bal
  have dX := del_b hl hv ok
  have dC := del_b hl hv okC
  have eT : dlR l X D = ratR n d := by
    unfold dlR
    rw [hbd]
    refine ratR_eq dX.2.2.1 d0 ?_
    have : T * D * d = T * d * D := by grind
    rw [this, e1]; grind
  have bt := ratR_b n0 d0
  have bC := ratR_b dC.1 dC.2.2.1
  have hopt := opt_le okC.flow ok.flow (lanes_A hv).1 (lanes_A hv).2 balC
  have hpr := bal_price ok.flow okC.flow (lanes_A hv).1 (lanes_A hv).2 bal
  have L1 : Ev (fun k => lLe_.f k (ratR n d).1 (ratR n d).2 1 (dlR l C F).1 (dlR l C F).2 1) false := by
    have h := less_ev (m := 1) (k := 1) bt.1 (by omega) bt.2.2.1 (by omega) bC.1 (by omega) bC.2.2.1 (by omega) (by decide) (by decide) (by decide) (by decide)
    rw [decide_eq_false] at h
    · exact h
    rw [← eT]
    unfold dlR
    rw [ratR_lt dX.2.2.1 dC.2.2.1, Int.mul_one, Int.mul_one, Int.mul_comm _ (F * F), Int.mul_comm _ (D * D)]
    rw [Int.mul_comm (D * D), Int.mul_comm (F * F)] at hopt
    rw [Int.mul_comm (F * F), Int.mul_comm (D * D)]
    omega
  have L2 : Ev (fun k => lLe_.f k (dlR l C F).1 (dlR l C F).2 4 (ratR n d).1 (ratR n d).2 3) false := by
    have h := less_ev (m := 4) (k := 3) bC.1 (by omega) bC.2.2.1 (by omega) bt.1 (by omega) bt.2.2.1 (by omega) (by decide) (by decide) (by decide) (by decide)
    rw [decide_eq_false] at h
    · exact h
    rw [← eT]
    unfold dlR
    rw [ratR_lt dC.2.2.1 dX.2.2.1, hbd]
    generalize sI l.length (dT (LA l) (LB l) (LX C) F) = V at *
    have e2 : V * 4 * (D * D) = 4 * (D * D * V) := by grind
    have e3 : T * D * 3 * (F * F) = 3 * (T * D * (F * F)) := by grind
    omega
  obtain ⟨b6, ev6, hb6⟩ := inb_ev Y E (by omega) h0
  -- the judgement on other parts
  have uniq : b6 = true → Y = X ∧ E = D := fun hb => by
    obtain ⟨okY, S2, balY⟩ := hb6.1 hb
    have hc := bal_uniq ok.flow okY.flow (lanes_A hv).1 (lanes_A hv).2 bal balY
    have := low_uniq (X := X) (Y := Y) (by rw [lX, okY.len]) ok.pos okY.pos ok.gl okY.gl (fun i hi => hc i (by omega))
    exact ⟨this.2.symm, this.1.symm⟩
  have hj2 : Ev (fun k => lJS_.j2 k l false Y E X D C F (dlR l C F).1 (dlR l C F).2) true := by
    by_cases okY : AreOk l Y E
    · have ev7 := (del_ev Y E (by omega) h0).1 okY
      have dY := del_b hl hv okY
      have bY := ratR_b dY.1 dY.2.2.1
      have hoY := opt_le okC.flow okY.flow (lanes_A hv).1 (lanes_A hv).2 balC
      have L3 : Ev (fun k => lLe_.f k (dlR l Y E).1 (dlR l Y E).2 1 (dlR l C F).1 (dlR l C F).2 1) false := by
        have h := less_ev (m := 1) (k := 1) bY.1 (by omega) bY.2.2.1 (by omega) bC.1 (by omega) bC.2.2.1 (by omega) (by decide) (by decide) (by decide) (by decide)
        rw [decide_eq_false] at h
        · exact h
        try unfold dlR
        rw [ratR_lt dY.2.2.1 dC.2.2.1, Int.mul_one, Int.mul_one]
        rw [Int.mul_comm (E * E), Int.mul_comm (F * F)] at hoY
        omega
      have hj3 : Ev (fun k => lJS_.j3 k 0 b6 false Y E C F (dlR l C F).1 (dlR l C F).2 (dlR l Y E).1 (dlR l Y E).2) true := by
        by_cases he : dlR l Y E = dlR l C F
        · have hx := ratR_inj dY.2.2.1 dC.2.2.1 he
          have hc := opt_eq okC.flow okY.flow (lanes_A hv).1 (lanes_A hv).2 balC (by rw [Int.mul_comm (F * F), Int.mul_comm (E * E), hx]; exact Int.le_refl _)
          have hq := low_uniq (X := C) (Y := Y) (by rw [lC, okY.len]) okC.pos okY.pos okC.gl okY.gl (fun i hi => hc i (by omega))
          obtain ⟨rfl, rfl⟩ := hq
          refine Ev.step (f := fun k => (lLe_.f k (dlR l C F).1 (dlR l C F).2 1 (dlR l C F).1 (dlR l C F).2 1).bind fun t141 => (if t141 = true then (some false) else ((trishawlaw02_parts.f k C F C F).bind fun t143 => (if t143 = true then ((lAl_.f k).bind fun t144 => (some t144)) else (some false))))) (fun k => ?_) (Ev.bind L3 (Ev.congr (fun k => if_neg Bool.false_ne_true) (Ev.bind (parts_refl C F (by omega)) (Ev.congr (fun k => if_pos rfl) alive_ev2))))
          simp only [lJS_.j3]
          rw [if_neg Bool.false_ne_true, if_pos trivial, if_pos (show (dlR l C F).2 ≥ 1 by have : 0 < (dlR l C F).2 := bC.2.2.1; omega)]
          rw [if_neg (show ¬ (!((dlR l C F).1 == (dlR l C F).1) || (!((dlR l C F).2 == (dlR l C F).2))) = true by simp)]
        have hne2 : (!((dlR l Y E).1 == (dlR l C F).1) || (!((dlR l Y E).2 == (dlR l C F).2))) = true := by
          cases h1 : (dlR l Y E).1 == (dlR l C F).1 with
          | false => rfl
          | true =>
            cases h2 : (dlR l Y E).2 == (dlR l C F).2 with
            | false => rfl
            | true => exact absurd (Prod.ext (beq_iff_eq.1 h1) (beq_iff_eq.1 h2)) he
        refine Ev.step (f := fun k => (lLe_.f k (dlR l Y E).1 (dlR l Y E).2 1 (dlR l C F).1 (dlR l C F).2 1).bind fun t141 => (if t141 = true then (some false) else ((lAl_.f k).bind fun t142 => (some t142)))) (fun k => ?_) (Ev.bind L3 (Ev.congr (fun k => if_neg Bool.false_ne_true) alive_ev2))
        simp only [lJS_.j3]
        rw [if_neg Bool.false_ne_true, if_pos trivial, if_pos (show (dlR l Y E).2 ≥ 1 by have : 0 < (dlR l Y E).2 := bY.2.2.1; omega), if_pos hne2]
      refine Ev.step (fun k => by simp only [lJS_.j2]; rw [if_neg Bool.false_ne_true]) (Ev.bind ev6 (Ev.bind ev7 (Ev.congr (fun k => if_pos rfl) ?_)))
      cases hb : b6 with
      | true =>
        obtain ⟨rfl, rfl⟩ := uniq hb
        rw [hb] at hj3
        exact Ev.congr (fun k => if_pos rfl) (Ev.bind (parts_refl Y E (by omega)) hj3)
      | false =>
        rw [hb] at hj3
        exact Ev.congr (fun k => if_neg Bool.false_ne_true) hj3
    have ev7 := (del_ev Y E (by omega) h0).2 okY
    have hb : b6 = false := by
      cases h : b6 with
      | false => rfl
      | true => exact absurd (hb6.1 h).1 okY
    subst hb
    have hj3 : Ev (fun k => lJS_.j3 k 2 false false Y E C F (dlR l C F).1 (dlR l C F).2 0 0) true := by
      refine Ev.step (fun k => ?_) alive_ev2
      simp only [lJS_.j3]
      rw [if_neg Bool.false_ne_true, if_neg (by decide), if_pos trivial, if_neg Bool.false_ne_true]
    refine Ev.step (fun k => by simp only [lJS_.j2]; rw [if_neg Bool.false_ne_true]) (Ev.bind ev6 (Ev.bind ev7 (Ev.congr (fun k => if_pos rfl) (Ev.congr (fun k => if_neg Bool.false_ne_true) hj3))))
  have hj1 : Ev (fun k => lJS_.j1 k l false Y E X D (ratR n d).1 (ratR n d).2 C F (dlR l C F).1 (dlR l C F).2) true := by
    refine Ev.step (f := fun k => (lLe_.f k (ratR n d).1 (ratR n d).2 1 (dlR l C F).1 (dlR l C F).2 1).bind fun t132 => (if t132 = true then (lJS_.j2 k l true Y E X D C F (dlR l C F).1 (dlR l C F).2) else ((lLe_.f k (dlR l C F).1 (dlR l C F).2 4 (ratR n d).1 (ratR n d).2 3).bind fun t133 => (lJS_.j2 k l t133 Y E X D C F (dlR l C F).1 (dlR l C F).2)))) (fun k => ?_) (Ev.bind L1 (Ev.congr (fun k => if_neg Bool.false_ne_true) (Ev.bind L2 hj2)))
    simp only [lJS_.j1]
    rw [if_neg Bool.false_ne_true]
  refine Ev.step (fun k => by simp only [lJS_.j0]; rw [if_neg Bool.false_ne_true]) (Ev.bind ev1 (Ev.bind ev2 (Ev.bind ev3 (Ev.bind ev4 (Ev.bind ev5 (Ev.congr (fun k => ?_) hj1))))))
  rw [eT]
  rw [if_pos rfl, if_pos rfl, if_pos rfl, if_pos rfl, if_pos rfl, if_pos rfl]
  rw [if_neg (show ¬ (!((ratR n d).1 == (ratR n d).1) || (!((ratR n d).2 == (ratR n d).2))) = true by simp), if_neg (show ¬ (!((dlR l C F).1 == (dlR l C F).1) || (!((dlR l C F).2 == (dlR l C F).2))) = true by simp)]
  rw [if_neg (show ¬ (ratR n d).2 < 1 by have := bt.2.2.1; omega), decide_eq_false (show ¬ (dlR l C F).2 < 1 by have : 0 < (dlR l C F).2 := bC.2.2.1; omega)]
theorem jamstreams_ev (l : List S36) (Y : List Int) (E : Int) : Ev (fun k => lJS_.f k l Y E) true := by
  unfold lJS_.f
  have hskip : Ev (fun k => lJS_.j0 k l true Y E) true := Ev.step (fun k => by simp only [lJS_.j0]; rw [if_pos trivial]) alive_ev2
  by_cases h20 : (l.length : Int) > 20
  · exact Ev.congr (fun k => if_pos h20) hskip
  refine Ev.congr (fun k => if_neg h20) ?_
  by_cases hY : (Y.length : Int) > 20
  · exact Ev.congr (fun k => if_pos hY) hskip
  refine Ev.congr (fun k => if_neg hY) (Ev.bind (lanes_ev l (by omega)) ?_)
  by_cases h0 : laneE l = 0
  · rw [h0]; exact streams_end h0 Y E (by omega)
  rw [show (laneE l != 0) = true by simp [h0]]; exact hskip
end Go.Proofs.Ytjgbdicbdlollaa.B
namespace Go.Proofs.Ytjgbdicbdlollaa.Pure
open Go.RowKit Go.Proofs.Ytjgbdicbdlollaa.B Go.Proofs.YtjgbdicbdlollaaW.PrintWords Go.Proofs.YtjgbdicbdlollaaW.PrintLast Go.Proofs.YtjgbdicbdlollaaW.PrintMore
theorem JamStreams : lJS_.Pure := fun l0 l1_0 a1_1 _ _ _ => (jamstreams_ev l0 l1_0 a1_1).rounds
end Go.Proofs.Ytjgbdicbdlollaa.Pure
