/- Texts behind the row of JamMarginal, part 5: contracts of the functions it reaches, words that their walks use, and lemmas in plain Lean. -/
import Derived.Below
import Derived.Deep.Draws
import Derived.Deep.AppendLies
import Derived.Maps.AppendAt
import Derived.OwnWalk
import Derived.Laws.BytesArg
import Derived.Laws.MakeOwn
import Derived.Laws.OwnMore
import Derived.Deep.OwnRows
import Derived.Tactics
import Derived.Lib.ConvBytes
import Derived.Laws.Slices
import Derived.WalkKit
import Derived.KernelRfl
import Derived.RowKit3
import Derived.Deep.LoopGhost
import Derived.Deep.QuietTactic
import Derived.BigQuiet
import Derived.WideLaws
import Derived.Deep.DeepCutAuto
import Derived.Deep.CutBlock
import Derived.Deep.RegionHeld3
import Derived.Laws.Rows
import Derived.Lib.AppendStr
import Derived.ArgAppend
import Derived.Laws.IdiomCopy
import Derived.RowKit
import Derived.OrdersHeld
import Derived.Laws.BitsLemmas
import Derived.Laws.StructEq
import Derived.Test.YtjgbdicbdlollaaProg
import Derived.WalkSpells
import Derived.MapKept
import Derived.Maps.RangeWalk
import Derived.Shelf.SlSortCmp.SmallK
import Derived.Ground.SlsfProg
import Derived.Deep.Slices
import Derived.Deep.Fields
import Derived.ChangeSame
import Derived.ChangeSlices
import Derived.Sort.LotA
import Derived.Test.YtjgbdicbdlollaaM1
import Derived.Test.YtjgbdicbdlollaaM2
import Derived.Test.YtjgbdicbdlollaaM3
import Derived.Test.YtjgbdicbdlollaaM4
namespace Go.Proofs.Ytjgbdicbdlollaa.B
open Go.RowKit Go.Sort Go.Proofs.YtjgbdicbdlollaaW.PrintWords Go.Proofs.YtjgbdicbdlollaaW.PrintLast Go.Proofs.YtjgbdicbdlollaaW.PrintMore
set_option linter.unusedVariables false
set_option linter.unusedSimpArgs false
theorem rdT_drop (l : List S36) (i : Nat) (h : i < l.length) : l.drop i = rd_T36 l (i : Int) :: l.drop (i + 1) := by
  rw [List.drop_eq_getElem_cons h]
  congr 1
  simp [rd_T36, List.getD, List.getElem?_eq_getElem h]
theorem rdT_mem (l : List S36) (i : Nat) (h : i < l.length) : rd_T36 l (i : Int) ∈ l := by
  have : rd_T36 l (i : Int) = l[i] := by simp [rd_T36, List.getD, List.getElem?_eq_getElem h]
  rw [this]; exact List.getElem_mem h
theorem mulb {x y X Y : Int} (hx : 0 ≤ x) (hX : x ≤ X) (hy : 0 ≤ y) (hY : y ≤ Y) : 0 ≤ x * y ∧ x * y ≤ X * Y :=
  ⟨Int.mul_nonneg hx hy, Int.mul_le_mul hX hY hy (by omega)⟩
def prodL (t : Int) : List S36 → Int
  | [] => 1
  | x :: l => (x.f1 * t) * prodL t l
theorem bt_b {t : Int} (ht : t = 1 ∨ t = 2) {x : S36} (h : okL x) : 1 ≤ x.f1 * t ∧ x.f1 * t ≤ 20 := by
  unfold okL at h
  rcases ht with rfl | rfl <;> omega
theorem prodL_b {t : Int} (ht : t = 1 ∨ t = 2) : ∀ {l : List S36}, (∀ x ∈ l, okL x) → 0 < prodL t l ∧ prodL t l ≤ 20 ^ l.length
  | [], _ => by simp [prodL]
  | x :: l, h => by
    have h1 := bt_b ht (h x (by simp))
    have h2 := prodL_b ht (l := l) fun y hy => h y (by simp [hy])
    have h3 := mulb (X := 20) (Y := 20 ^ l.length) (x := x.f1 * t) (y := prodL t l) (by omega) (by omega) (by omega) h2.2
    simp only [prodL, List.length_cons, Int.pow_succ]
    exact ⟨Int.mul_pos (by omega) h2.1, by rw [Int.mul_comm (20 ^ l.length : Int)]; exact h3.2⟩
theorem pow20 {n : Nat} (h : n ≤ 4) : (20 : Int) ^ n ≤ 160000 := by
  match n, h with
  | 0, _ => decide
  | 1, _ => decide
  | 2, _ => decide
  | 3, _ => decide
  | 4, _ => decide
theorem prodL_dvd {t : Int} : ∀ {l : List S36}, ∀ x ∈ l, (x.f1 * t) ∣ prodL t l
  | y :: l, x, h => by
    rcases List.mem_cons.1 h with rfl | h
    · exact ⟨_, rfl⟩
    · exact Int.dvd_mul_of_dvd_right (prodL_dvd x h)
def wv (p t : Int) (x : S36) : Int := Int.tdiv p (x.f1 * t)
theorem wv_mul {p t : Int} {x : S36} (h : (x.f1 * t) ∣ p) : wv p t x * (x.f1 * t) = p := Int.tdiv_mul_cancel h
theorem wv_b {p t : Int} {x : S36} (h : (x.f1 * t) ∣ p) (h0 : 0 < p) (h1 : 1 ≤ x.f1 * t) : 0 < wv p t x ∧ wv p t x ≤ p := by
  have e := wv_mul h
  have hp : 0 < wv p t x := by
    rcases Int.lt_trichotomy (wv p t x) 0 with h2 | h2 | h2
    · have := Int.mul_neg_of_neg_of_pos h2 (show 0 < x.f1 * t by omega); omega
    · rw [h2] at e; simp at e; omega
    · exact h2
  refine ⟨hp, ?_⟩
  have := Int.mul_le_mul_of_nonneg_left h1 (Int.le_of_lt hp)
  omega
/-- The lanes that the order's loop takes. -/
def goB (w : S36 → Int) : List S36 → Int → Int → Int × Int
  | [], n, d => (n, d)
  | x :: r, n, d => if d > 0 ∧ x.f0 * d ≥ n then (n, d) else goB w r (n + x.f0 * w x) (d + w x)
theorem goB_good (w : S36 → Int) (p : Int) (hp : 0 < p) : ∀ (r pre : List S36) (n d : Int), (pre ++ r).Pairwise (fun a b => a.f0 ≤ b.f0) → (∀ x ∈ pre ++ r, 0 < w x ∧ 0 ≤ x.f0) → pre ++ r ≠ [] →
    (∀ y ∈ pre, y.f0 * d < n) → n = p + sumL (fun x => x.f0 * w x) pre → d = sumL w pre → Good w p (pre ++ r) (goB w r n d).1 (goB w r n d).2
  | [], pre, n, d, hs, hw, hne, hy, hn, hd => by
    simp only [goB, List.append_nil] at *
    refine ⟨?_, ?_, ?_⟩
    · match pre, hne with
      | x :: l, _ =>
        have h1 := hw x (by simp)
        have h2 := sumL_pos (f := w) (l := l) fun y hy => by have := hw y (by simp [hy]); omega
        simp only [sumL] at hd
        omega
    · rw [sumL_congr (g := fun x => x.f0 * w x) fun x hx => if_pos (hy x hx)]; exact hn
    · rw [sumL_congr (g := w) fun x hx => if_pos (hy x hx)]; exact hd
  | x :: r, pre, n, d, hs, hw, hne, hy, hn, hd => by
    simp only [goB]
    split
    · rename_i hc
      have hout : ∀ y ∈ x :: r, ¬ y.f0 * d < n := by
        intro y hyr
        have h1 : x.f0 ≤ y.f0 := by
          rcases List.mem_cons.1 hyr with rfl | h
          · exact Int.le_refl _
          · exact List.rel_of_pairwise_cons (List.pairwise_append.1 hs).2.1 h
        have := Int.mul_le_mul_of_nonneg_right h1 (Int.le_of_lt hc.1)
        omega
      refine ⟨hc.1, ?_, ?_⟩
      · rw [sumL_append, sumL_congr (l := pre) (g := fun x => x.f0 * w x) (fun x hx => if_pos (hy x hx)), sumL_congr (l := x :: r) (g := fun _ => 0) (fun y hy => if_neg (hout y hy)), sumL_const]
        simp only [Int.zero_mul]; omega
      · rw [sumL_append, sumL_congr (l := pre) (g := w) (fun x hx => if_pos (hy x hx)), sumL_congr (l := x :: r) (g := fun _ => 0) (fun y hy => if_neg (hout y hy)), sumL_const]
        simp only [Int.zero_mul]; omega
    · rename_i hc
      have hwx := hw x (by simp)
      have hn0 : 0 ≤ sumL (fun x => x.f0 * w x) pre := sumL_pos fun y hy => by
        have := hw y (by simp [hy]); exact Int.mul_nonneg this.2 (by omega)
      have hd0 : 0 ≤ d := by rw [hd]; exact sumL_pos fun y hy => by have := hw y (by simp [hy]); omega
      have hxd : x.f0 * d < n := by
        by_cases h0 : d > 0
        · rcases Int.lt_or_le (x.f0 * d) n with h | h
          · exact h
          · exact absurd ⟨h0, h⟩ hc
        · have : d = 0 := by omega
          rw [this, Int.mul_zero]; omega
      have ih := goB_good w p hp r (pre ++ [x]) (n + x.f0 * w x) (d + w x) (by simpa using hs) (by simpa using hw) (by simp) (fun y hy2 => ?_)
        (by rw [sumL_append]; simp only [sumL]; omega) (by rw [sumL_append]; simp only [sumL]; omega)
      · simpa using ih
      · have hyx : y.f0 * d < n ∧ y.f0 ≤ x.f0 := by
          rcases List.mem_append.1 hy2 with h | h
          · exact ⟨hy y h, (List.pairwise_append.1 hs).2.2 y h x (by simp)⟩
          · have : y = x := by simpa using h
            subst this; exact ⟨hxd, Int.le_refl _⟩
        have := Int.mul_le_mul_of_nonneg_right hyx.2 (show 0 ≤ w x by omega)
        rw [Int.mul_add]
        omega
theorem lnsOf_ev : ∀ {l : List S36}, (∀ x ∈ l, okL x) → ∃ ds, lnsOf l = some ds ∧ ds.map Ln.x = l
  | [], _ => ⟨[], rfl, rfl⟩
  | x :: l, h => by
    obtain ⟨ds, h1, h2⟩ := lnsOf_ev (l := l) fun y hy => h y (by simp [hy])
    have hx := h x (by simp)
    exact ⟨⟨x, hx.1, hx.2.1⟩ :: ds, by simp only [lnsOf]; rw [dif_pos ⟨hx.1, hx.2.1⟩, h1]; rfl, by simp [h2]⟩
theorem ext_all {A : Array Ln} {n : Nat} (h : A.size = n) : A.extract 0 n = A := by subst h; simp
theorem sorted_ev {l : List S36} (hne : l ≠ []) (hl : l.length ≤ 4) (hv : ∀ x ∈ l, okL x) : ∃ s, lanes_Sorted.f l = some s ∧ s.Perm l ∧ s.Pairwise (fun a b => a.f0 ≤ b.f0) := by
  obtain ⟨ds, h1, h2⟩ := lnsOf_ev hv
  have hlen : 1 ≤ l.length := by cases l with | nil => exact absurd rfl hne | cons => simp
  have hdl : ds.length = l.length := by rw [← h2]; simp
  refine ⟨(sortLn ds).toList.map Ln.x, ?_, ?_, ?_⟩
  · unfold lanes_Sorted.f; rw [if_pos ⟨hlen, by omega⟩, h1]; rfl
  · have hp := insertionSort_holds (lt := ltOf cfLn) swo_cfLn ds.toArray 0 ds.toArray.size (Nat.zero_le _) (Nat.le_refl _)
    obtain ⟨hs1, _, hs3⟩ := hp.1
    have e1 : (Go.Sort.insertionSort (ltOf cfLn) ds.toArray 0 ds.toArray.size).extract 0 ds.toArray.size = sortLn ds := ext_all hs1
    rw [e1] at hs3
    have e2 : ds.toArray.extract 0 ds.toArray.size = ds.toArray := by simp
    rw [e2] at hs3
    have := hs3.map Ln.x
    rw [h2] at this
    exact this
  · have hp := insertionSort_holds (lt := ltOf cfLn) swo_cfLn ds.toArray 0 ds.toArray.size (Nat.zero_le _) (Nat.le_refl _)
    obtain ⟨hs1, _, hs3⟩ := hp.1
    have hso : SortedIn (ltOf cfLn) 0 ds.toArray.size (sortLn ds) := hp.2
    have hsz : (sortLn ds).size = ds.toArray.size := hs1
    rw [List.pairwise_map, List.pairwise_iff_getElem]
    intro i j hi hj hij
    have hi2 : i < (sortLn ds).size := by simpa using hi
    have hj2 : j < (sortLn ds).size := by simpa using hj
    have := hso i j (Nat.zero_le _) hij (by omega)
    rw [getElem!_pos (sortLn ds) j hj2, getElem!_pos (sortLn ds) i hi2] at this
    unfold ltOf cfLn at this
    simp only [decide_eq_false_iff_not] at this
    simp only [Array.getElem_toList]
    omega
theorem bal_l0 (l : List S36) (t : Int) (ht : t = 1 ∨ t = 2) (hl : l.length ≤ 4) (hv : ∀ x ∈ l, okL x) (R : List Int × Int × Int × Int) : ∀ (m i : Nat) (q : Int), i + m = l.length → 0 < q → q ≤ 20 ^ i →
    Ev (fun k => (lanes_Sorted.f l).bind fun s => jam_balance.l1 k l t (q * prodL t (l.drop i)) (q * prodL t (l.drop i)) 0 s (s.length : Int) 0) R → Ev (fun k => jam_balance.l0 k l t q l (l.length : Int) (i : Int)) R
  | 0, i, q, h, h0, hq, hk => by
    rw [List.drop_of_length_le (by omega)] at hk
    simp only [prodL, Int.mul_one] at hk
    refine Ev.step (fun k => ?_) hk
    simp only [jam_balance.l0]
    rw [if_neg (by omega)]
  | m + 1, i, q, h, h0, hq, hk => by
    have hi : i < l.length := by omega
    have hb := bt_b ht (hv _ (rdT_mem l i hi))
    have hm := mulb (x := q) (y := (rd_T36 l (i : Int)).f1 * t) (X := 20 ^ i) (Y := 20) (by omega) hq (by omega) hb.2
    have h5 : (20 : Int) ^ i * 20 = 20 ^ (i + 1) := (Int.pow_succ 20 i).symm
    have h6 := pow20 (n := i + 1) (by omega)
    have h7 := pow20 (n := i) (by omega)
    rw [rdT_drop l i hi] at hk
    simp only [prodL] at hk
    rw [← Int.mul_assoc] at hk
    have ih := bal_l0 l t ht hl hv R m (i + 1) (q * ((rd_T36 l (i : Int)).f1 * t)) (by omega) (Int.mul_pos h0 (by omega)) (by omega) hk
    refine Ev.step (fun k => ?_) ih
    simp only [jam_balance.l0]
    rw [if_pos (by omega), if_pos (by omega), if_pos (by omega), wrapN i (by omega), wsm (x := (rd_T36 l (i : Int)).f1 * t) (by unfold sm; omega), wsm (x := q * ((rd_T36 l (i : Int)).f1 * t)) (by unfold sm; omega)]
theorem bal_l1 (l s : List S36) (t p : Int) (ht : t = 1 ∨ t = 2) (hp : 0 < p) (hp2 : p ≤ 160000) (hs : s.length ≤ 4) (hv : ∀ x ∈ s, okL x) (hd : ∀ x ∈ s, (x.f1 * t) ∣ p) (R : List Int × Int × Int × Int) : ∀ (m i : Nat) (n d : Int), i + m = s.length → 0 ≤ n → n ≤ 160000 + 1600000 * i → 0 ≤ d → d ≤ 160000 * i →
    Ev (fun k => jam_balance.j2 k l t p (goB (wv p t) (s.drop i) n d).1 (goB (wv p t) (s.drop i) n d).2) R → Ev (fun k => jam_balance.l1 k l t p n d s (s.length : Int) (i : Int)) R
  | 0, i, n, d, h, n0, n1, d0, d1, hk => by
    rw [List.drop_of_length_le (by omega)] at hk
    simp only [goB] at hk
    refine Ev.step (fun k => ?_) hk
    simp only [jam_balance.l1]
    rw [if_neg (by omega)]
  | m + 1, i, n, d, h, n0, n1, d0, d1, hk => by
    have hi : i < s.length := by omega
    have hx := hv _ (rdT_mem s i hi)
    have hdx := hd _ (rdT_mem s i hi)
    have hb := bt_b ht hx
    have hw := wv_b hdx hp hb.1
    unfold okL at hx
    have hm := mulb (x := (rd_T36 s (i : Int)).f0) (y := wv p t (rd_T36 s (i : Int))) (X := 10) (Y := 160000) (by omega) (by omega) (by omega) (by omega)
    have hm2 := mulb (x := (rd_T36 s (i : Int)).f0) (y := d) (X := 10) (Y := 640000) (by omega) (by omega) (by omega) (by omega)
    rw [rdT_drop s i hi] at hk
    simp only [goB] at hk
    have w1 : wrap64 ((rd_T36 s (i : Int)).f1 * t) = (rd_T36 s (i : Int)).f1 * t := wsm (by unfold sm; omega)
    have w2 : wrap64 (Int.tdiv p ((rd_T36 s (i : Int)).f1 * t)) = wv p t (rd_T36 s (i : Int)) := wsm (by show sm (wv p t (rd_T36 s (i : Int))); unfold sm; omega)
    have w3 : wrap64 ((rd_T36 s (i : Int)).f0 * wv p t (rd_T36 s (i : Int))) = (rd_T36 s (i : Int)).f0 * wv p t (rd_T36 s (i : Int)) := wsm (by unfold sm; omega)
    have w4 : wrap64 (n + (rd_T36 s (i : Int)).f0 * wv p t (rd_T36 s (i : Int))) = n + (rd_T36 s (i : Int)).f0 * wv p t (rd_T36 s (i : Int)) := wsm (by unfold sm; omega)
    have w5 : wrap64 (d + wv p t (rd_T36 s (i : Int))) = d + wv p t (rd_T36 s (i : Int)) := wsm (by unfold sm; omega)
    have w6 : wrap64 ((rd_T36 s (i : Int)).f0 * d) = (rd_T36 s (i : Int)).f0 * d := wsm (by unfold sm; omega)
    by_cases hc : d > 0 ∧ (rd_T36 s (i : Int)).f0 * d ≥ n
    · rw [if_pos hc] at hk
      refine Ev.step (fun k => ?_) hk
      simp only [jam_balance.l1]
      rw [if_pos (by omega), if_pos (by omega), if_pos (by omega), if_pos hc.1, w6, if_pos hc.2]
    · rw [if_neg hc] at hk
      have ih := bal_l1 l s t p ht hp hp2 hs hv hd R m (i + 1) _ _ (by omega) (by omega) (by omega) (by omega) (by omega) hk
      refine Ev.step (fun k => ?_) ih
      simp only [jam_balance.l1]
      rw [if_pos (by omega), if_pos (by omega), if_pos (by omega), wrapN i (by omega), w6, w1, w2, w3, w4, w5]
      by_cases h0 : d > 0
      · rw [if_pos h0, if_neg (fun h => hc ⟨h0, h⟩), if_neg (by omega)]
      · rw [if_neg h0, if_neg (by omega)]
/-- What a lane takes. -/
def nv (w : S36 → Int) (n d : Int) (x : S36) : Int := (if x.f0 * d < n then n - x.f0 * d else 0) * w x
def balT (k : Nat) (p n d : Int) (nums : List Int) : Option (List Int × Int × Int × Int) :=
  (ratio_Parts.f k nums (wrap64 (d * p))).bind fun b => (ratio_Of.f k n d).bind fun c => some (b.1, b.2, c.1, c.2)
theorem bal_l2 (l : List S36) (t p n d : Int) (ht : t = 1 ∨ t = 2) (hp : 0 < p) (hp2 : p ≤ 160000) (hl : l.length ≤ 4) (hv : ∀ x ∈ l, okL x) (hd : ∀ x ∈ l, (x.f1 * t) ∣ p) (n0 : 0 ≤ n) (n1 : n ≤ 6560000) (d0 : 0 ≤ d) (d1 : d ≤ 640000) (R : List Int × Int × Int × Int) : ∀ (m i : Nat) (acc : List Int), i + m = l.length → acc.length = i →
    Ev (fun k => balT k p n d (acc ++ (l.drop i).map (nv (wv p t) n d))) R → Ev (fun k => jam_balance.l2 k t p n d acc l (l.length : Int) (i : Int)) R
  | 0, i, acc, h, ha, hk => by
    rw [List.drop_of_length_le (by omega)] at hk
    simp only [List.map_nil, List.append_nil] at hk
    refine Ev.step (fun k => ?_) hk
    simp only [jam_balance.l2, balT]
    rw [if_neg (by omega)]
  | m + 1, i, acc, h, ha, hk => by
    have hi : i < l.length := by omega
    have hx := hv _ (rdT_mem l i hi)
    have hdx := hd _ (rdT_mem l i hi)
    have hb := bt_b ht hx
    have hw := wv_b hdx hp hb.1
    unfold okL at hx
    have hm2 := mulb (x := (rd_T36 l (i : Int)).f0) (y := d) (X := 10) (Y := 640000) (by omega) (by omega) (by omega) (by omega)
    have w1 : wrap64 ((rd_T36 l (i : Int)).f1 * t) = (rd_T36 l (i : Int)).f1 * t := wsm (by unfold sm; omega)
    have w2 : wrap64 (Int.tdiv p ((rd_T36 l (i : Int)).f1 * t)) = wv p t (rd_T36 l (i : Int)) := wsm (by show sm (wv p t (rd_T36 l (i : Int))); unfold sm; omega)
    have w6 : wrap64 ((rd_T36 l (i : Int)).f0 * d) = (rd_T36 l (i : Int)).f0 * d := wsm (by unfold sm; omega)
    have w7 : wrap64 (n - (rd_T36 l (i : Int)).f0 * d) = n - (rd_T36 l (i : Int)).f0 * d := wsm (by unfold sm; omega)
    have w8 : mx 0 (n - (rd_T36 l (i : Int)).f0 * d) = if (rd_T36 l (i : Int)).f0 * d < n then n - (rd_T36 l (i : Int)).f0 * d else 0 := by
      unfold mx; split <;> split <;> omega
    have hq : 0 ≤ (if (rd_T36 l (i : Int)).f0 * d < n then n - (rd_T36 l (i : Int)).f0 * d else 0) ∧ (if (rd_T36 l (i : Int)).f0 * d < n then n - (rd_T36 l (i : Int)).f0 * d else 0) ≤ 6560000 := by split <;> omega
    have hm3 := mulb (y := wv p t (rd_T36 l (i : Int))) (Y := 160000) hq.1 hq.2 (by omega) (by omega)
    have w9 : wrap64 ((if (rd_T36 l (i : Int)).f0 * d < n then n - (rd_T36 l (i : Int)).f0 * d else 0) * wv p t (rd_T36 l (i : Int))) = nv (wv p t) n d (rd_T36 l (i : Int)) := wsm (by unfold sm; omega)
    rw [rdT_drop l i hi, List.map_cons, show acc ++ nv (wv p t) n d (rd_T36 l (i : Int)) :: (l.drop (i + 1)).map (nv (wv p t) n d) = (acc ++ [nv (wv p t) n d (rd_T36 l (i : Int))]) ++ (l.drop (i + 1)).map (nv (wv p t) n d) by simp] at hk
    have ih := bal_l2 l t p n d ht hp hp2 hl hv hd n0 n1 d0 d1 R m (i + 1) _ (by omega) (by simp [ha]) hk
    refine Ev.step (fun k => ?_) ih
    simp only [jam_balance.l2]
    rw [if_pos (by omega), if_pos (by omega), if_pos (by omega), wrapN i (by omega), w6, w1, w2, w7, w8, w9, if_neg (by omega), if_pos (by omega)]
theorem Good.b {p t : Int} {l : List S36} {n d : Int} (hp : 0 < p) (hp2 : p ≤ 160000) (hl : l.length ≤ 4) (hw : ∀ x ∈ l, okL x ∧ 0 < wv p t x ∧ wv p t x ≤ p) (g : Good (wv p t) p l n d) : 0 ≤ n ∧ n ≤ 6560000 ∧ 0 < d ∧ d ≤ 640000 := by
  obtain ⟨h0, h1, h2⟩ := g
  have a1 : sumL (fun x => if x.f0 * d < n then x.f0 * wv p t x else 0) l ≤ sumL (fun _ => 1600000) l := sumL_le fun x hx => by
    obtain ⟨h3, h4, h5⟩ := hw x hx
    unfold okL at h3
    have := mulb (x := x.f0) (y := wv p t x) (X := 10) (Y := 160000) (by omega) (by omega) (by omega) (by omega)
    split <;> omega
  have a0 : 0 ≤ sumL (fun x => if x.f0 * d < n then x.f0 * wv p t x else 0) l := sumL_pos fun x hx => by
    obtain ⟨h3, h4, h5⟩ := hw x hx
    unfold okL at h3
    have := mulb (x := x.f0) (y := wv p t x) (X := 10) (Y := 160000) (by omega) (by omega) (by omega) (by omega)
    split <;> omega
  have a2 : sumL (fun x => if x.f0 * d < n then wv p t x else 0) l ≤ sumL (fun _ => 160000) l := sumL_le fun x hx => by
    obtain ⟨h3, h4, h5⟩ := hw x hx
    split <;> omega
  rw [sumL_const] at a1 a2
  omega
/-- The whole of balance. -/
theorem balance_ev {l : List S36} {t : Int} (ht : t = 1 ∨ t = 2) (hne : l ≠ []) (hl : l.length ≤ 4) (hv : ∀ x ∈ l, okL x) :
    ∃ n d, Good (wv (prodL t l) t) (prodL t l) l n d ∧ Ev (fun k => jam_balance.f k l t) ((partsR (l.map (nv (wv (prodL t l) t) n d)) (d * prodL t l) (gl (l.map (nv (wv (prodL t l) t) n d)) (d * prodL t l))).1, (partsR (l.map (nv (wv (prodL t l) t) n d)) (d * prodL t l) (gl (l.map (nv (wv (prodL t l) t) n d)) (d * prodL t l))).2, (ratR n d).1, (ratR n d).2) := by
  have hp := prodL_b ht hv
  have hp2 : prodL t l ≤ 160000 := Int.le_trans hp.2 (pow20 hl)
  obtain ⟨s, hs, hperm, hsort⟩ := sorted_ev hne hl hv
  have hvs : ∀ x ∈ s, okL x := fun x hx => hv x (hperm.mem_iff.1 hx)
  have hds : ∀ x ∈ s, (x.f1 * t) ∣ prodL t l := fun x hx => prodL_dvd x (hperm.mem_iff.1 hx)
  have hws : ∀ x ∈ s, okL x ∧ 0 < wv (prodL t l) t x ∧ wv (prodL t l) t x ≤ prodL t l := fun x hx => ⟨hvs x hx, wv_b (hds x hx) hp.1 (bt_b ht (hvs x hx)).1⟩
  have hws2 : ∀ x ∈ l, okL x ∧ 0 < wv (prodL t l) t x ∧ wv (prodL t l) t x ≤ prodL t l := fun x hx => hws x (hperm.mem_iff.2 hx)
  have hsne : s ≠ [] := fun h => hne (by rw [h] at hperm; exact hperm.symm.eq_nil)
  have g := (goB_good (wv (prodL t l) t) (prodL t l) hp.1 s [] (prodL t l) 0 (by simpa using hsort) (by simpa using fun x hx => ⟨(hws x hx).2.1, (hvs x hx).1⟩) (by simpa using hsne) (by simp) (by simp [sumL]) (by simp [sumL]))
  rw [List.nil_append] at g
  generalize hnd : goB (wv (prodL t l) t) s (prodL t l) 0 = nd at g
  have g2 := g.perm hperm
  have gb := g2.b hp.1 hp2 hl hws2
  refine ⟨nd.1, nd.2, g2, ?_⟩
  have hm := mulb (x := nd.2) (y := prodL t l) (X := 640000) (Y := 160000) (by omega) (by omega) (by omega) hp2
  have hdp : 0 < nd.2 * prodL t l := Int.mul_pos gb.2.2.1 hp.1
  have hnum : ∀ y ∈ l.map (nv (wv (prodL t l) t) nd.1 nd.2), sm y := by
    intro y hy
    obtain ⟨x, hx, rfl⟩ := List.mem_map.1 hy
    obtain ⟨h3, h4, h5⟩ := hws2 x hx
    unfold okL at h3
    have hm2 := mulb (x := x.f0) (y := nd.2) (X := 10) (Y := 640000) (by omega) (by omega) (by omega) (by omega)
    have hq : 0 ≤ (if x.f0 * nd.2 < nd.1 then nd.1 - x.f0 * nd.2 else 0) ∧ (if x.f0 * nd.2 < nd.1 then nd.1 - x.f0 * nd.2 else 0) ≤ 6560000 := by split <;> omega
    have hm3 := mulb (y := wv (prodL t l) t x) (Y := 160000) hq.1 hq.2 (by omega) (by omega)
    unfold nv sm
    omega
  have hT : Ev (fun k => balT k (prodL t l) nd.1 nd.2 (l.map (nv (wv (prodL t l) t) nd.1 nd.2))) ((partsR (l.map (nv (wv (prodL t l) t) nd.1 nd.2)) (nd.2 * prodL t l) (gl (l.map (nv (wv (prodL t l) t) nd.1 nd.2)) (nd.2 * prodL t l))).1, (partsR (l.map (nv (wv (prodL t l) t) nd.1 nd.2)) (nd.2 * prodL t l) (gl (l.map (nv (wv (prodL t l) t) nd.1 nd.2)) (nd.2 * prodL t l))).2, (ratR nd.1 nd.2).1, (ratR nd.1 nd.2).2) := by
    unfold balT
    rw [wsm (x := nd.2 * prodL t l) (by unfold sm; omega)]
    exact Ev.bind (parts_ev _ _ (by simp; omega) hnum (by unfold sm; omega) hdp) (Ev.bind (of_ev (by unfold sm; omega) (by unfold sm; omega) gb.2.2.1) (Ev.now _))
  have h2 := bal_l2 l t (prodL t l) nd.1 nd.2 ht hp.1 hp2 hl hv (fun x hx => prodL_dvd x hx) gb.1 gb.2.1 (by omega) gb.2.2.2 _ l.length 0 [] (by omega) rfl (by simpa using hT)
  have h3 : Ev (fun k => jam_balance.j2 k l t (prodL t l) nd.1 nd.2) _ := Ev.step (fun k => by simp only [jam_balance.j2]; rfl) h2
  have h4 := bal_l1 l s t (prodL t l) ht hp.1 hp2 (by rw [hperm.length_eq]; exact hl) hvs hds _ s.length 0 (prodL t l) 0 (by omega) (by omega) (by omega) (by omega) (by omega) (by simp only [List.drop_zero]; rw [hnd]; exact h3)
  unfold jam_balance.f
  refine bal_l0 l t ht hl hv _ l.length 0 1 (by omega) (by omega) (by simp) ?_
  simp only [Int.one_mul, List.drop_zero]
  exact Ev.congr (fun k => by rw [hs]; rfl) h4
end Go.Proofs.Ytjgbdicbdlollaa.B
namespace Go.Proofs.Ytjgbdicbdlollaa.B
open Go.RowKit Go.Sort Go.Proofs.YtjgbdicbdlollaaW.PrintWords Go.Proofs.YtjgbdicbdlollaaW.PrintLast Go.Proofs.YtjgbdicbdlollaaW.PrintMore
set_option linter.unusedVariables false
set_option linter.unusedSimpArgs false
theorem gl_scale {c : Int} (hc : 0 < c) : ∀ (l : List Int) (d : Int), gl (l.map fun x => c * x) (c * d) = c * gl l d
  | [], d => rfl
  | n :: l, d => by
    simp only [List.map_cons, gl]
    have e : (Int.gcd (c * d) (c * n) : Int) = c * (Int.gcd d n : Int) := by
      rw [Int.gcd_mul_left, Int.natCast_mul]; congr 1; omega
    rw [e, gl_scale hc l]
theorem partsR_scale {c : Int} (hc : 0 < c) (l : List Int) (d : Int) : partsR (l.map fun x => c * x) (c * d) (gl (l.map fun x => c * x) (c * d)) = partsR l d (gl l d) := by
  rw [gl_scale hc]
  unfold partsR
  rw [List.map_map]
  congr 1
  · exact List.map_congr_left fun x _ => Int.mul_tdiv_mul_of_pos _ _ hc
  · exact Int.mul_tdiv_mul_of_pos _ _ hc
theorem dvd5040 {t : Int} (ht : t = 1 ∨ t = 2) {x : S36} (h : okL x) : (x.f1 * t) ∣ 5040 := by
  unfold okL at h
  have h1 : x.f1 = 1 ∨ x.f1 = 2 ∨ x.f1 = 3 ∨ x.f1 = 4 ∨ x.f1 = 5 ∨ x.f1 = 6 ∨ x.f1 = 7 ∨ x.f1 = 8 ∨ x.f1 = 9 ∨ x.f1 = 10 := by omega
  rcases ht with rfl | rfl <;> rcases h1 with e | e | e | e | e | e | e | e | e | e <;> rw [e] <;> decide
theorem wv_cross {p t : Int} (ht : t = 1 ∨ t = 2) {x : S36} (h : okL x) (hd : (x.f1 * t) ∣ p) : 5040 * wv p t x = p * wv 5040 t x := by
  have e1 := wv_mul hd
  have e2 := wv_mul (dvd5040 ht h)
  have hb := bt_b ht h
  refine Int.eq_of_mul_eq_mul_right (show x.f1 * t ≠ 0 by omega) ?_
  rw [Int.mul_assoc, e1, Int.mul_assoc, e2, Int.mul_comm]
/-- The same time, with numbers of one size. -/
theorem Good.canon {p t : Int} (ht : t = 1 ∨ t = 2) {l : List S36} {n d : Int} (hp : 0 < p) (hv : ∀ x ∈ l, okL x) (hd : ∀ x ∈ l, (x.f1 * t) ∣ p) (g : Good (wv p t) p l n d) :
    ∃ N C, Good (wv 5040 t) 5040 l N C ∧ 5040 * n = p * N ∧ 5040 * d = p * C := by
  obtain ⟨h0, h1, h2⟩ := g
  have e1 : 5040 * d = p * sumL (fun x => if x.f0 * d < n then wv 5040 t x else 0) l := by
    rw [← sumL_mul]
    conv => lhs; rw [h2, ← sumL_mul]
    refine sumL_congr fun x hx => ?_
    split
    · exact wv_cross ht (hv x hx) (hd x hx)
    · simp
  have e2 : 5040 * n = p * (5040 + sumL (fun x => if x.f0 * d < n then x.f0 * wv 5040 t x else 0) l) := by
    rw [Int.mul_add, ← sumL_mul]
    conv => lhs; rw [h1, Int.mul_add, ← sumL_mul]
    rw [Int.mul_comm 5040 p]
    congr 1
    refine sumL_congr fun x hx => ?_
    split
    · rw [Int.mul_left_comm, wv_cross ht (hv x hx) (hd x hx), Int.mul_left_comm]
    · simp
  refine ⟨_, _, ?_, e2, e1⟩
  generalize hC : sumL (fun x => if x.f0 * d < n then wv 5040 t x else 0) l = C at *
  generalize hN : (5040 + sumL (fun x => if x.f0 * d < n then x.f0 * wv 5040 t x else 0) l) = N at *
  have hs : ∀ x : S36, (x.f0 * d < n) ↔ (x.f0 * C < N) := by
    intro x
    have a1 : 5040 * (x.f0 * d) = p * (x.f0 * C) := by rw [Int.mul_left_comm, e1, Int.mul_left_comm]
    constructor
    · intro h
      have : p * (x.f0 * C) < p * N := by omega
      exact Int.lt_of_mul_lt_mul_left this (Int.le_of_lt hp)
    · intro h
      have : p * (x.f0 * C) < p * N := Int.mul_lt_mul_of_pos_left h hp
      omega
  refine ⟨?_, ?_, ?_⟩
  · rcases Int.lt_trichotomy C 0 with h | h | h
    · have := Int.mul_neg_of_pos_of_neg hp h; omega
    · rw [h] at e1; simp at e1; omega
    · exact h
  · rw [← hN]; congr 1; rw [hN]
    refine sumL_congr fun x hx => ?_
    by_cases hx : x.f0 * d < n
    · rw [if_pos hx, if_pos ((hs x).1 hx)]
    · rw [if_neg hx, if_neg fun h => hx ((hs x).2 h)]
  · conv => lhs; rw [← hC]
    refine sumL_congr fun x hx => ?_
    by_cases hx : x.f0 * d < n
    · rw [if_pos hx, if_pos ((hs x).1 hx)]
    · rw [if_neg hx, if_neg fun h => hx ((hs x).2 h)]
theorem nv_canon {p t : Int} (ht : t = 1 ∨ t = 2) {x : S36} (h : okL x) (hd : (x.f1 * t) ∣ p) (hp : 0 < p) {n d N C : Int} (e2 : 5040 * n = p * N) (e1 : 5040 * d = p * C) :
    (5040 * 5040) * nv (wv p t) n d x = (p * p) * nv (wv 5040 t) N C x := by
  have hw := wv_cross ht h hd
  have a1 : 5040 * (x.f0 * d) = p * (x.f0 * C) := by rw [Int.mul_left_comm, e1, Int.mul_left_comm]
  have hs : (x.f0 * d < n) ↔ (x.f0 * C < N) := by
    constructor
    · intro h
      have : p * (x.f0 * C) < p * N := by omega
      exact Int.lt_of_mul_lt_mul_left this (Int.le_of_lt hp)
    · intro h
      have : p * (x.f0 * C) < p * N := Int.mul_lt_mul_of_pos_left h hp
      omega
  unfold nv
  by_cases hx : x.f0 * d < n
  · rw [if_pos hx, if_pos (hs.1 hx)]
    have a2 : 5040 * (n - x.f0 * d) = p * (N - x.f0 * C) := by rw [Int.mul_sub, Int.mul_sub, a1, e2]
    calc (5040 * 5040) * ((n - x.f0 * d) * wv p t x) = (5040 * (n - x.f0 * d)) * (5040 * wv p t x) := by
          generalize n - x.f0 * d = u; generalize wv p t x = v
          rw [Int.mul_assoc 5040 5040, Int.mul_left_comm 5040 u v, ← Int.mul_assoc 5040 u]
      _ = (p * (N - x.f0 * C)) * (p * wv 5040 t x) := by rw [a2, hw]
      _ = (p * p) * ((N - x.f0 * C) * wv 5040 t x) := by
          generalize N - x.f0 * C = u; generalize wv 5040 t x = v
          rw [Int.mul_assoc p p, Int.mul_left_comm p u v, ← Int.mul_assoc p u]
  · rw [if_neg hx, if_neg fun h => hx (hs.2 h)]; simp
theorem parts_canon {p t : Int} (ht : t = 1 ∨ t = 2) {l : List S36} (hv : ∀ x ∈ l, okL x) (hd : ∀ x ∈ l, (x.f1 * t) ∣ p) (hp : 0 < p) {n d N C : Int} (e2 : 5040 * n = p * N) (e1 : 5040 * d = p * C) :
    partsR (l.map (nv (wv p t) n d)) (d * p) (gl (l.map (nv (wv p t) n d)) (d * p)) = partsR (l.map (nv (wv 5040 t) N C)) (C * 5040) (gl (l.map (nv (wv 5040 t) N C)) (C * 5040)) := by
  rw [← partsR_scale (c := 5040 * 5040) (by decide) (l.map (nv (wv p t) n d)), ← partsR_scale (c := p * p) (Int.mul_pos hp hp) (l.map (nv (wv 5040 t) N C))]
  have a : (l.map (nv (wv p t) n d)).map (fun x => (5040 * 5040) * x) = (l.map (nv (wv 5040 t) N C)).map (fun x => (p * p) * x) := by
    rw [List.map_map, List.map_map]
    exact List.map_congr_left fun x hx => nv_canon ht (hv x hx) (hd x hx) hp e2 e1
  have b : (5040 * 5040) * (d * p) = (p * p) * (C * 5040) := by
    calc (5040 * 5040) * (d * p) = (5040 * d) * (p * 5040) := by
          rw [Int.mul_assoc 5040 5040, Int.mul_left_comm 5040 d p, ← Int.mul_assoc 5040 d, Int.mul_comm 5040 p]
      _ = (p * p) * (C * 5040) := by rw [e1, Int.mul_assoc p C, Int.mul_left_comm C p, ← Int.mul_assoc p p]
  rw [a, b]
theorem tdiv_b {a b : Int} (h : 0 < b) (h1 : b ≤ a) : 1 ≤ Int.tdiv a b ∧ Int.tdiv a b ≤ a := by
  rw [Int.tdiv_eq_ediv_of_nonneg (by omega)]
  exact ⟨(Int.le_ediv_iff_mul_le h).2 (by omega), Int.ediv_le_self _ (by omega)⟩
theorem tdiv_mono {a b c : Int} (h : 0 < c) (h0 : 0 ≤ a) (h1 : a ≤ b) : 0 ≤ Int.tdiv a c ∧ Int.tdiv a c ≤ Int.tdiv b c := by
  rw [Int.tdiv_eq_ediv_of_nonneg h0, Int.tdiv_eq_ediv_of_nonneg (by omega)]
  exact ⟨Int.ediv_nonneg h0 (by omega), Int.ediv_le_ediv h h1⟩
theorem parts_b {t : Int} (ht : t = 1 ∨ t = 2) {l : List S36} (hl : l.length ≤ 4) (hv : ∀ x ∈ l, okL x) {N C : Int} (g : Good (wv 5040 t) 5040 l N C) :
    let P := partsR (l.map (nv (wv 5040 t) N C)) (C * 5040) (gl (l.map (nv (wv 5040 t) N C)) (C * 5040))
    P.1.length = l.length ∧ 0 < P.2 ∧ P.2 ≤ 101606400 ∧ ∀ y ∈ P.1, 0 ≤ y ∧ y ≤ P.2 := by
  intro P
  have hw : ∀ x ∈ l, 0 < wv 5040 t x ∧ wv 5040 t x ≤ 5040 := fun x hx => wv_b (dvd5040 ht (hv x hx)) (by decide) (bt_b ht (hv x hx)).1
  have hC : C ≤ 20160 := by
    have a2 : sumL (fun x => if x.f0 * C < N then wv 5040 t x else 0) l ≤ sumL (fun _ => 5040) l := sumL_le fun x hx => by
      have := hw x hx; split <;> omega
    rw [sumL_const, ← g.2.2] at a2
    omega
  have h0 := g.1
  have hg := gl_pos (l.map (nv (wv 5040 t) N C)) (C * 5040) (by unfold sm; omega) (by omega)
  have hD := tdiv_b hg.2.1 hg.2.2
  refine ⟨by simp [P, partsR], show 0 < Int.tdiv _ _ by omega, show Int.tdiv _ _ ≤ _ by omega, fun y hy => ?_⟩
  obtain ⟨z, hz, rfl⟩ := List.mem_map.1 hy
  obtain ⟨x, hx, rfl⟩ := List.mem_map.1 hz
  have hf := g.full
  have hnn : ∀ x ∈ l, 0 ≤ (if x.f0 * C < N then wv 5040 t x * (N - x.f0 * C) else 0) := fun x hx => by
    split
    · exact Int.mul_nonneg (by have := hw x hx; omega) (by omega)
    · omega
  have hm := sumL_mem hnn x hx
  rw [hf] at hm
  have e : nv (wv 5040 t) N C x = (if x.f0 * C < N then wv 5040 t x * (N - x.f0 * C) else 0) := by
    unfold nv; split
    · exact Int.mul_comm _ _
    · simp
  have h1 := hnn x hx
  exact tdiv_mono hg.2.1 (by rw [e]; exact h1) (by rw [e]; omega)
/-- A delay's sum. -/
def delS (l : List S36) (X : List Int) (D : Int) : Nat → Nat → Int → Int
  | 0, _, s => s
  | m + 1, i, s => delS l X D m (i + 1) (s + rd X (i : Int) * ((rd_T36 l (i : Int)).f0 * D + (rd_T36 l (i : Int)).f1 * rd X (i : Int)))
theorem del_term {l : List S36} {X : List Int} {D : Int} (hX : X.length = l.length) (hv : ∀ x ∈ l, okL x) (h0 : 0 < D) (h1 : D ≤ 101606400) (hy : ∀ y ∈ X, 0 ≤ y ∧ y ≤ D) (i : Nat) (hi : i < l.length) :
    let a := (rd_T36 l (i : Int)).f0 * D
    let b := (rd_T36 l (i : Int)).f1 * rd X (i : Int)
    (0 ≤ a ∧ a ≤ 1016064000) ∧ (0 ≤ b ∧ b ≤ 1016064000) ∧ 0 ≤ rd X (i : Int) * (a + b) ∧ rd X (i : Int) * (a + b) ≤ 206477210419200000 := by
  intro a b
  have hx := hv _ (rdT_mem l i hi)
  have hn := hy _ (rd_mem2 X i (by omega))
  unfold okL at hx
  have m1 := mulb (x := (rd_T36 l (i : Int)).f0) (y := D) (X := 10) (Y := 101606400) (by omega) (by omega) (by omega) h1
  have m2 := mulb (x := (rd_T36 l (i : Int)).f1) (y := rd X (i : Int)) (X := 10) (Y := 101606400) (by omega) (by omega) (by omega) (by omega)
  have m3 := mulb (x := rd X (i : Int)) (y := a + b) (X := 101606400) (Y := 2032128000) (by omega) (by omega) (by omega) (by omega)
  refine ⟨⟨by omega, by omega⟩, ⟨by omega, by omega⟩, by omega, by omega⟩
theorem delS_ev {l : List S36} {X : List Int} {D : Int} (hl : l.length ≤ 4) (hX : X.length = l.length) (hv : ∀ x ∈ l, okL x) (h0 : 0 < D) (h1 : D ≤ 101606400) (hy : ∀ y ∈ X, 0 ≤ y ∧ y ≤ D) : ∀ (m i : Nat) (s : Int), i + m = l.length → 0 ≤ s → s ≤ 206477210419200000 * i →
    (delL l X D m i s = some (delS l X D m i s) ∧ 0 ≤ delS l X D m i s ∧ delS l X D m i s ≤ 206477210419200000 * 4) ∧ Ev (fun k => trishawref02_delay.l0 k l s (i : Int) X D) (ratR (delS l X D m i s) (D * D))
  | 0, i, s, h, s0, s1 => by
    have hDD := mulb (x := D) (y := D) (X := 101606400) (Y := 101606400) (by omega) h1 (by omega) h1
    have hD2 : 0 < D * D := Int.mul_pos h0 h0
    refine ⟨⟨rfl, s0, by simp only [delS]; omega⟩, ?_⟩
    simp only [delS]
    refine Ev.step (f := fun k => (trishawref01_Ratio.f k s (D * D)).bind fun bt => some (bt.1, bt.2)) (fun k => ?_) (Ev.bind (ratio_ev (by unfold sm; omega) (by unfold sm; omega) hD2) (Ev.now _))
    simp only [trishawref02_delay.l0]
    rw [if_neg (by omega), wsm (x := D * D) (by unfold sm; omega)]
  | m + 1, i, s, h, s0, s1 => by
    have hi : i < l.length := by omega
    have hT := del_term hX hv h0 h1 hy i hi
    simp only at hT
    obtain ⟨⟨a0, a1⟩, ⟨b0, b1⟩, c0, c1⟩ := hT
    have ih := delS_ev hl hX hv h0 h1 hy m (i + 1) (s + rd X (i : Int) * ((rd_T36 l (i : Int)).f0 * D + (rd_T36 l (i : Int)).f1 * rd X (i : Int))) (by omega) (by omega) (by omega)
    have w1 : wrap64 ((rd_T36 l (i : Int)).f0 * D) = (rd_T36 l (i : Int)).f0 * D := wsm (by unfold sm; omega)
    have w2 : wrap64 ((rd_T36 l (i : Int)).f1 * rd X (i : Int)) = (rd_T36 l (i : Int)).f1 * rd X (i : Int) := wsm (by unfold sm; omega)
    have w3 : wrap64 ((rd_T36 l (i : Int)).f0 * D + (rd_T36 l (i : Int)).f1 * rd X (i : Int)) = (rd_T36 l (i : Int)).f0 * D + (rd_T36 l (i : Int)).f1 * rd X (i : Int) := wsm (by unfold sm; omega)
    have w4 : wrap64 (rd X (i : Int) * ((rd_T36 l (i : Int)).f0 * D + (rd_T36 l (i : Int)).f1 * rd X (i : Int))) = rd X (i : Int) * ((rd_T36 l (i : Int)).f0 * D + (rd_T36 l (i : Int)).f1 * rd X (i : Int)) := wsm (by unfold sm; omega)
    have w5 : wrap64 (s + rd X (i : Int) * ((rd_T36 l (i : Int)).f0 * D + (rd_T36 l (i : Int)).f1 * rd X (i : Int))) = s + rd X (i : Int) * ((rd_T36 l (i : Int)).f0 * D + (rd_T36 l (i : Int)).f1 * rd X (i : Int)) := wsm (by unfold sm; omega)
    refine ⟨⟨?_, ih.1.2⟩, ?_⟩
    · simp only [delL, delS, laneCost]
      rw [if_pos (by omega), w1, w2, w3, w4, w5]
      exact ih.1.1
    · refine Ev.step (fun k => ?_) ih.2
      simp only [trishawref02_delay.l0]
      rw [if_pos (by omega), if_pos (by omega), if_pos (by omega), wrapN i (by omega), w1, w2, w3, w4, w5]
theorem delay_ev {l : List S36} {X : List Int} {D : Int} (hl : l.length ≤ 4) (hX : X.length = l.length) (hv : ∀ x ∈ l, okL x) (h0 : 0 < D) (h1 : D ≤ 101606400) (hy : ∀ y ∈ X, 0 ≤ y ∧ y ≤ D) :
    Ev (fun k => jam_delay.f k l X D) (ratR (delS l X D l.length 0 0) (D * D)) ∧ Ev (fun k => trishawref02_delay.f k l X D) (ratR (delS l X D l.length 0 0) (D * D)) := by
  have hDD := mulb (x := D) (y := D) (X := 101606400) (Y := 101606400) (by omega) h1 (by omega) h1
  have hD2 : 0 < D * D := Int.mul_pos h0 h0
  obtain ⟨⟨e1, e2, e3⟩, e4⟩ := delS_ev hl hX hv h0 h1 hy l.length 0 0 (by omega) (by omega) (by omega)
  refine ⟨?_, e4⟩
  refine Ev.congr (f := fun k => ratio_Of.f k (delS l X D l.length 0 0) (D * D)) (fun k => ?_) (of_ev (by unfold sm; omega) (by unfold sm; omega) hD2)
  unfold jam_delay.f
  rw [if_pos (by omega), e1, wsm (x := D * D) (by unfold sm; omega)]
  rfl
theorem okL_iff (x : S36) : okL x ↔ badLane x = false := by
  unfold okL badLane
  simp only [Bool.or_eq_false_iff, decide_eq_false_iff_not]
  omega
/-- The judgement on lanes. -/
def laneE (l : List S36) : Int := if 4 < l.length then 3 else if l = [] ∨ l.any badLane = true then 2 else 0
theorem stream_laneE (l : List S36) : jam_stream.f l = some (laneE l) := rfl
theorem lanes_l0 (l : List S36) (hl : l.length ≤ 4) : ∀ (m i : Nat), i + m = l.length → Ev (fun k => trishawref02_Lanes.l0 k l (i : Int)) (if (l.drop i).any badLane = true then 2 else 0)
  | 0, i, h => by
    rw [List.drop_of_length_le (by omega)]
    refine Ev.step (f := fun _ => some 0) (fun k => ?_) (Ev.now _)
    simp only [trishawref02_Lanes.l0]
    rw [if_neg (by omega)]
  | m + 1, i, h => by
    have hi : i < l.length := by omega
    have ih := lanes_l0 l hl m (i + 1) (by omega)
    rw [rdT_drop l i hi, List.any_cons]
    generalize hx : rd_T36 l (i : Int) = x at *
    cases hb : badLane x with
    | true =>
      simp only [Bool.true_or, if_true]
      have hj : Ev (fun k => trishawref02_Lanes.j1 k l (i : Int) true) 2 := Ev.step (f := fun _ => some 2) (fun k => by simp [trishawref02_Lanes.j1]) (Ev.now _)
      refine Ev.step (fun k => ?_) hj
      simp only [trishawref02_Lanes.l0]
      rw [if_pos (by omega), if_pos (by omega), hx]
      unfold badLane at hb
      simp only [Bool.or_eq_true, decide_eq_true_eq] at hb
      by_cases h1 : x.f0 < 0
      · rw [if_pos h1]
      · rw [if_neg h1]
        by_cases h2 : x.f0 > 10
        · rw [if_pos h2]
        · rw [if_neg h2]
          by_cases h3 : x.f1 < 1
          · rw [if_pos h3]
          · rw [if_neg h3, decide_eq_true (show x.f1 > 10 by omega)]
    | false =>
      simp only [Bool.false_or]
      have hx2 := (okL_iff x).2 hb
      unfold okL at hx2
      have hj : Ev (fun k => trishawref02_Lanes.j1 k l (i : Int) false) _ := Ev.step (f := fun k => trishawref02_Lanes.l0 k l ((i + 1 : Nat) : Int)) (fun k => by simp only [trishawref02_Lanes.j1]; rw [if_neg (by simp), wrapN i (by omega)]) ih
      refine Ev.step (fun k => ?_) hj
      simp only [trishawref02_Lanes.l0]
      rw [if_pos (by omega), if_pos (by omega), hx, if_neg (by omega), if_neg (by omega), if_neg (by omega), decide_eq_false (by omega)]
theorem lanes_ev (l : List S36) (hl : l.length < 1000000) : Ev (fun k => trishawref02_Lanes.f k l) (laneE l) := by
  unfold trishawref02_Lanes.f laneE
  by_cases h4 : 4 < l.length
  · rw [if_pos h4]; refine Ev.congr (f := fun _ => some 3) (fun k => ?_) (Ev.now _); rw [if_pos (by omega)]
  · rw [if_neg h4]
    by_cases h0 : l = []
    · subst h0; rw [if_pos (Or.inl rfl)]; refine Ev.congr (f := fun _ => some 2) (fun k => ?_) (Ev.now _); simp
    · have h1 : l.length ≠ 0 := by simpa using h0
      have hh := lanes_l0 l (by omega) l.length 0 (by omega)
      have e : (if l = [] ∨ l.any badLane = true then (2 : Int) else 0) = (if (l.drop 0).any badLane = true then 2 else 0) := by simp [h0]
      rw [e]
      refine Ev.congr (fun k => ?_) hh
      rw [if_neg (by omega), if_neg (by omega)]
      rfl
theorem laneE_ok {l : List S36} (h : laneE l = 0) : l ≠ [] ∧ l.length ≤ 4 ∧ ∀ x ∈ l, okL x := by
  unfold laneE at h
  split at h
  · omega
  · split at h
    · omega
    · rename_i h1 h2
      refine ⟨fun e => h2 (Or.inl e), by omega, fun x hx => (okL_iff x).2 ?_⟩
      cases hb : badLane x with
      | false => rfl
      | true => exact absurd (Or.inr (List.any_eq_true.2 ⟨x, hx, hb⟩)) h2
theorem same_l0 (x : List Int) (hx : x.length < 1000000) : ∀ (m i : Nat), i + m = x.length → Ev (fun k => trishawlaw02_same.l0 k x x (i : Int)) true
  | 0, i, h => by
    refine Ev.step (f := fun _ => some true) (fun k => ?_) (Ev.now _)
    simp only [trishawlaw02_same.l0]
    rw [if_neg (by omega)]
  | m + 1, i, h => by
    refine Ev.step (fun k => ?_) (same_l0 x hx m (i + 1) (by omega))
    simp only [trishawlaw02_same.l0]
    rw [if_pos (by omega), if_pos (by omega), if_pos (by omega), if_pos True.intro, wrapN i (by omega)]
theorem same_ev (x : List Int) (hx : x.length < 1000000) : Ev (fun k => trishawlaw02_same.f k x x) true := by
  refine Ev.congr (fun k => ?_) (same_l0 x hx x.length 0 (by omega))
  unfold trishawlaw02_same.f
  rw [if_pos rfl]; rfl
theorem parts_same (x : List Int) (d : Int) (hx : x.length < 1000000) : Ev (fun k => trishawlaw02_parts.f k x d x d) true := by
  unfold trishawlaw02_parts.f
  refine Ev.congr (fun k => if_pos rfl) (Ev.bind (same_ev x hx) (Ev.now true))
end Go.Proofs.Ytjgbdicbdlollaa.B
namespace Go.Proofs.Ytjgbdicbdlollaa.B
open Go.RowKit Go.Sort Go.Proofs.YtjgbdicbdlollaaW.PrintWords Go.Proofs.YtjgbdicbdlollaaW.PrintLast Go.Proofs.YtjgbdicbdlollaaW.PrintMore
theorem alive_ev : Ev (fun k => trishawlaw02_alive.f k) true := ⟨60, fun k hk => alive_from k hk⟩
theorem alive_ev2 : Ev (fun k => (trishawlaw02_alive.f k).bind fun t => some t) true := Ev.bind alive_ev (Ev.now true)
end Go.Proofs.Ytjgbdicbdlollaa.B
namespace Go.Proofs.Ytjgbdicbdlollaa.B
open Go.RowKit Go.Sort Go.Proofs.YtjgbdicbdlollaaW.PrintWords Go.Proofs.YtjgbdicbdlollaaW.PrintLast Go.Proofs.YtjgbdicbdlollaaW.PrintMore
set_option linter.unusedVariables false
set_option linter.unusedSimpArgs false
/-- A lane with 2 B in the place of B. -/
def dblL (x : S36) : S36 := ⟨x.f0, 2 * x.f1⟩
theorem prodL_dbl : ∀ l : List S36, prodL 1 (l.map dblL) = prodL 2 l
  | [] => rfl
  | x :: l => by
    simp only [List.map_cons, prodL, prodL_dbl l, dblL]
    rw [Int.mul_comm 2, Int.mul_one]
theorem wv_dbl (p : Int) (x : S36) : wv p 1 (dblL x) = wv p 2 x := by
  unfold wv dblL
  rw [Int.mul_comm 2, Int.mul_one]
theorem sumL_map (f : S36 → Int) (g : S36 → S36) : ∀ l : List S36, sumL f (l.map g) = sumL (fun x => f (g x)) l
  | [] => rfl
  | x :: l => by simp only [List.map_cons, sumL, sumL_map f g l]
theorem Good.dbl {p : Int} {l : List S36} {n d : Int} (g : Good (wv p 1) p (l.map dblL) n d) : Good (wv p 2) p l n d := by
  obtain ⟨h0, h1, h2⟩ := g
  rw [sumL_map] at h1 h2
  simp only [wv_dbl] at h1 h2
  exact ⟨h0, h1, h2⟩
theorem nv_dbl (p n d : Int) (x : S36) : nv (wv p 1) n d (dblL x) = nv (wv p 2) n d x := by
  unfold nv
  rw [wv_dbl]
  rfl
theorem marg_end {l : List S36} (hne : l ≠ []) (hl : l.length ≤ 4) (hv : ∀ x ∈ l, okL x) (hd : ∀ x ∈ l, 2 * x.f1 ≤ 10) :
    Ev (fun k => (jam_Cheapest.f k l).bind fun bt110 => ((jam_Balance.f k (l.map dblL)).bind fun bt119 => (if bt110.2.2.2.2 = 0 then (if bt119.2.2.2.2 = 0 then ((trishawlaw02_parts.f k bt110.1 bt110.2.1 bt119.1 bt119.2.1).bind fun t128 => (if t128 = true then ((trishawlaw02_alive.f k).bind fun t129 => (some t129)) else (some false))) else (some false)) else (some false)))) true := by
  have hv2 : ∀ x ∈ l.map dblL, okL x := by
    intro x hx
    obtain ⟨y, hy, rfl⟩ := List.mem_map.1 hx
    have h1 := hv y hy
    have h2 := hd y hy
    unfold okL at *
    simp only [dblL]
    omega
  have hne2 : l.map dblL ≠ [] := by simpa using hne
  have hl2 : (l.map dblL).length ≤ 4 := by simpa using hl
  have e1 : laneE l = 0 := by
    unfold laneE
    rw [if_neg (by omega), if_neg (fun h => h.elim hne fun h => by
      obtain ⟨x, hx, hb⟩ := List.any_eq_true.1 h
      rw [(okL_iff x).1 (hv x hx)] at hb; exact absurd hb (by simp))]
  have e2 : laneE (l.map dblL) = 0 := by
    unfold laneE
    rw [if_neg (by omega), if_neg (fun h => h.elim hne2 fun h => by
      obtain ⟨x, hx, hb⟩ := List.any_eq_true.1 h
      rw [(okL_iff x).1 (hv2 x hx)] at hb; exact absurd hb (by simp))]
  obtain ⟨n, d, g, h⟩ := balance_ev (t := 2) (Or.inr rfl) hne hl hv
  obtain ⟨n', d', g', h'⟩ := balance_ev (t := 1) (Or.inl rfl) hne2 hl2 hv2
  have hp := prodL_b (t := 2) (Or.inr rfl) hv
  rw [prodL_dbl] at g' h'
  have g2 := g'.dbl
  have hwp : ∀ x ∈ l, 0 < wv (prodL 2 l) 2 x := fun x hx => (wv_b (prodL_dvd x hx) hp.1 (bt_b (Or.inr rfl) (hv x hx)).1).1
  obtain ⟨rfl, rfl⟩ := Good.uniq hwp hp.1 g g2
  rw [List.map_map, show nv (wv (prodL 2 l) 1) n d ∘ dblL = nv (wv (prodL 2 l) 2) n d from funext fun x => nv_dbl _ n d x] at h'
  obtain ⟨N, C, gc, c2, c1⟩ := g.canon (Or.inr rfl) hp.1 hv (fun x hx => prodL_dvd x hx)
  rw [parts_canon (Or.inr rfl) hv (fun x hx => prodL_dvd x hx) hp.1 c2 c1] at h h'
  have hb := parts_b (Or.inr rfl) hl hv gc
  simp only at hb
  generalize partsR (l.map (nv (wv 5040 2) N C)) (C * 5040) (gl (l.map (nv (wv 5040 2) N C)) (C * 5040)) = P at h h' hb
  obtain ⟨hb1, hb2, hb3, hb4⟩ := hb
  have hdl := (delay_ev hl hb1 hv hb2 hb3 hb4).1
  have hc : Ev (fun k => jam_Cheapest.f k l) (P.1, P.2, (ratR (delS l P.1 P.2 l.length 0 0) (P.2 * P.2)).1, (ratR (delS l P.1 P.2 l.length 0 0) (P.2 * P.2)).2, 0) := by
    unfold jam_Cheapest.f
    refine Ev.congr (fun k => by rw [stream_laneE, Option.bind_some, e1, if_pos rfl]) (Ev.bind h (Ev.bind (f := fun _ (c : Int × Int) => some (P.1, P.2, c.1, c.2, (0 : Int))) hdl (Ev.now _)))
  have hbl : Ev (fun k => jam_Balance.f k (l.map dblL)) (P.1, P.2, (ratR n d).1, (ratR n d).2, 0) := by
    unfold jam_Balance.f
    refine Ev.congr (fun k => by rw [stream_laneE, Option.bind_some, e2, if_pos rfl]) (Ev.bind h' (Ev.now _))
  refine Ev.bind hc (Ev.bind hbl ?_)
  refine Ev.congr (fun k => by rw [if_pos rfl, if_pos rfl]) (Ev.bind (parts_same P.1 P.2 (by omega)) (Ev.congr (fun k => by rw [if_pos rfl]) alive_ev2))
theorem marg_l0 {l : List S36} (hne : l ≠ []) (hl : l.length ≤ 4) (hv : ∀ x ∈ l, okL x) : ∀ (m i : Nat), i + m = l.length → (∀ x ∈ l.take i, 2 * x.f1 ≤ 10) →
    Ev (fun k => trishawlaw02_JamMarginal.l0 k l ((l.take i).map dblL) (i : Int)) true
  | 0, i, h, hd => by
    rw [List.take_of_length_le (by omega)] at *
    refine Ev.step (fun k => ?_) (marg_end hne hl hv hd)
    simp only [trishawlaw02_JamMarginal.l0]
    rw [if_neg (by omega)]
  | m + 1, i, h, hd => by
    have hi : i < l.length := by omega
    have hx := hv _ (rdT_mem l i hi)
    unfold okL at hx
    have w1 : wrap64 (2 * (rd_T36 l (i : Int)).f1) = 2 * (rd_T36 l (i : Int)).f1 := wsm (by unfold sm; omega)
    have ht : l.take (i + 1) = l.take i ++ [rd_T36 l (i : Int)] := by
      rw [List.take_add_one, List.getElem?_eq_getElem hi]
      simp [rd_T36, List.getD, List.getElem?_eq_getElem hi]
    by_cases hb : 2 * (rd_T36 l (i : Int)).f1 > 10
    · refine Ev.step (fun k => ?_) alive_ev2
      simp only [trishawlaw02_JamMarginal.l0]
      rw [if_pos (by omega), if_pos (by omega), w1, if_pos hb]
    · have ih := marg_l0 hne hl hv m (i + 1) (by omega) (by
        rw [ht]; intro x hx2
        rcases List.mem_append.1 hx2 with h1 | h1
        · exact hd x h1
        · have : x = rd_T36 l (i : Int) := by simpa using h1
          subst this; omega)
      rw [ht, List.map_append] at ih
      refine Ev.step (fun k => ?_) ih
      simp only [trishawlaw02_JamMarginal.l0]
      rw [if_pos (by omega), if_pos (by omega), w1, if_neg hb, if_pos (by simp; omega), wrapN i (by omega)]
      rfl
theorem marginal_ev (l : List S36) (hs : l.length ≤ maxLen) : Ev (fun k => trishawlaw02_JamMarginal.f k l) true := by
  unfold trishawlaw02_JamMarginal.f
  have hj : Ev (fun k => trishawlaw02_JamMarginal.j0 k l true) true := Ev.step (fun k => by simp only [trishawlaw02_JamMarginal.j0]; rw [if_pos trivial]) alive_ev2
  by_cases h20 : (l.length : Int) > 20
  · exact Ev.congr (fun k => if_pos h20) hj
  · refine Ev.congr (fun k => if_neg h20) (Ev.bind (lanes_ev l (by omega)) ?_)
    by_cases h0 : laneE l = 0
    · obtain ⟨hne, hl, hv⟩ := laneE_ok h0
      have := marg_l0 hne hl hv l.length 0 (by omega) (by simp)
      rw [h0]
      refine Ev.step (fun k => ?_) this
      simp only [trishawlaw02_JamMarginal.j0]
      rw [if_neg (by simp)]
      rfl
    · rw [show (laneE l != 0) = true by simp [h0]]
      exact hj
end Go.Proofs.Ytjgbdicbdlollaa.B
namespace Go.Proofs.Ytjgbdicbdlollaa.Pure
open Go.RowKit Go.Proofs.Ytjgbdicbdlollaa.B Go.Proofs.YtjgbdicbdlollaaW.PrintWords Go.Proofs.YtjgbdicbdlollaaW.PrintLast Go.Proofs.YtjgbdicbdlollaaW.PrintMore
theorem JamMarginal : trishawlaw02_JamMarginal.Pure := fun l0 h _ => (marginal_ev l0 h).rounds
end Go.Proofs.Ytjgbdicbdlollaa.Pure
