/- Texts behind the row of JamBalances, part 6: contracts of the functions it reaches, words that their walks use, and lemmas in plain Lean. -/
import Derived.Below
import Derived.Deep.Draws
import Derived.Deep.AppendLies
import Derived.Maps.AppendAt
import Derived.OwnWalk
import Derived.Laws.BytesArg
import Derived.Laws.MakeOwn
import Derived.Laws.OwnMore
import Derived.Deep.OwnRows
import Derived.Tactics
import Derived.Lib.ConvBytes
import Derived.Laws.Slices
import Derived.WalkKit
import Derived.KernelRfl
import Derived.RowKit3
import Derived.Deep.LoopGhost
import Derived.Deep.QuietTactic
import Derived.BigQuiet
import Derived.WideLaws
import Derived.Deep.DeepCutAuto
import Derived.Deep.CutBlock
import Derived.Deep.RegionHeld3
import Derived.Laws.Rows
import Derived.Lib.AppendStr
import Derived.ArgAppend
import Derived.Laws.IdiomCopy
import Derived.RowKit
import Derived.OrdersHeld
import Derived.Laws.BitsLemmas
import Derived.Laws.StructEq
import Derived.Test.YtjgbdicbdlollaaProg
import Derived.WalkSpells
import Derived.MapKept
import Derived.Maps.RangeWalk
import Derived.Shelf.SlSortCmp.SmallK
import Derived.Ground.SlsfProg
import Derived.Deep.Slices
import Derived.Deep.Fields
import Derived.ChangeSame
import Derived.ChangeSlices
import Derived.Sort.LotA
import Derived.Test.YtjgbdicbdlollaaB1
import Derived.Test.YtjgbdicbdlollaaB2
import Derived.Test.YtjgbdicbdlollaaB3
import Derived.Test.YtjgbdicbdlollaaB4
import Derived.Test.YtjgbdicbdlollaaB5
namespace Go.Proofs.Ytjgbdicbdlollaa.B
open Go.RowKit Go.Proofs.YtjgbdicbdlollaaW.PrintWords Go.Proofs.YtjgbdicbdlollaaW.PrintLast Go.Proofs.YtjgbdicbdlollaaW.PrintMore
set_option linter.unusedVariables false
set_option linter.unusedSimpArgs false
def sm (x : Int) : Prop := -4611686018427387904 ≤ x ∧ x ≤ 4611686018427387904
theorem wsm {x : Int} (h : sm x) : wrap64 x = x := by unfold sm at h; unfold wrap64; omega
theorem absmx {a : Int} (h : sm a) : mx a (wrap64 (-a)) = (a.natAbs : Int) := by
  unfold sm at h
  rw [wsm (by unfold sm; omega)]
  unfold mx
  split <;> omega
theorem wrapN (i : Nat) (h : i < 1000000) : wrap64 ((i : Int) + 1) = ((i + 1 : Nat) : Int) := by unfold wrap64; omega
theorem gcd_step (a b : Int) : Int.gcd b (a.tmod b) = Int.gcd a b := by
  show Nat.gcd b.natAbs (a.tmod b).natAbs = Nat.gcd a.natAbs b.natAbs
  rw [Int.natAbs_tmod, Nat.gcd_comm a.natAbs b.natAbs, Nat.gcd_rec b.natAbs a.natAbs, Nat.gcd_comm]
theorem sm_tmod {a b : Int} (ha : sm a) (hb : sm b) : sm (a.tmod b) := by
  have h := Int.natAbs_tmod a b
  have h2 : a.natAbs % b.natAbs ≤ a.natAbs := Nat.mod_le _ _
  unfold sm at *
  omega
theorem tmod_lt {a b : Int} (h0 : b ≠ 0) : (a.tmod b).natAbs < b.natAbs := by
  rw [Int.natAbs_tmod]
  exact Nat.mod_lt _ (by omega)
theorem divisor_ev : ∀ (n : Nat) (a b : Int), b.natAbs ≤ n → sm a → sm b → Ev (fun k => ratio_divisor.f k a b) (Int.gcd a b : Int)
  | n, a, b, hn, ha, hb => by
    by_cases h0 : b = 0
    · subst h0
      refine Ev.step (f := fun _ => some (a.natAbs : Int)) (fun k => ?_) (by simpa using Ev.now (a.natAbs : Int))
      simp only [ratio_divisor.f, if_true, absmx ha]
    · cases n with
      | zero => omega
      | succ n =>
        have ih := divisor_ev n b (a.tmod b) (by have := tmod_lt (a := a) h0; omega) hb (sm_tmod ha hb)
        rw [gcd_step] at ih
        refine Ev.step (f := fun k => (ratio_divisor.f k b (a.tmod b)).bind fun t => some t) (fun k => ?_) (Ev.bind ih (Ev.now _))
        simp only [ratio_divisor.f, if_neg h0]
theorem gcd_ev : ∀ (n : Nat) (a b : Int), b.natAbs ≤ n → sm a → sm b → Ev (fun k => trishawref01_Gcd.f k a b) (Int.gcd a b : Int)
  | n, a, b, hn, ha, hb => by
    unfold trishawref01_Gcd.f
    by_cases h0 : b = 0
    · subst h0
      refine Ev.step (f := fun _ => some (a.natAbs : Int)) (fun k => ?_) (by simpa using Ev.now (a.natAbs : Int))
      simp only [trishawref01_Gcd.l0, if_true, absmx ha]
    · cases n with
      | zero => omega
      | succ n =>
        have ih := gcd_ev n b (a.tmod b) (by have := tmod_lt (a := a) h0; omega) hb (sm_tmod ha hb)
        rw [gcd_step] at ih
        unfold trishawref01_Gcd.f at ih
        refine Ev.step (f := fun k => trishawref01_Gcd.l0 k b (a.tmod b)) (fun k => ?_) ih
        simp only [trishawref01_Gcd.l0, if_neg h0]
theorem sm_gcd {a b : Int} (ha : sm a) (h0 : 0 < a) : sm (Int.gcd a b : Int) ∧ 0 < (Int.gcd a b : Int) ∧ (Int.gcd a b : Int) ≤ a := by
  have h1 : Int.gcd a b ∣ a.natAbs := Nat.gcd_dvd_left _ _
  have h2 := Nat.le_of_dvd (by omega) h1
  have h3 : 0 < Int.gcd a b := Nat.gcd_pos_of_pos_left _ (by omega)
  unfold sm at *
  omega
theorem sm_tdiv {a b : Int} (ha : sm a) (hb : 0 < b) : sm (a.tdiv b) := by
  have h1 : (a.tdiv b).natAbs = a.natAbs / b.natAbs := Int.natAbs_tdiv a b
  have h2 : a.natAbs / b.natAbs ≤ a.natAbs := Nat.div_le_self _ _
  unfold sm at *
  omega
/-- The greatest divisor of d and all of the numbers. -/
def gl : List Int → Int → Int
  | [], d => d
  | n :: l, d => gl l (Int.gcd d n : Int)
theorem gl_pos : ∀ (l : List Int) (d : Int), sm d → 0 < d → sm (gl l d) ∧ 0 < gl l d ∧ gl l d ≤ d
  | [], d, h, h0 => ⟨h, h0, Int.le_refl _⟩
  | n :: l, d, h, h0 => by
    obtain ⟨h1, h2, h3⟩ := sm_gcd (b := n) h h0
    obtain ⟨k1, k2, k3⟩ := gl_pos l _ h1 h2
    exact ⟨k1, k2, Int.le_trans k3 h3⟩
theorem rd_drop (l : List Int) (i : Nat) (h : i < l.length) : l.drop i = rd l (i : Int) :: l.drop (i + 1) := by
  rw [List.drop_eq_getElem_cons h]
  congr 1
  simp [rd, List.getD, List.getElem?_eq_getElem h]
theorem rd_mem2 (l : List Int) (i : Nat) (h : i < l.length) : rd l (i : Int) ∈ l := by
  have : rd l (i : Int) = l[i] := by simp [rd, List.getD, List.getElem?_eq_getElem h]
  rw [this]; exact List.getElem_mem h
/-- Parts over a divisor. -/
def partsR (nums : List Int) (den D : Int) : List Int × Int := (nums.map fun n => Int.tdiv n D, Int.tdiv den D)
theorem take_map_rd (g : Int → Int) (l : List Int) (i : Nat) (h : i < l.length) : (l.take (i + 1)).map g = (l.take i).map g ++ [g (rd l (i : Int))] := by
  rw [List.take_add_one, List.getElem?_eq_getElem h, List.map_append]
  congr 1
  rw [show rd l (i : Int) = l[i] from by simp [rd, List.getD, List.getElem?_eq_getElem h]]
  rfl
theorem parts_l1 (nums : List Int) (den D : Int) (hl : nums.length < 1000000) (hs : ∀ n ∈ nums, sm n) (hd : sm den) (hD : 0 < D) : ∀ (m i : Nat), i + m = nums.length →
    Ev (fun k => ratio_Parts.l1 k den D ((nums.take i).map (fun n => Int.tdiv n D) ++ List.replicate m 0) nums (nums.length : Int) (i : Int)) (partsR nums den D)
  | 0, i, h => by
    have hD0 : D ≠ 0 := by omega
    refine Ev.step (f := fun _ => some (partsR nums den D)) (fun k => ?_) (Ev.now _)
    simp only [ratio_Parts.l1]
    rw [if_neg (by omega), if_neg hD0, wsm (sm_tdiv hd hD), List.take_of_length_le (by omega)]
    simp [partsR]
  | m + 1, i, h => by
    have hD0 : D ≠ 0 := by omega
    have hi : i < nums.length := by omega
    have ih := parts_l1 nums den D hl hs hd hD m (i + 1) (by omega)
    refine Ev.step (fun k => ?_) ih
    simp only [ratio_Parts.l1]
    rw [if_pos (by omega), if_pos (by omega), if_pos (by omega), if_neg hD0, if_pos (by simp; omega), wrapN i (by omega), wsm (sm_tdiv (hs _ (rd_mem2 nums i hi)) hD)]
    congr 1
    rw [take_map_rd _ nums i hi, Int.toNat_natCast, List.set_append_right _ _ (by simp; omega)]
    simp [List.length_take, Nat.min_eq_left (Nat.le_of_lt hi), List.replicate_succ]
theorem parts_l0 (nums : List Int) (den : Int) (hl : nums.length < 1000000) (hs : ∀ n ∈ nums, sm n) (hd : sm den) (h0 : 0 < den) : ∀ (m i : Nat) (d : Int), i + m = nums.length → sm d → 0 < d →
    Ev (fun k => ratio_Parts.l0 k nums den d nums (nums.length : Int) (i : Int)) (partsR nums den (gl (nums.drop i) d))
  | 0, i, d, h, hsd, hd0 => by
    have h1 := parts_l1 nums den d hl hs hd hd0 nums.length 0 (by omega)
    rw [List.drop_of_length_le (by omega)]
    refine Ev.step (fun k => ?_) h1
    simp only [ratio_Parts.l0]
    rw [if_neg (by omega), if_pos (by omega), if_pos (by simp; omega), absmx hsd, show ((d.natAbs : Nat) : Int) = d by omega]
    simp
  | m + 1, i, d, h, hsd, hd0 => by
    have hi : i < nums.length := by omega
    have hn := hs _ (rd_mem2 nums i hi)
    obtain ⟨g1, g2, g3⟩ := sm_gcd (b := rd nums (i : Int)) hsd hd0
    have ih := parts_l0 nums den hl hs hd h0 m (i + 1) _ (by omega) g1 g2
    rw [rd_drop nums i hi]
    refine Ev.step (fun k => ?_) (Ev.bind (f := fun k t => ratio_Parts.l0 k nums den t nums (nums.length : Int) ((i + 1 : Nat) : Int)) (divisor_ev _ d (rd nums (i : Int)) (Nat.le_refl _) hsd hn) ih)
    simp only [ratio_Parts.l0]
    rw [if_pos (by omega), if_pos (by omega), if_pos (by omega), wrapN i (by omega)]
/-- Parts answers in lowest terms. -/
theorem parts_ev (nums : List Int) (den : Int) (hl : nums.length < 1000000) (hs : ∀ n ∈ nums, sm n) (hd : sm den) (h0 : 0 < den) : Ev (fun k => ratio_Parts.f k nums den) (partsR nums den (gl nums den)) := by
  unfold ratio_Parts.f
  exact parts_l0 nums den hl hs hd h0 nums.length 0 den (by omega) hd h0
theorem gcd_abs (a b : Int) : Int.gcd a (b.natAbs : Int) = Int.gcd a b := by
  show Nat.gcd a.natAbs ((b.natAbs : Int)).natAbs = Nat.gcd a.natAbs b.natAbs
  rw [Int.natAbs_natCast]
theorem lowest_l1 (nums : List Int) (D q : Int) (hl : nums.length < 1000000) (hs : ∀ n ∈ nums, sm n) (hD : 0 < D) : ∀ (m i : Nat), i + m = nums.length →
    Ev (fun k => trishawref02_Lowest.l1 k nums D (i : Int) ((nums.take i).map fun n => Int.tdiv n D) q) (nums.map (fun n => Int.tdiv n D), q)
  | 0, i, h => by
    refine Ev.step (f := fun _ => some (nums.map (fun n => Int.tdiv n D), q)) (fun k => ?_) (Ev.now _)
    simp only [trishawref02_Lowest.l1]
    rw [if_neg (by omega), List.take_of_length_le (by omega)]
  | m + 1, i, h => by
    have hi : i < nums.length := by omega
    have ih := lowest_l1 nums D q hl hs hD m (i + 1) (by omega)
    refine Ev.step (fun k => ?_) ih
    simp only [trishawref02_Lowest.l1]
    rw [if_pos (by omega), if_pos (by omega), if_neg (by omega), if_pos (by simp; omega), wrapN i (by omega), wsm (sm_tdiv (hs _ (rd_mem2 nums i hi)) hD), take_map_rd _ nums i hi]
theorem lowest_l0 (nums : List Int) (den : Int) (hl : nums.length < 1000000) (hs : ∀ n ∈ nums, sm n) (hd : sm den) (h0 : 0 < den) : ∀ (m i : Nat) (d : Int), i + m = nums.length → sm d → 0 < d →
    Ev (fun k => trishawref02_Lowest.l0 k nums den d (i : Int)) (partsR nums den (gl (nums.drop i) d))
  | 0, i, d, h, hsd, hd0 => by
    have h1 := lowest_l1 nums d (Int.tdiv den d) hl hs hd0 nums.length 0 (by omega)
    rw [List.drop_of_length_le (by omega)]
    refine Ev.step (fun k => ?_) h1
    simp only [trishawref02_Lowest.l0]
    rw [if_neg (by omega), if_neg (by omega), wsm (sm_tdiv hd hd0)]
    rfl
  | m + 1, i, d, h, hsd, hd0 => by
    have hi : i < nums.length := by omega
    have hn := hs _ (rd_mem2 nums i hi)
    obtain ⟨g1, g2, g3⟩ := sm_gcd (b := rd nums (i : Int)) hsd hd0
    have ih := lowest_l0 nums den hl hs hd h0 m (i + 1) _ (by omega) g1 g2
    have hg := gcd_ev _ d ((rd nums (i : Int)).natAbs : Int) (Nat.le_refl _) hsd (by unfold sm at *; omega)
    rw [gcd_abs] at hg
    rw [rd_drop nums i hi]
    refine Ev.step (fun k => ?_) (Ev.bind (f := fun k t => trishawref02_Lowest.l0 k nums den t ((i + 1 : Nat) : Int)) hg ih)
    simp only [trishawref02_Lowest.l0]
    rw [if_pos (by omega), if_pos (by omega), wrapN i (by omega), absmx hn]
theorem lowest_ev (nums : List Int) (den : Int) (hl : nums.length < 1000000) (hs : ∀ n ∈ nums, sm n) (hd : sm den) (h0 : 0 < den) : Ev (fun k => trishawref02_Lowest.f k nums den) (partsR nums den (gl nums den)) := by
  unfold trishawref02_Lowest.f
  exact lowest_l0 nums den hl hs hd h0 nums.length 0 den (by omega) hd h0
/-- A quotient in lowest terms. -/
def ratR (a b : Int) : Int × Int := (Int.tdiv a (Int.gcd a b : Int), Int.tdiv b (Int.gcd a b : Int))
theorem gcd_posr {a b : Int} (hb : 0 < b) : 0 < (Int.gcd a b : Int) := by
  have : 0 < Int.gcd a b := Nat.gcd_pos_of_pos_right _ (by omega)
  omega
theorem of_ev {a b : Int} (ha : sm a) (hb : sm b) (h0 : 0 < b) : Ev (fun k => ratio_Of.f k a b) (ratR a b) := by
  have hg := gcd_posr (a := a) h0
  unfold ratio_Of.f
  refine Ev.bind (divisor_ev _ a b (Nat.le_refl _) ha hb) ?_
  refine Ev.congr (f := fun _ => some (ratR a b)) (fun k => ?_) (Ev.now _)
  rw [if_neg (by omega), if_neg (by omega), wsm (sm_tdiv ha hg), wsm (sm_tdiv hb hg)]
  rfl
theorem ratio_ev {a b : Int} (ha : sm a) (hb : sm b) (h0 : 0 < b) : Ev (fun k => trishawref01_Ratio.f k a b) (ratR a b) := by
  have hg := gcd_posr (a := a) h0
  unfold trishawref01_Ratio.f
  rw [absmx ha]
  have h1 := gcd_ev _ (a.natAbs : Int) b (Nat.le_refl _) (by unfold sm at *; omega) hb
  have h2 : Int.gcd (a.natAbs : Int) b = Int.gcd a b := by
    show Nat.gcd ((a.natAbs : Int)).natAbs b.natAbs = Nat.gcd a.natAbs b.natAbs
    rw [Int.natAbs_natCast]
  rw [h2] at h1
  refine Ev.bind h1 ?_
  refine Ev.congr (f := fun _ => some (ratR a b)) (fun k => ?_) (Ev.now _)
  rw [if_neg (by omega), wsm (sm_tdiv ha hg), wsm (sm_tdiv hb hg)]
  rfl
end Go.Proofs.Ytjgbdicbdlollaa.B
namespace Go.Proofs.Ytjgbdicbdlollaa.B
open Go.RowKit Go.Sort Go.Proofs.YtjgbdicbdlollaaW.PrintWords Go.Proofs.YtjgbdicbdlollaaW.PrintLast Go.Proofs.YtjgbdicbdlollaaW.PrintMore
set_option linter.unusedVariables false
set_option linter.unusedSimpArgs false
def okL (x : S36) : Prop := 0 ≤ x.f0 ∧ x.f0 ≤ 10 ∧ 1 ≤ x.f1 ∧ x.f1 ≤ 10
def sumL (f : S36 → Int) : List S36 → Int
  | [] => 0
  | x :: l => f x + sumL f l
theorem sumL_append (f : S36 → Int) : ∀ a b : List S36, sumL f (a ++ b) = sumL f a + sumL f b
  | [], b => by simp [sumL]
  | x :: a, b => by simp only [List.cons_append, sumL, sumL_append f a b]; omega
theorem sumL_perm (f : S36 → Int) {a b : List S36} (h : a.Perm b) : sumL f a = sumL f b := by
  induction h with
  | nil => rfl
  | cons x _ ih => simp only [sumL, ih]
  | swap x y l => simp only [sumL]; omega
  | trans _ _ h1 h2 => exact h1.trans h2
theorem sumL_congr {f g : S36 → Int} : ∀ {l : List S36}, (∀ x ∈ l, f x = g x) → sumL f l = sumL g l
  | [], _ => rfl
  | x :: l, h => by simp only [sumL]; rw [h x (by simp), sumL_congr fun y hy => h y (by simp [hy])]
theorem sumL_le {f g : S36 → Int} : ∀ {l : List S36}, (∀ x ∈ l, f x ≤ g x) → sumL f l ≤ sumL g l
  | [], _ => Int.le_refl _
  | x :: l, h => by
    have h1 := h x (by simp)
    have h2 := sumL_le (l := l) fun y hy => h y (by simp [hy])
    simp only [sumL]; omega
theorem sumL_lt {f g : S36 → Int} : ∀ {l : List S36}, (∀ x ∈ l, f x ≤ g x) → (∃ x ∈ l, f x < g x) → sumL f l < sumL g l
  | [], _, ⟨x, hx, _⟩ => by simp at hx
  | x :: l, h, ⟨y, hy, hlt⟩ => by
    have h1 := h x (by simp)
    have h2 := sumL_le (l := l) fun y hy => h y (by simp [hy])
    simp only [sumL]
    rcases List.mem_cons.1 hy with rfl | hy
    · omega
    · have h3 := sumL_lt (l := l) (fun z hz => h z (by simp [hz])) ⟨y, hy, hlt⟩
      omega
theorem sumL_mul (f : S36 → Int) (c : Int) : ∀ l : List S36, sumL (fun x => c * f x) l = c * sumL f l
  | [] => by simp [sumL]
  | x :: l => by simp only [sumL, sumL_mul f c l, Int.mul_add]
theorem sumL_add (f g : S36 → Int) : ∀ l : List S36, sumL (fun x => f x + g x) l = sumL f l + sumL g l
  | [] => by simp [sumL]
  | x :: l => by simp only [sumL, sumL_add f g l]; omega
theorem sumL_const (c : Int) : ∀ l : List S36, sumL (fun _ => c) l = c * l.length
  | [] => by simp [sumL]
  | x :: l => by simp only [sumL, sumL_const c l, List.length_cons, Int.natCast_add, Int.mul_add]; simp; omega
theorem sumL_pos {f : S36 → Int} {l : List S36} (h : ∀ x ∈ l, 0 ≤ f x) : 0 ≤ sumL f l := by
  have := sumL_le (f := fun _ => 0) (g := f) h
  rw [sumL_const] at this; simpa using this
theorem sumL_mem {f : S36 → Int} : ∀ {l : List S36}, (∀ x ∈ l, 0 ≤ f x) → ∀ x ∈ l, f x ≤ sumL f l
  | y :: l, h, x, hx => by
    have h2 := sumL_pos (l := l) fun y hy => h y (by simp [hy])
    have h1 := h y (by simp)
    simp only [sumL]
    rcases List.mem_cons.1 hx with rfl | hx
    · omega
    · have := sumL_mem (l := l) (fun z hz => h z (by simp [hz])) x hx
      omega
/-- A time num/den is good: its own set of lanes gives it. -/
def Good (w : S36 → Int) (p : Int) (l : List S36) (n d : Int) : Prop :=
  0 < d ∧ n = p + sumL (fun x => if x.f0 * d < n then x.f0 * w x else 0) l ∧ d = sumL (fun x => if x.f0 * d < n then w x else 0) l
theorem Good.perm {w p} {a b : List S36} {n d} (h : a.Perm b) (g : Good w p a n d) : Good w p b n d := by
  obtain ⟨h0, h1, h2⟩ := g
  exact ⟨h0, by rw [← sumL_perm _ h]; exact h1, by rw [← sumL_perm _ h]; exact h2⟩
/-- What the lanes take at a time num/den is the whole stream. -/
theorem Good.full {w p} {l : List S36} {n d} (g : Good w p l n d) : sumL (fun x => if x.f0 * d < n then w x * (n - x.f0 * d) else 0) l = p * d := by
  obtain ⟨h0, h1, h2⟩ := g
  have e : sumL (fun x => if x.f0 * d < n then w x * (n - x.f0 * d) else 0) l = n * sumL (fun x => if x.f0 * d < n then w x else 0) l + (-d) * sumL (fun x => if x.f0 * d < n then x.f0 * w x else 0) l := by
    rw [← sumL_mul, ← sumL_mul, ← sumL_add]
    refine sumL_congr fun x _ => ?_
    by_cases hx : x.f0 * d < n
    · simp only [if_pos hx]; rw [Int.mul_sub, Int.mul_comm n, Int.neg_mul, Int.sub_eq_add_neg]
      congr 1; congr 1; rw [Int.mul_comm (w x), Int.mul_comm x.f0 d, Int.mul_assoc]
    · simp [if_neg hx]
  rw [e, ← h2]
  have h3 : sumL (fun x => if x.f0 * d < n then x.f0 * w x else 0) l = n - p := by omega
  rw [h3, Int.mul_comm n d, Int.neg_mul, ← Int.sub_eq_add_neg, ← Int.mul_sub, Int.mul_comm p d]
  congr 1; omega
theorem full_scale {w : S36 → Int} {l : List S36} {n d c : Int} (hc : 0 < c) : sumL (fun x => if x.f0 * (d * c) < n * c then w x * (n * c - x.f0 * (d * c)) else 0) l = c * sumL (fun x => if x.f0 * d < n then w x * (n - x.f0 * d) else 0) l := by
  rw [← sumL_mul]
  refine sumL_congr fun x _ => ?_
  rw [← Int.mul_assoc]
  by_cases hx : x.f0 * d < n
  · rw [if_pos hx, if_pos (Int.mul_lt_mul_of_pos_right hx hc), ← Int.sub_mul, ← Int.mul_assoc, Int.mul_comm]
  · rw [if_neg hx, if_neg (fun h => hx (Int.lt_of_mul_lt_mul_right h (Int.le_of_lt hc)))]; simp
theorem full_lt {w : S36 → Int} {l : List S36} {a b D : Int} (hw : ∀ x ∈ l, 0 < w x) (h : a < b) (h0 : 0 < sumL (fun x => if x.f0 * D < a then w x * (a - x.f0 * D) else 0) l) :
    sumL (fun x => if x.f0 * D < a then w x * (a - x.f0 * D) else 0) l < sumL (fun x => if x.f0 * D < b then w x * (b - x.f0 * D) else 0) l := by
  have step : ∀ x ∈ l, x.f0 * D < a → w x * (a - x.f0 * D) < w x * (b - x.f0 * D) := fun x hx _ => Int.mul_lt_mul_of_pos_left (by omega) (hw x hx)
  refine sumL_lt (fun x hx => ?_) ?_
  · by_cases h1 : x.f0 * D < a
    · rw [if_pos h1, if_pos (by omega)]; exact Int.le_of_lt (step x hx h1)
    · rw [if_neg h1]
      split
      · exact Int.mul_nonneg (Int.le_of_lt (hw x hx)) (by omega)
      · omega
  · by_cases hex : ∃ x ∈ l, x.f0 * D < a
    · obtain ⟨x, hx, h1⟩ := hex
      refine ⟨x, hx, ?_⟩
      rw [if_pos h1, if_pos (by omega)]; exact step x hx h1
    · exfalso
      rw [sumL_congr (g := fun _ => 0) (fun x hx => if_neg fun h2 => hex ⟨x, hx, h2⟩), sumL_const] at h0
      omega
theorem Good.cross {w p} {l : List S36} {n d n' d'} (hw : ∀ x ∈ l, 0 < w x) (hp : 0 < p) (g : Good w p l n d) (g' : Good w p l n' d') : ¬ n * d' < n' * d := by
  intro h
  have e1 := g.full
  have e2 := g'.full
  have s1 := full_scale (w := w) (l := l) (n := n) (d := d) g'.1
  have s2 := full_scale (w := w) (l := l) (n := n') (d := d') g.1
  rw [e1] at s1
  rw [e2, Int.mul_comm d' d] at s2
  have hz : 0 < d' * (p * d) := Int.mul_pos g'.1 (Int.mul_pos hp g.1)
  have := full_lt (w := w) (l := l) (D := d * d') hw h (by rw [s1]; exact hz)
  rw [s1, s2] at this
  have e3 : d' * (p * d) = d * (p * d') := by rw [Int.mul_left_comm, Int.mul_comm d' d, Int.mul_left_comm]
  omega
theorem Good.uniq {w p} {l : List S36} {n d n' d'} (hw : ∀ x ∈ l, 0 < w x) (hp : 0 < p) (g : Good w p l n d) (g' : Good w p l n' d') : n = n' ∧ d = d' := by
  have c1 := Good.cross hw hp g g'
  have c2 := Good.cross hw hp g' g
  have e : n * d' = n' * d := by omega
  have hs : ∀ x : S36, (x.f0 * d < n) ↔ (x.f0 * d' < n') := by
    intro x
    have h1 : x.f0 * d < n ↔ x.f0 * d * d' < n * d' := ⟨fun h => Int.mul_lt_mul_of_pos_right h g'.1, fun h => Int.lt_of_mul_lt_mul_right h (Int.le_of_lt g'.1)⟩
    have h2 : x.f0 * d' < n' ↔ x.f0 * d' * d < n' * d := ⟨fun h => Int.mul_lt_mul_of_pos_right h g.1, fun h => Int.lt_of_mul_lt_mul_right h (Int.le_of_lt g.1)⟩
    rw [h1, h2, e, Int.mul_right_comm]
  have hd : d = d' := by
    rw [g.2.2, g'.2.2]
    refine sumL_congr fun x _ => ?_
    by_cases hx : x.f0 * d < n
    · rw [if_pos hx, if_pos ((hs x).1 hx)]
    · rw [if_neg hx, if_neg fun h => hx ((hs x).2 h)]
  refine ⟨?_, hd⟩
  rw [g.2.1, g'.2.1]
  congr 1
  refine sumL_congr fun x _ => ?_
  by_cases hx : x.f0 * d < n
  · rw [if_pos hx, if_pos ((hs x).1 hx)]
  · rw [if_neg hx, if_neg fun h => hx ((hs x).2 h)]
end Go.Proofs.Ytjgbdicbdlollaa.B
namespace Go.Proofs.Ytjgbdicbdlollaa.B
open Go.RowKit Go.Sort Go.Proofs.YtjgbdicbdlollaaW.PrintWords Go.Proofs.YtjgbdicbdlollaaW.PrintLast Go.Proofs.YtjgbdicbdlollaaW.PrintMore
set_option linter.unusedVariables false
set_option linter.unusedSimpArgs false
theorem rdT_drop (l : List S36) (i : Nat) (h : i < l.length) : l.drop i = rd_T36 l (i : Int) :: l.drop (i + 1) := by
  rw [List.drop_eq_getElem_cons h]
  congr 1
  simp [rd_T36, List.getD, List.getElem?_eq_getElem h]
theorem rdT_mem (l : List S36) (i : Nat) (h : i < l.length) : rd_T36 l (i : Int) ∈ l := by
  have : rd_T36 l (i : Int) = l[i] := by simp [rd_T36, List.getD, List.getElem?_eq_getElem h]
  rw [this]; exact List.getElem_mem h
theorem mulb {x y X Y : Int} (hx : 0 ≤ x) (hX : x ≤ X) (hy : 0 ≤ y) (hY : y ≤ Y) : 0 ≤ x * y ∧ x * y ≤ X * Y :=
  ⟨Int.mul_nonneg hx hy, Int.mul_le_mul hX hY hy (by omega)⟩
def prodL (t : Int) : List S36 → Int
  | [] => 1
  | x :: l => (x.f1 * t) * prodL t l
theorem bt_b {t : Int} (ht : t = 1 ∨ t = 2) {x : S36} (h : okL x) : 1 ≤ x.f1 * t ∧ x.f1 * t ≤ 20 := by
  unfold okL at h
  rcases ht with rfl | rfl <;> omega
theorem prodL_b {t : Int} (ht : t = 1 ∨ t = 2) : ∀ {l : List S36}, (∀ x ∈ l, okL x) → 0 < prodL t l ∧ prodL t l ≤ 20 ^ l.length
  | [], _ => by simp [prodL]
  | x :: l, h => by
    have h1 := bt_b ht (h x (by simp))
    have h2 := prodL_b ht (l := l) fun y hy => h y (by simp [hy])
    have h3 := mulb (X := 20) (Y := 20 ^ l.length) (x := x.f1 * t) (y := prodL t l) (by omega) (by omega) (by omega) h2.2
    simp only [prodL, List.length_cons, Int.pow_succ]
    exact ⟨Int.mul_pos (by omega) h2.1, by rw [Int.mul_comm (20 ^ l.length : Int)]; exact h3.2⟩
theorem pow20 {n : Nat} (h : n ≤ 4) : (20 : Int) ^ n ≤ 160000 := by
  match n, h with
  | 0, _ => decide
  | 1, _ => decide
  | 2, _ => decide
  | 3, _ => decide
  | 4, _ => decide
theorem prodL_dvd {t : Int} : ∀ {l : List S36}, ∀ x ∈ l, (x.f1 * t) ∣ prodL t l
  | y :: l, x, h => by
    rcases List.mem_cons.1 h with rfl | h
    · exact ⟨_, rfl⟩
    · exact Int.dvd_mul_of_dvd_right (prodL_dvd x h)
def wv (p t : Int) (x : S36) : Int := Int.tdiv p (x.f1 * t)
theorem wv_mul {p t : Int} {x : S36} (h : (x.f1 * t) ∣ p) : wv p t x * (x.f1 * t) = p := Int.tdiv_mul_cancel h
theorem wv_b {p t : Int} {x : S36} (h : (x.f1 * t) ∣ p) (h0 : 0 < p) (h1 : 1 ≤ x.f1 * t) : 0 < wv p t x ∧ wv p t x ≤ p := by
  have e := wv_mul h
  have hp : 0 < wv p t x := by
    rcases Int.lt_trichotomy (wv p t x) 0 with h2 | h2 | h2
    · have := Int.mul_neg_of_neg_of_pos h2 (show 0 < x.f1 * t by omega); omega
    · rw [h2] at e; simp at e; omega
    · exact h2
  refine ⟨hp, ?_⟩
  have := Int.mul_le_mul_of_nonneg_left h1 (Int.le_of_lt hp)
  omega
/-- The lanes that the order's loop takes. -/
def goB (w : S36 → Int) : List S36 → Int → Int → Int × Int
  | [], n, d => (n, d)
  | x :: r, n, d => if d > 0 ∧ x.f0 * d ≥ n then (n, d) else goB w r (n + x.f0 * w x) (d + w x)
theorem goB_good (w : S36 → Int) (p : Int) (hp : 0 < p) : ∀ (r pre : List S36) (n d : Int), (pre ++ r).Pairwise (fun a b => a.f0 ≤ b.f0) → (∀ x ∈ pre ++ r, 0 < w x ∧ 0 ≤ x.f0) → pre ++ r ≠ [] →
    (∀ y ∈ pre, y.f0 * d < n) → n = p + sumL (fun x => x.f0 * w x) pre → d = sumL w pre → Good w p (pre ++ r) (goB w r n d).1 (goB w r n d).2
  | [], pre, n, d, hs, hw, hne, hy, hn, hd => by
    simp only [goB, List.append_nil] at *
    refine ⟨?_, ?_, ?_⟩
    · match pre, hne with
      | x :: l, _ =>
        have h1 := hw x (by simp)
        have h2 := sumL_pos (f := w) (l := l) fun y hy => by have := hw y (by simp [hy]); omega
        simp only [sumL] at hd
        omega
    · rw [sumL_congr (g := fun x => x.f0 * w x) fun x hx => if_pos (hy x hx)]; exact hn
    · rw [sumL_congr (g := w) fun x hx => if_pos (hy x hx)]; exact hd
  | x :: r, pre, n, d, hs, hw, hne, hy, hn, hd => by
    simp only [goB]
    split
    · rename_i hc
      have hout : ∀ y ∈ x :: r, ¬ y.f0 * d < n := by
        intro y hyr
        have h1 : x.f0 ≤ y.f0 := by
          rcases List.mem_cons.1 hyr with rfl | h
          · exact Int.le_refl _
          · exact List.rel_of_pairwise_cons (List.pairwise_append.1 hs).2.1 h
        have := Int.mul_le_mul_of_nonneg_right h1 (Int.le_of_lt hc.1)
        omega
      refine ⟨hc.1, ?_, ?_⟩
      · rw [sumL_append, sumL_congr (l := pre) (g := fun x => x.f0 * w x) (fun x hx => if_pos (hy x hx)), sumL_congr (l := x :: r) (g := fun _ => 0) (fun y hy => if_neg (hout y hy)), sumL_const]
        simp only [Int.zero_mul]; omega
      · rw [sumL_append, sumL_congr (l := pre) (g := w) (fun x hx => if_pos (hy x hx)), sumL_congr (l := x :: r) (g := fun _ => 0) (fun y hy => if_neg (hout y hy)), sumL_const]
        simp only [Int.zero_mul]; omega
    · rename_i hc
      have hwx := hw x (by simp)
      have hn0 : 0 ≤ sumL (fun x => x.f0 * w x) pre := sumL_pos fun y hy => by
        have := hw y (by simp [hy]); exact Int.mul_nonneg this.2 (by omega)
      have hd0 : 0 ≤ d := by rw [hd]; exact sumL_pos fun y hy => by have := hw y (by simp [hy]); omega
      have hxd : x.f0 * d < n := by
        by_cases h0 : d > 0
        · rcases Int.lt_or_le (x.f0 * d) n with h | h
          · exact h
          · exact absurd ⟨h0, h⟩ hc
        · have : d = 0 := by omega
          rw [this, Int.mul_zero]; omega
      have ih := goB_good w p hp r (pre ++ [x]) (n + x.f0 * w x) (d + w x) (by simpa using hs) (by simpa using hw) (by simp) (fun y hy2 => ?_)
        (by rw [sumL_append]; simp only [sumL]; omega) (by rw [sumL_append]; simp only [sumL]; omega)
      · simpa using ih
      · have hyx : y.f0 * d < n ∧ y.f0 ≤ x.f0 := by
          rcases List.mem_append.1 hy2 with h | h
          · exact ⟨hy y h, (List.pairwise_append.1 hs).2.2 y h x (by simp)⟩
          · have : y = x := by simpa using h
            subst this; exact ⟨hxd, Int.le_refl _⟩
        have := Int.mul_le_mul_of_nonneg_right hyx.2 (show 0 ≤ w x by omega)
        rw [Int.mul_add]
        omega
theorem lnsOf_ev : ∀ {l : List S36}, (∀ x ∈ l, okL x) → ∃ ds, lnsOf l = some ds ∧ ds.map Ln.x = l
  | [], _ => ⟨[], rfl, rfl⟩
  | x :: l, h => by
    obtain ⟨ds, h1, h2⟩ := lnsOf_ev (l := l) fun y hy => h y (by simp [hy])
    have hx := h x (by simp)
    exact ⟨⟨x, hx.1, hx.2.1⟩ :: ds, by simp only [lnsOf]; rw [dif_pos ⟨hx.1, hx.2.1⟩, h1]; rfl, by simp [h2]⟩
theorem ext_all {A : Array Ln} {n : Nat} (h : A.size = n) : A.extract 0 n = A := by subst h; simp
theorem sorted_ev {l : List S36} (hne : l ≠ []) (hl : l.length ≤ 4) (hv : ∀ x ∈ l, okL x) : ∃ s, lanes_Sorted.f l = some s ∧ s.Perm l ∧ s.Pairwise (fun a b => a.f0 ≤ b.f0) := by
  obtain ⟨ds, h1, h2⟩ := lnsOf_ev hv
  have hlen : 1 ≤ l.length := by cases l with | nil => exact absurd rfl hne | cons => simp
  have hdl : ds.length = l.length := by rw [← h2]; simp
  refine ⟨(sortLn ds).toList.map Ln.x, ?_, ?_, ?_⟩
  · unfold lanes_Sorted.f; rw [if_pos ⟨hlen, by omega⟩, h1]; rfl
  · have hp := insertionSort_holds (lt := ltOf cfLn) swo_cfLn ds.toArray 0 ds.toArray.size (Nat.zero_le _) (Nat.le_refl _)
    obtain ⟨hs1, _, hs3⟩ := hp.1
    have e1 : (Go.Sort.insertionSort (ltOf cfLn) ds.toArray 0 ds.toArray.size).extract 0 ds.toArray.size = sortLn ds := ext_all hs1
    rw [e1] at hs3
    have e2 : ds.toArray.extract 0 ds.toArray.size = ds.toArray := by simp
    rw [e2] at hs3
    have := hs3.map Ln.x
    rw [h2] at this
    exact this
  · have hp := insertionSort_holds (lt := ltOf cfLn) swo_cfLn ds.toArray 0 ds.toArray.size (Nat.zero_le _) (Nat.le_refl _)
    obtain ⟨hs1, _, hs3⟩ := hp.1
    have hso : SortedIn (ltOf cfLn) 0 ds.toArray.size (sortLn ds) := hp.2
    have hsz : (sortLn ds).size = ds.toArray.size := hs1
    rw [List.pairwise_map, List.pairwise_iff_getElem]
    intro i j hi hj hij
    have hi2 : i < (sortLn ds).size := by simpa using hi
    have hj2 : j < (sortLn ds).size := by simpa using hj
    have := hso i j (Nat.zero_le _) hij (by omega)
    rw [getElem!_pos (sortLn ds) j hj2, getElem!_pos (sortLn ds) i hi2] at this
    unfold ltOf cfLn at this
    simp only [decide_eq_false_iff_not] at this
    simp only [Array.getElem_toList]
    omega
theorem bal_l0 (l : List S36) (t : Int) (ht : t = 1 ∨ t = 2) (hl : l.length ≤ 4) (hv : ∀ x ∈ l, okL x) (R : List Int × Int × Int × Int) : ∀ (m i : Nat) (q : Int), i + m = l.length → 0 < q → q ≤ 20 ^ i →
    Ev (fun k => (lanes_Sorted.f l).bind fun s => jam_balance.l1 k l t (q * prodL t (l.drop i)) (q * prodL t (l.drop i)) 0 s (s.length : Int) 0) R → Ev (fun k => jam_balance.l0 k l t q l (l.length : Int) (i : Int)) R
  | 0, i, q, h, h0, hq, hk => by
    rw [List.drop_of_length_le (by omega)] at hk
    simp only [prodL, Int.mul_one] at hk
    refine Ev.step (fun k => ?_) hk
    simp only [jam_balance.l0]
    rw [if_neg (by omega)]
  | m + 1, i, q, h, h0, hq, hk => by
    have hi : i < l.length := by omega
    have hb := bt_b ht (hv _ (rdT_mem l i hi))
    have hm := mulb (x := q) (y := (rd_T36 l (i : Int)).f1 * t) (X := 20 ^ i) (Y := 20) (by omega) hq (by omega) hb.2
    have h5 : (20 : Int) ^ i * 20 = 20 ^ (i + 1) := (Int.pow_succ 20 i).symm
    have h6 := pow20 (n := i + 1) (by omega)
    have h7 := pow20 (n := i) (by omega)
    rw [rdT_drop l i hi] at hk
    simp only [prodL] at hk
    rw [← Int.mul_assoc] at hk
    have ih := bal_l0 l t ht hl hv R m (i + 1) (q * ((rd_T36 l (i : Int)).f1 * t)) (by omega) (Int.mul_pos h0 (by omega)) (by omega) hk
    refine Ev.step (fun k => ?_) ih
    simp only [jam_balance.l0]
    rw [if_pos (by omega), if_pos (by omega), if_pos (by omega), wrapN i (by omega), wsm (x := (rd_T36 l (i : Int)).f1 * t) (by unfold sm; omega), wsm (x := q * ((rd_T36 l (i : Int)).f1 * t)) (by unfold sm; omega)]
theorem bal_l1 (l s : List S36) (t p : Int) (ht : t = 1 ∨ t = 2) (hp : 0 < p) (hp2 : p ≤ 160000) (hs : s.length ≤ 4) (hv : ∀ x ∈ s, okL x) (hd : ∀ x ∈ s, (x.f1 * t) ∣ p) (R : List Int × Int × Int × Int) : ∀ (m i : Nat) (n d : Int), i + m = s.length → 0 ≤ n → n ≤ 160000 + 1600000 * i → 0 ≤ d → d ≤ 160000 * i →
    Ev (fun k => jam_balance.j2 k l t p (goB (wv p t) (s.drop i) n d).1 (goB (wv p t) (s.drop i) n d).2) R → Ev (fun k => jam_balance.l1 k l t p n d s (s.length : Int) (i : Int)) R
  | 0, i, n, d, h, n0, n1, d0, d1, hk => by
    rw [List.drop_of_length_le (by omega)] at hk
    simp only [goB] at hk
    refine Ev.step (fun k => ?_) hk
    simp only [jam_balance.l1]
    rw [if_neg (by omega)]
  | m + 1, i, n, d, h, n0, n1, d0, d1, hk => by
    have hi : i < s.length := by omega
    have hx := hv _ (rdT_mem s i hi)
    have hdx := hd _ (rdT_mem s i hi)
    have hb := bt_b ht hx
    have hw := wv_b hdx hp hb.1
    unfold okL at hx
    have hm := mulb (x := (rd_T36 s (i : Int)).f0) (y := wv p t (rd_T36 s (i : Int))) (X := 10) (Y := 160000) (by omega) (by omega) (by omega) (by omega)
    have hm2 := mulb (x := (rd_T36 s (i : Int)).f0) (y := d) (X := 10) (Y := 640000) (by omega) (by omega) (by omega) (by omega)
    rw [rdT_drop s i hi] at hk
    simp only [goB] at hk
    have w1 : wrap64 ((rd_T36 s (i : Int)).f1 * t) = (rd_T36 s (i : Int)).f1 * t := wsm (by unfold sm; omega)
    have w2 : wrap64 (Int.tdiv p ((rd_T36 s (i : Int)).f1 * t)) = wv p t (rd_T36 s (i : Int)) := wsm (by show sm (wv p t (rd_T36 s (i : Int))); unfold sm; omega)
    have w3 : wrap64 ((rd_T36 s (i : Int)).f0 * wv p t (rd_T36 s (i : Int))) = (rd_T36 s (i : Int)).f0 * wv p t (rd_T36 s (i : Int)) := wsm (by unfold sm; omega)
    have w4 : wrap64 (n + (rd_T36 s (i : Int)).f0 * wv p t (rd_T36 s (i : Int))) = n + (rd_T36 s (i : Int)).f0 * wv p t (rd_T36 s (i : Int)) := wsm (by unfold sm; omega)
    have w5 : wrap64 (d + wv p t (rd_T36 s (i : Int))) = d + wv p t (rd_T36 s (i : Int)) := wsm (by unfold sm; omega)
    have w6 : wrap64 ((rd_T36 s (i : Int)).f0 * d) = (rd_T36 s (i : Int)).f0 * d := wsm (by unfold sm; omega)
    by_cases hc : d > 0 ∧ (rd_T36 s (i : Int)).f0 * d ≥ n
    · rw [if_pos hc] at hk
      refine Ev.step (fun k => ?_) hk
      simp only [jam_balance.l1]
      rw [if_pos (by omega), if_pos (by omega), if_pos (by omega), if_pos hc.1, w6, if_pos hc.2]
    · rw [if_neg hc] at hk
      have ih := bal_l1 l s t p ht hp hp2 hs hv hd R m (i + 1) _ _ (by omega) (by omega) (by omega) (by omega) (by omega) hk
      refine Ev.step (fun k => ?_) ih
      simp only [jam_balance.l1]
      rw [if_pos (by omega), if_pos (by omega), if_pos (by omega), wrapN i (by omega), w6, w1, w2, w3, w4, w5]
      by_cases h0 : d > 0
      · rw [if_pos h0, if_neg (fun h => hc ⟨h0, h⟩), if_neg (by omega)]
      · rw [if_neg h0, if_neg (by omega)]
/-- What a lane takes. -/
def nv (w : S36 → Int) (n d : Int) (x : S36) : Int := (if x.f0 * d < n then n - x.f0 * d else 0) * w x
def balT (k : Nat) (p n d : Int) (nums : List Int) : Option (List Int × Int × Int × Int) :=
  (ratio_Parts.f k nums (wrap64 (d * p))).bind fun b => (ratio_Of.f k n d).bind fun c => some (b.1, b.2, c.1, c.2)
theorem bal_l2 (l : List S36) (t p n d : Int) (ht : t = 1 ∨ t = 2) (hp : 0 < p) (hp2 : p ≤ 160000) (hl : l.length ≤ 4) (hv : ∀ x ∈ l, okL x) (hd : ∀ x ∈ l, (x.f1 * t) ∣ p) (n0 : 0 ≤ n) (n1 : n ≤ 6560000) (d0 : 0 ≤ d) (d1 : d ≤ 640000) (R : List Int × Int × Int × Int) : ∀ (m i : Nat) (acc : List Int), i + m = l.length → acc.length = i →
    Ev (fun k => balT k p n d (acc ++ (l.drop i).map (nv (wv p t) n d))) R → Ev (fun k => jam_balance.l2 k t p n d acc l (l.length : Int) (i : Int)) R
  | 0, i, acc, h, ha, hk => by
    rw [List.drop_of_length_le (by omega)] at hk
    simp only [List.map_nil, List.append_nil] at hk
    refine Ev.step (fun k => ?_) hk
    simp only [jam_balance.l2, balT]
    rw [if_neg (by omega)]
  | m + 1, i, acc, h, ha, hk => by
    have hi : i < l.length := by omega
    have hx := hv _ (rdT_mem l i hi)
    have hdx := hd _ (rdT_mem l i hi)
    have hb := bt_b ht hx
    have hw := wv_b hdx hp hb.1
    unfold okL at hx
    have hm2 := mulb (x := (rd_T36 l (i : Int)).f0) (y := d) (X := 10) (Y := 640000) (by omega) (by omega) (by omega) (by omega)
    have w1 : wrap64 ((rd_T36 l (i : Int)).f1 * t) = (rd_T36 l (i : Int)).f1 * t := wsm (by unfold sm; omega)
    have w2 : wrap64 (Int.tdiv p ((rd_T36 l (i : Int)).f1 * t)) = wv p t (rd_T36 l (i : Int)) := wsm (by show sm (wv p t (rd_T36 l (i : Int))); unfold sm; omega)
    have w6 : wrap64 ((rd_T36 l (i : Int)).f0 * d) = (rd_T36 l (i : Int)).f0 * d := wsm (by unfold sm; omega)
    have w7 : wrap64 (n - (rd_T36 l (i : Int)).f0 * d) = n - (rd_T36 l (i : Int)).f0 * d := wsm (by unfold sm; omega)
    have w8 : mx 0 (n - (rd_T36 l (i : Int)).f0 * d) = if (rd_T36 l (i : Int)).f0 * d < n then n - (rd_T36 l (i : Int)).f0 * d else 0 := by
      unfold mx; split <;> split <;> omega
    have hq : 0 ≤ (if (rd_T36 l (i : Int)).f0 * d < n then n - (rd_T36 l (i : Int)).f0 * d else 0) ∧ (if (rd_T36 l (i : Int)).f0 * d < n then n - (rd_T36 l (i : Int)).f0 * d else 0) ≤ 6560000 := by split <;> omega
    have hm3 := mulb (y := wv p t (rd_T36 l (i : Int))) (Y := 160000) hq.1 hq.2 (by omega) (by omega)
    have w9 : wrap64 ((if (rd_T36 l (i : Int)).f0 * d < n then n - (rd_T36 l (i : Int)).f0 * d else 0) * wv p t (rd_T36 l (i : Int))) = nv (wv p t) n d (rd_T36 l (i : Int)) := wsm (by unfold sm; omega)
    rw [rdT_drop l i hi, List.map_cons, show acc ++ nv (wv p t) n d (rd_T36 l (i : Int)) :: (l.drop (i + 1)).map (nv (wv p t) n d) = (acc ++ [nv (wv p t) n d (rd_T36 l (i : Int))]) ++ (l.drop (i + 1)).map (nv (wv p t) n d) by simp] at hk
    have ih := bal_l2 l t p n d ht hp hp2 hl hv hd n0 n1 d0 d1 R m (i + 1) _ (by omega) (by simp [ha]) hk
    refine Ev.step (fun k => ?_) ih
    simp only [jam_balance.l2]
    rw [if_pos (by omega), if_pos (by omega), if_pos (by omega), wrapN i (by omega), w6, w1, w2, w7, w8, w9, if_neg (by omega), if_pos (by omega)]
theorem Good.b {p t : Int} {l : List S36} {n d : Int} (hp : 0 < p) (hp2 : p ≤ 160000) (hl : l.length ≤ 4) (hw : ∀ x ∈ l, okL x ∧ 0 < wv p t x ∧ wv p t x ≤ p) (g : Good (wv p t) p l n d) : 0 ≤ n ∧ n ≤ 6560000 ∧ 0 < d ∧ d ≤ 640000 := by
  obtain ⟨h0, h1, h2⟩ := g
  have a1 : sumL (fun x => if x.f0 * d < n then x.f0 * wv p t x else 0) l ≤ sumL (fun _ => 1600000) l := sumL_le fun x hx => by
    obtain ⟨h3, h4, h5⟩ := hw x hx
    unfold okL at h3
    have := mulb (x := x.f0) (y := wv p t x) (X := 10) (Y := 160000) (by omega) (by omega) (by omega) (by omega)
    split <;> omega
  have a0 : 0 ≤ sumL (fun x => if x.f0 * d < n then x.f0 * wv p t x else 0) l := sumL_pos fun x hx => by
    obtain ⟨h3, h4, h5⟩ := hw x hx
    unfold okL at h3
    have := mulb (x := x.f0) (y := wv p t x) (X := 10) (Y := 160000) (by omega) (by omega) (by omega) (by omega)
    split <;> omega
  have a2 : sumL (fun x => if x.f0 * d < n then wv p t x else 0) l ≤ sumL (fun _ => 160000) l := sumL_le fun x hx => by
    obtain ⟨h3, h4, h5⟩ := hw x hx
    split <;> omega
  rw [sumL_const] at a1 a2
  omega
/-- The whole of balance. -/
theorem balance_ev {l : List S36} {t : Int} (ht : t = 1 ∨ t = 2) (hne : l ≠ []) (hl : l.length ≤ 4) (hv : ∀ x ∈ l, okL x) :
    ∃ n d, Good (wv (prodL t l) t) (prodL t l) l n d ∧ Ev (fun k => jam_balance.f k l t) ((partsR (l.map (nv (wv (prodL t l) t) n d)) (d * prodL t l) (gl (l.map (nv (wv (prodL t l) t) n d)) (d * prodL t l))).1, (partsR (l.map (nv (wv (prodL t l) t) n d)) (d * prodL t l) (gl (l.map (nv (wv (prodL t l) t) n d)) (d * prodL t l))).2, (ratR n d).1, (ratR n d).2) := by
  have hp := prodL_b ht hv
  have hp2 : prodL t l ≤ 160000 := Int.le_trans hp.2 (pow20 hl)
  obtain ⟨s, hs, hperm, hsort⟩ := sorted_ev hne hl hv
  have hvs : ∀ x ∈ s, okL x := fun x hx => hv x (hperm.mem_iff.1 hx)
  have hds : ∀ x ∈ s, (x.f1 * t) ∣ prodL t l := fun x hx => prodL_dvd x (hperm.mem_iff.1 hx)
  have hws : ∀ x ∈ s, okL x ∧ 0 < wv (prodL t l) t x ∧ wv (prodL t l) t x ≤ prodL t l := fun x hx => ⟨hvs x hx, wv_b (hds x hx) hp.1 (bt_b ht (hvs x hx)).1⟩
  have hws2 : ∀ x ∈ l, okL x ∧ 0 < wv (prodL t l) t x ∧ wv (prodL t l) t x ≤ prodL t l := fun x hx => hws x (hperm.mem_iff.2 hx)
  have hsne : s ≠ [] := fun h => hne (by rw [h] at hperm; exact hperm.symm.eq_nil)
  have g := (goB_good (wv (prodL t l) t) (prodL t l) hp.1 s [] (prodL t l) 0 (by simpa using hsort) (by simpa using fun x hx => ⟨(hws x hx).2.1, (hvs x hx).1⟩) (by simpa using hsne) (by simp) (by simp [sumL]) (by simp [sumL]))
  rw [List.nil_append] at g
  generalize hnd : goB (wv (prodL t l) t) s (prodL t l) 0 = nd at g
  have g2 := g.perm hperm
  have gb := g2.b hp.1 hp2 hl hws2
  refine ⟨nd.1, nd.2, g2, ?_⟩
  have hm := mulb (x := nd.2) (y := prodL t l) (X := 640000) (Y := 160000) (by omega) (by omega) (by omega) hp2
  have hdp : 0 < nd.2 * prodL t l := Int.mul_pos gb.2.2.1 hp.1
  have hnum : ∀ y ∈ l.map (nv (wv (prodL t l) t) nd.1 nd.2), sm y := by
    intro y hy
    obtain ⟨x, hx, rfl⟩ := List.mem_map.1 hy
    obtain ⟨h3, h4, h5⟩ := hws2 x hx
    unfold okL at h3
    have hm2 := mulb (x := x.f0) (y := nd.2) (X := 10) (Y := 640000) (by omega) (by omega) (by omega) (by omega)
    have hq : 0 ≤ (if x.f0 * nd.2 < nd.1 then nd.1 - x.f0 * nd.2 else 0) ∧ (if x.f0 * nd.2 < nd.1 then nd.1 - x.f0 * nd.2 else 0) ≤ 6560000 := by split <;> omega
    have hm3 := mulb (y := wv (prodL t l) t x) (Y := 160000) hq.1 hq.2 (by omega) (by omega)
    unfold nv sm
    omega
  have hT : Ev (fun k => balT k (prodL t l) nd.1 nd.2 (l.map (nv (wv (prodL t l) t) nd.1 nd.2))) ((partsR (l.map (nv (wv (prodL t l) t) nd.1 nd.2)) (nd.2 * prodL t l) (gl (l.map (nv (wv (prodL t l) t) nd.1 nd.2)) (nd.2 * prodL t l))).1, (partsR (l.map (nv (wv (prodL t l) t) nd.1 nd.2)) (nd.2 * prodL t l) (gl (l.map (nv (wv (prodL t l) t) nd.1 nd.2)) (nd.2 * prodL t l))).2, (ratR nd.1 nd.2).1, (ratR nd.1 nd.2).2) := by
    unfold balT
    rw [wsm (x := nd.2 * prodL t l) (by unfold sm; omega)]
    exact Ev.bind (parts_ev _ _ (by simp; omega) hnum (by unfold sm; omega) hdp) (Ev.bind (of_ev (by unfold sm; omega) (by unfold sm; omega) gb.2.2.1) (Ev.now _))
  have h2 := bal_l2 l t (prodL t l) nd.1 nd.2 ht hp.1 hp2 hl hv (fun x hx => prodL_dvd x hx) gb.1 gb.2.1 (by omega) gb.2.2.2 _ l.length 0 [] (by omega) rfl (by simpa using hT)
  have h3 : Ev (fun k => jam_balance.j2 k l t (prodL t l) nd.1 nd.2) _ := Ev.step (fun k => by simp only [jam_balance.j2]; rfl) h2
  have h4 := bal_l1 l s t (prodL t l) ht hp.1 hp2 (by rw [hperm.length_eq]; exact hl) hvs hds _ s.length 0 (prodL t l) 0 (by omega) (by omega) (by omega) (by omega) (by omega) (by simp only [List.drop_zero]; rw [hnd]; exact h3)
  unfold jam_balance.f
  refine bal_l0 l t ht hl hv _ l.length 0 1 (by omega) (by omega) (by simp) ?_
  simp only [Int.one_mul, List.drop_zero]
  exact Ev.congr (fun k => by rw [hs]; rfl) h4
end Go.Proofs.Ytjgbdicbdlollaa.B
namespace Go.Proofs.Ytjgbdicbdlollaa.B
open Go.RowKit Go.Sort Go.Proofs.YtjgbdicbdlollaaW.PrintWords Go.Proofs.YtjgbdicbdlollaaW.PrintLast Go.Proofs.YtjgbdicbdlollaaW.PrintMore
set_option linter.unusedVariables false
set_option linter.unusedSimpArgs false
theorem gl_scale {c : Int} (hc : 0 < c) : ∀ (l : List Int) (d : Int), gl (l.map fun x => c * x) (c * d) = c * gl l d
  | [], d => rfl
  | n :: l, d => by
    simp only [List.map_cons, gl]
    have e : (Int.gcd (c * d) (c * n) : Int) = c * (Int.gcd d n : Int) := by
      rw [Int.gcd_mul_left, Int.natCast_mul]; congr 1; omega
    rw [e, gl_scale hc l]
theorem partsR_scale {c : Int} (hc : 0 < c) (l : List Int) (d : Int) : partsR (l.map fun x => c * x) (c * d) (gl (l.map fun x => c * x) (c * d)) = partsR l d (gl l d) := by
  rw [gl_scale hc]
  unfold partsR
  rw [List.map_map]
  congr 1
  · exact List.map_congr_left fun x _ => Int.mul_tdiv_mul_of_pos _ _ hc
  · exact Int.mul_tdiv_mul_of_pos _ _ hc
theorem dvd5040 {t : Int} (ht : t = 1 ∨ t = 2) {x : S36} (h : okL x) : (x.f1 * t) ∣ 5040 := by
  unfold okL at h
  have h1 : x.f1 = 1 ∨ x.f1 = 2 ∨ x.f1 = 3 ∨ x.f1 = 4 ∨ x.f1 = 5 ∨ x.f1 = 6 ∨ x.f1 = 7 ∨ x.f1 = 8 ∨ x.f1 = 9 ∨ x.f1 = 10 := by omega
  rcases ht with rfl | rfl <;> rcases h1 with e | e | e | e | e | e | e | e | e | e <;> rw [e] <;> decide
theorem wv_cross {p t : Int} (ht : t = 1 ∨ t = 2) {x : S36} (h : okL x) (hd : (x.f1 * t) ∣ p) : 5040 * wv p t x = p * wv 5040 t x := by
  have e1 := wv_mul hd
  have e2 := wv_mul (dvd5040 ht h)
  have hb := bt_b ht h
  refine Int.eq_of_mul_eq_mul_right (show x.f1 * t ≠ 0 by omega) ?_
  rw [Int.mul_assoc, e1, Int.mul_assoc, e2, Int.mul_comm]
/-- The same time, with numbers of one size. -/
theorem Good.canon {p t : Int} (ht : t = 1 ∨ t = 2) {l : List S36} {n d : Int} (hp : 0 < p) (hv : ∀ x ∈ l, okL x) (hd : ∀ x ∈ l, (x.f1 * t) ∣ p) (g : Good (wv p t) p l n d) :
    ∃ N C, Good (wv 5040 t) 5040 l N C ∧ 5040 * n = p * N ∧ 5040 * d = p * C := by
  obtain ⟨h0, h1, h2⟩ := g
  have e1 : 5040 * d = p * sumL (fun x => if x.f0 * d < n then wv 5040 t x else 0) l := by
    rw [← sumL_mul]
    conv => lhs; rw [h2, ← sumL_mul]
    refine sumL_congr fun x hx => ?_
    split
    · exact wv_cross ht (hv x hx) (hd x hx)
    · simp
  have e2 : 5040 * n = p * (5040 + sumL (fun x => if x.f0 * d < n then x.f0 * wv 5040 t x else 0) l) := by
    rw [Int.mul_add, ← sumL_mul]
    conv => lhs; rw [h1, Int.mul_add, ← sumL_mul]
    rw [Int.mul_comm 5040 p]
    congr 1
    refine sumL_congr fun x hx => ?_
    split
    · rw [Int.mul_left_comm, wv_cross ht (hv x hx) (hd x hx), Int.mul_left_comm]
    · simp
  refine ⟨_, _, ?_, e2, e1⟩
  generalize hC : sumL (fun x => if x.f0 * d < n then wv 5040 t x else 0) l = C at *
  generalize hN : (5040 + sumL (fun x => if x.f0 * d < n then x.f0 * wv 5040 t x else 0) l) = N at *
  have hs : ∀ x : S36, (x.f0 * d < n) ↔ (x.f0 * C < N) := by
    intro x
    have a1 : 5040 * (x.f0 * d) = p * (x.f0 * C) := by rw [Int.mul_left_comm, e1, Int.mul_left_comm]
    constructor
    · intro h
      have : p * (x.f0 * C) < p * N := by omega
      exact Int.lt_of_mul_lt_mul_left this (Int.le_of_lt hp)
    · intro h
      have : p * (x.f0 * C) < p * N := Int.mul_lt_mul_of_pos_left h hp
      omega
  refine ⟨?_, ?_, ?_⟩
  · rcases Int.lt_trichotomy C 0 with h | h | h
    · have := Int.mul_neg_of_pos_of_neg hp h; omega
    · rw [h] at e1; simp at e1; omega
    · exact h
  · rw [← hN]; congr 1; rw [hN]
    refine sumL_congr fun x hx => ?_
    by_cases hx : x.f0 * d < n
    · rw [if_pos hx, if_pos ((hs x).1 hx)]
    · rw [if_neg hx, if_neg fun h => hx ((hs x).2 h)]
  · conv => lhs; rw [← hC]
    refine sumL_congr fun x hx => ?_
    by_cases hx : x.f0 * d < n
    · rw [if_pos hx, if_pos ((hs x).1 hx)]
    · rw [if_neg hx, if_neg fun h => hx ((hs x).2 h)]
theorem nv_canon {p t : Int} (ht : t = 1 ∨ t = 2) {x : S36} (h : okL x) (hd : (x.f1 * t) ∣ p) (hp : 0 < p) {n d N C : Int} (e2 : 5040 * n = p * N) (e1 : 5040 * d = p * C) :
    (5040 * 5040) * nv (wv p t) n d x = (p * p) * nv (wv 5040 t) N C x := by
  have hw := wv_cross ht h hd
  have a1 : 5040 * (x.f0 * d) = p * (x.f0 * C) := by rw [Int.mul_left_comm, e1, Int.mul_left_comm]
  have hs : (x.f0 * d < n) ↔ (x.f0 * C < N) := by
    constructor
    · intro h
      have : p * (x.f0 * C) < p * N := by omega
      exact Int.lt_of_mul_lt_mul_left this (Int.le_of_lt hp)
    · intro h
      have : p * (x.f0 * C) < p * N := Int.mul_lt_mul_of_pos_left h hp
      omega
  unfold nv
  by_cases hx : x.f0 * d < n
  · rw [if_pos hx, if_pos (hs.1 hx)]
    have a2 : 5040 * (n - x.f0 * d) = p * (N - x.f0 * C) := by rw [Int.mul_sub, Int.mul_sub, a1, e2]
    calc (5040 * 5040) * ((n - x.f0 * d) * wv p t x) = (5040 * (n - x.f0 * d)) * (5040 * wv p t x) := by
          generalize n - x.f0 * d = u; generalize wv p t x = v
          rw [Int.mul_assoc 5040 5040, Int.mul_left_comm 5040 u v, ← Int.mul_assoc 5040 u]
      _ = (p * (N - x.f0 * C)) * (p * wv 5040 t x) := by rw [a2, hw]
      _ = (p * p) * ((N - x.f0 * C) * wv 5040 t x) := by
          generalize N - x.f0 * C = u; generalize wv 5040 t x = v
          rw [Int.mul_assoc p p, Int.mul_left_comm p u v, ← Int.mul_assoc p u]
  · rw [if_neg hx, if_neg fun h => hx (hs.2 h)]; simp
theorem parts_canon {p t : Int} (ht : t = 1 ∨ t = 2) {l : List S36} (hv : ∀ x ∈ l, okL x) (hd : ∀ x ∈ l, (x.f1 * t) ∣ p) (hp : 0 < p) {n d N C : Int} (e2 : 5040 * n = p * N) (e1 : 5040 * d = p * C) :
    partsR (l.map (nv (wv p t) n d)) (d * p) (gl (l.map (nv (wv p t) n d)) (d * p)) = partsR (l.map (nv (wv 5040 t) N C)) (C * 5040) (gl (l.map (nv (wv 5040 t) N C)) (C * 5040)) := by
  rw [← partsR_scale (c := 5040 * 5040) (by decide) (l.map (nv (wv p t) n d)), ← partsR_scale (c := p * p) (Int.mul_pos hp hp) (l.map (nv (wv 5040 t) N C))]
  have a : (l.map (nv (wv p t) n d)).map (fun x => (5040 * 5040) * x) = (l.map (nv (wv 5040 t) N C)).map (fun x => (p * p) * x) := by
    rw [List.map_map, List.map_map]
    exact List.map_congr_left fun x hx => nv_canon ht (hv x hx) (hd x hx) hp e2 e1
  have b : (5040 * 5040) * (d * p) = (p * p) * (C * 5040) := by
    calc (5040 * 5040) * (d * p) = (5040 * d) * (p * 5040) := by
          rw [Int.mul_assoc 5040 5040, Int.mul_left_comm 5040 d p, ← Int.mul_assoc 5040 d, Int.mul_comm 5040 p]
      _ = (p * p) * (C * 5040) := by rw [e1, Int.mul_assoc p C, Int.mul_left_comm C p, ← Int.mul_assoc p p]
  rw [a, b]
theorem tdiv_b {a b : Int} (h : 0 < b) (h1 : b ≤ a) : 1 ≤ Int.tdiv a b ∧ Int.tdiv a b ≤ a := by
  rw [Int.tdiv_eq_ediv_of_nonneg (by omega)]
  exact ⟨(Int.le_ediv_iff_mul_le h).2 (by omega), Int.ediv_le_self _ (by omega)⟩
theorem tdiv_mono {a b c : Int} (h : 0 < c) (h0 : 0 ≤ a) (h1 : a ≤ b) : 0 ≤ Int.tdiv a c ∧ Int.tdiv a c ≤ Int.tdiv b c := by
  rw [Int.tdiv_eq_ediv_of_nonneg h0, Int.tdiv_eq_ediv_of_nonneg (by omega)]
  exact ⟨Int.ediv_nonneg h0 (by omega), Int.ediv_le_ediv h h1⟩
theorem parts_b {t : Int} (ht : t = 1 ∨ t = 2) {l : List S36} (hl : l.length ≤ 4) (hv : ∀ x ∈ l, okL x) {N C : Int} (g : Good (wv 5040 t) 5040 l N C) :
    let P := partsR (l.map (nv (wv 5040 t) N C)) (C * 5040) (gl (l.map (nv (wv 5040 t) N C)) (C * 5040))
    P.1.length = l.length ∧ 0 < P.2 ∧ P.2 ≤ 101606400 ∧ ∀ y ∈ P.1, 0 ≤ y ∧ y ≤ P.2 := by
  intro P
  have hw : ∀ x ∈ l, 0 < wv 5040 t x ∧ wv 5040 t x ≤ 5040 := fun x hx => wv_b (dvd5040 ht (hv x hx)) (by decide) (bt_b ht (hv x hx)).1
  have hC : C ≤ 20160 := by
    have a2 : sumL (fun x => if x.f0 * C < N then wv 5040 t x else 0) l ≤ sumL (fun _ => 5040) l := sumL_le fun x hx => by
      have := hw x hx; split <;> omega
    rw [sumL_const, ← g.2.2] at a2
    omega
  have h0 := g.1
  have hg := gl_pos (l.map (nv (wv 5040 t) N C)) (C * 5040) (by unfold sm; omega) (by omega)
  have hD := tdiv_b hg.2.1 hg.2.2
  refine ⟨by simp [P, partsR], show 0 < Int.tdiv _ _ by omega, show Int.tdiv _ _ ≤ _ by omega, fun y hy => ?_⟩
  obtain ⟨z, hz, rfl⟩ := List.mem_map.1 hy
  obtain ⟨x, hx, rfl⟩ := List.mem_map.1 hz
  have hf := g.full
  have hnn : ∀ x ∈ l, 0 ≤ (if x.f0 * C < N then wv 5040 t x * (N - x.f0 * C) else 0) := fun x hx => by
    split
    · exact Int.mul_nonneg (by have := hw x hx; omega) (by omega)
    · omega
  have hm := sumL_mem hnn x hx
  rw [hf] at hm
  have e : nv (wv 5040 t) N C x = (if x.f0 * C < N then wv 5040 t x * (N - x.f0 * C) else 0) := by
    unfold nv; split
    · exact Int.mul_comm _ _
    · simp
  have h1 := hnn x hx
  exact tdiv_mono hg.2.1 (by rw [e]; exact h1) (by rw [e]; omega)
/-- A delay's sum. -/
def delS (l : List S36) (X : List Int) (D : Int) : Nat → Nat → Int → Int
  | 0, _, s => s
  | m + 1, i, s => delS l X D m (i + 1) (s + rd X (i : Int) * ((rd_T36 l (i : Int)).f0 * D + (rd_T36 l (i : Int)).f1 * rd X (i : Int)))
theorem del_term {l : List S36} {X : List Int} {D : Int} (hX : X.length = l.length) (hv : ∀ x ∈ l, okL x) (h0 : 0 < D) (h1 : D ≤ 101606400) (hy : ∀ y ∈ X, 0 ≤ y ∧ y ≤ D) (i : Nat) (hi : i < l.length) :
    let a := (rd_T36 l (i : Int)).f0 * D
    let b := (rd_T36 l (i : Int)).f1 * rd X (i : Int)
    (0 ≤ a ∧ a ≤ 1016064000) ∧ (0 ≤ b ∧ b ≤ 1016064000) ∧ 0 ≤ rd X (i : Int) * (a + b) ∧ rd X (i : Int) * (a + b) ≤ 206477210419200000 := by
  intro a b
  have hx := hv _ (rdT_mem l i hi)
  have hn := hy _ (rd_mem2 X i (by omega))
  unfold okL at hx
  have m1 := mulb (x := (rd_T36 l (i : Int)).f0) (y := D) (X := 10) (Y := 101606400) (by omega) (by omega) (by omega) h1
  have m2 := mulb (x := (rd_T36 l (i : Int)).f1) (y := rd X (i : Int)) (X := 10) (Y := 101606400) (by omega) (by omega) (by omega) (by omega)
  have m3 := mulb (x := rd X (i : Int)) (y := a + b) (X := 101606400) (Y := 2032128000) (by omega) (by omega) (by omega) (by omega)
  refine ⟨⟨by omega, by omega⟩, ⟨by omega, by omega⟩, by omega, by omega⟩
theorem delS_ev {l : List S36} {X : List Int} {D : Int} (hl : l.length ≤ 4) (hX : X.length = l.length) (hv : ∀ x ∈ l, okL x) (h0 : 0 < D) (h1 : D ≤ 101606400) (hy : ∀ y ∈ X, 0 ≤ y ∧ y ≤ D) : ∀ (m i : Nat) (s : Int), i + m = l.length → 0 ≤ s → s ≤ 206477210419200000 * i →
    (delL l X D m i s = some (delS l X D m i s) ∧ 0 ≤ delS l X D m i s ∧ delS l X D m i s ≤ 206477210419200000 * 4) ∧ Ev (fun k => trishawref02_delay.l0 k l s (i : Int) X D) (ratR (delS l X D m i s) (D * D))
  | 0, i, s, h, s0, s1 => by
    have hDD := mulb (x := D) (y := D) (X := 101606400) (Y := 101606400) (by omega) h1 (by omega) h1
    have hD2 : 0 < D * D := Int.mul_pos h0 h0
    refine ⟨⟨rfl, s0, by simp only [delS]; omega⟩, ?_⟩
    simp only [delS]
    refine Ev.step (f := fun k => (trishawref01_Ratio.f k s (D * D)).bind fun bt => some (bt.1, bt.2)) (fun k => ?_) (Ev.bind (ratio_ev (by unfold sm; omega) (by unfold sm; omega) hD2) (Ev.now _))
    simp only [trishawref02_delay.l0]
    rw [if_neg (by omega), wsm (x := D * D) (by unfold sm; omega)]
  | m + 1, i, s, h, s0, s1 => by
    have hi : i < l.length := by omega
    have hT := del_term hX hv h0 h1 hy i hi
    simp only at hT
    obtain ⟨⟨a0, a1⟩, ⟨b0, b1⟩, c0, c1⟩ := hT
    have ih := delS_ev hl hX hv h0 h1 hy m (i + 1) (s + rd X (i : Int) * ((rd_T36 l (i : Int)).f0 * D + (rd_T36 l (i : Int)).f1 * rd X (i : Int))) (by omega) (by omega) (by omega)
    have w1 : wrap64 ((rd_T36 l (i : Int)).f0 * D) = (rd_T36 l (i : Int)).f0 * D := wsm (by unfold sm; omega)
    have w2 : wrap64 ((rd_T36 l (i : Int)).f1 * rd X (i : Int)) = (rd_T36 l (i : Int)).f1 * rd X (i : Int) := wsm (by unfold sm; omega)
    have w3 : wrap64 ((rd_T36 l (i : Int)).f0 * D + (rd_T36 l (i : Int)).f1 * rd X (i : Int)) = (rd_T36 l (i : Int)).f0 * D + (rd_T36 l (i : Int)).f1 * rd X (i : Int) := wsm (by unfold sm; omega)
    have w4 : wrap64 (rd X (i : Int) * ((rd_T36 l (i : Int)).f0 * D + (rd_T36 l (i : Int)).f1 * rd X (i : Int))) = rd X (i : Int) * ((rd_T36 l (i : Int)).f0 * D + (rd_T36 l (i : Int)).f1 * rd X (i : Int)) := wsm (by unfold sm; omega)
    have w5 : wrap64 (s + rd X (i : Int) * ((rd_T36 l (i : Int)).f0 * D + (rd_T36 l (i : Int)).f1 * rd X (i : Int))) = s + rd X (i : Int) * ((rd_T36 l (i : Int)).f0 * D + (rd_T36 l (i : Int)).f1 * rd X (i : Int)) := wsm (by unfold sm; omega)
    refine ⟨⟨?_, ih.1.2⟩, ?_⟩
    · simp only [delL, delS, laneCost]
      rw [if_pos (by omega), w1, w2, w3, w4, w5]
      exact ih.1.1
    · refine Ev.step (fun k => ?_) ih.2
      simp only [trishawref02_delay.l0]
      rw [if_pos (by omega), if_pos (by omega), if_pos (by omega), wrapN i (by omega), w1, w2, w3, w4, w5]
theorem delay_ev {l : List S36} {X : List Int} {D : Int} (hl : l.length ≤ 4) (hX : X.length = l.length) (hv : ∀ x ∈ l, okL x) (h0 : 0 < D) (h1 : D ≤ 101606400) (hy : ∀ y ∈ X, 0 ≤ y ∧ y ≤ D) :
    Ev (fun k => jam_delay.f k l X D) (ratR (delS l X D l.length 0 0) (D * D)) ∧ Ev (fun k => trishawref02_delay.f k l X D) (ratR (delS l X D l.length 0 0) (D * D)) := by
  have hDD := mulb (x := D) (y := D) (X := 101606400) (Y := 101606400) (by omega) h1 (by omega) h1
  have hD2 : 0 < D * D := Int.mul_pos h0 h0
  obtain ⟨⟨e1, e2, e3⟩, e4⟩ := delS_ev hl hX hv h0 h1 hy l.length 0 0 (by omega) (by omega) (by omega)
  refine ⟨?_, e4⟩
  refine Ev.congr (f := fun k => ratio_Of.f k (delS l X D l.length 0 0) (D * D)) (fun k => ?_) (of_ev (by unfold sm; omega) (by unfold sm; omega) hD2)
  unfold jam_delay.f
  rw [if_pos (by omega), e1, wsm (x := D * D) (by unfold sm; omega)]
  rfl
theorem okL_iff (x : S36) : okL x ↔ badLane x = false := by
  unfold okL badLane
  simp only [Bool.or_eq_false_iff, decide_eq_false_iff_not]
  omega
/-- The judgement on lanes. -/
def laneE (l : List S36) : Int := if 4 < l.length then 3 else if l = [] ∨ l.any badLane = true then 2 else 0
theorem stream_laneE (l : List S36) : jam_stream.f l = some (laneE l) := rfl
theorem lanes_l0 (l : List S36) (hl : l.length ≤ 4) : ∀ (m i : Nat), i + m = l.length → Ev (fun k => trishawref02_Lanes.l0 k l (i : Int)) (if (l.drop i).any badLane = true then 2 else 0)
  | 0, i, h => by
    rw [List.drop_of_length_le (by omega)]
    refine Ev.step (f := fun _ => some 0) (fun k => ?_) (Ev.now _)
    simp only [trishawref02_Lanes.l0]
    rw [if_neg (by omega)]
  | m + 1, i, h => by
    have hi : i < l.length := by omega
    have ih := lanes_l0 l hl m (i + 1) (by omega)
    rw [rdT_drop l i hi, List.any_cons]
    generalize hx : rd_T36 l (i : Int) = x at *
    cases hb : badLane x with
    | true =>
      simp only [Bool.true_or, if_true]
      have hj : Ev (fun k => trishawref02_Lanes.j1 k l (i : Int) true) 2 := Ev.step (f := fun _ => some 2) (fun k => by simp [trishawref02_Lanes.j1]) (Ev.now _)
      refine Ev.step (fun k => ?_) hj
      simp only [trishawref02_Lanes.l0]
      rw [if_pos (by omega), if_pos (by omega), hx]
      unfold badLane at hb
      simp only [Bool.or_eq_true, decide_eq_true_eq] at hb
      by_cases h1 : x.f0 < 0
      · rw [if_pos h1]
      · rw [if_neg h1]
        by_cases h2 : x.f0 > 10
        · rw [if_pos h2]
        · rw [if_neg h2]
          by_cases h3 : x.f1 < 1
          · rw [if_pos h3]
          · rw [if_neg h3, decide_eq_true (show x.f1 > 10 by omega)]
    | false =>
      simp only [Bool.false_or]
      have hx2 := (okL_iff x).2 hb
      unfold okL at hx2
      have hj : Ev (fun k => trishawref02_Lanes.j1 k l (i : Int) false) _ := Ev.step (f := fun k => trishawref02_Lanes.l0 k l ((i + 1 : Nat) : Int)) (fun k => by simp only [trishawref02_Lanes.j1]; rw [if_neg (by simp), wrapN i (by omega)]) ih
      refine Ev.step (fun k => ?_) hj
      simp only [trishawref02_Lanes.l0]
      rw [if_pos (by omega), if_pos (by omega), hx, if_neg (by omega), if_neg (by omega), if_neg (by omega), decide_eq_false (by omega)]
theorem lanes_ev (l : List S36) (hl : l.length < 1000000) : Ev (fun k => trishawref02_Lanes.f k l) (laneE l) := by
  unfold trishawref02_Lanes.f laneE
  by_cases h4 : 4 < l.length
  · rw [if_pos h4]; refine Ev.congr (f := fun _ => some 3) (fun k => ?_) (Ev.now _); rw [if_pos (by omega)]
  · rw [if_neg h4]
    by_cases h0 : l = []
    · subst h0; rw [if_pos (Or.inl rfl)]; refine Ev.congr (f := fun _ => some 2) (fun k => ?_) (Ev.now _); simp
    · have h1 : l.length ≠ 0 := by simpa using h0
      have hh := lanes_l0 l (by omega) l.length 0 (by omega)
      have e : (if l = [] ∨ l.any badLane = true then (2 : Int) else 0) = (if (l.drop 0).any badLane = true then 2 else 0) := by simp [h0]
      rw [e]
      refine Ev.congr (fun k => ?_) hh
      rw [if_neg (by omega), if_neg (by omega)]
      rfl
theorem laneE_ok {l : List S36} (h : laneE l = 0) : l ≠ [] ∧ l.length ≤ 4 ∧ ∀ x ∈ l, okL x := by
  unfold laneE at h
  split at h
  · omega
  · split at h
    · omega
    · rename_i h1 h2
      refine ⟨fun e => h2 (Or.inl e), by omega, fun x hx => (okL_iff x).2 ?_⟩
      cases hb : badLane x with
      | false => rfl
      | true => exact absurd (Or.inr (List.any_eq_true.2 ⟨x, hx, hb⟩)) h2
theorem same_l0 (x : List Int) (hx : x.length < 1000000) : ∀ (m i : Nat), i + m = x.length → Ev (fun k => trishawlaw02_same.l0 k x x (i : Int)) true
  | 0, i, h => by
    refine Ev.step (f := fun _ => some true) (fun k => ?_) (Ev.now _)
    simp only [trishawlaw02_same.l0]
    rw [if_neg (by omega)]
  | m + 1, i, h => by
    refine Ev.step (fun k => ?_) (same_l0 x hx m (i + 1) (by omega))
    simp only [trishawlaw02_same.l0]
    rw [if_pos (by omega), if_pos (by omega), if_pos (by omega), if_pos True.intro, wrapN i (by omega)]
theorem same_ev (x : List Int) (hx : x.length < 1000000) : Ev (fun k => trishawlaw02_same.f k x x) true := by
  refine Ev.congr (fun k => ?_) (same_l0 x hx x.length 0 (by omega))
  unfold trishawlaw02_same.f
  rw [if_pos rfl]; rfl
theorem parts_same (x : List Int) (d : Int) (hx : x.length < 1000000) : Ev (fun k => trishawlaw02_parts.f k x d x d) true := by
  unfold trishawlaw02_parts.f
  refine Ev.congr (fun k => if_pos rfl) (Ev.bind (same_ev x hx) (Ev.now true))
end Go.Proofs.Ytjgbdicbdlollaa.B
namespace Go.Proofs.Ytjgbdicbdlollaa.B
open Go.RowKit Go.Sort Go.Proofs.YtjgbdicbdlollaaW.PrintWords Go.Proofs.YtjgbdicbdlollaaW.PrintLast Go.Proofs.YtjgbdicbdlollaaW.PrintMore
theorem alive_ev : Ev (fun k => trishawlaw02_alive.f k) true := ⟨60, fun k hk => alive_from k hk⟩
theorem alive_ev2 : Ev (fun k => (trishawlaw02_alive.f k).bind fun t => some t) true := Ev.bind alive_ev (Ev.now true)
end Go.Proofs.Ytjgbdicbdlollaa.B
namespace Go.Proofs.Ytjgbdicbdlollaa.B
open Go.RowKit Go.Sort Go.Proofs.YtjgbdicbdlollaaW.PrintWords Go.Proofs.YtjgbdicbdlollaaW.PrintLast Go.Proofs.YtjgbdicbdlollaaW.PrintMore
set_option linter.unusedVariables false
set_option linter.unusedSimpArgs false
theorem bitI (S i : Nat) (hi : i < 64) : (Int.tmod (shr .i64 (S : Int) (i : Int)) 2 = 1) ↔ S / 2 ^ i % 2 = 1 := by
  unfold shr
  have h64 : IntKind.bits .i64 = 64 := by decide
  rw [h64, Int.toNat_natCast, Nat.min_eq_left (by omega), show ((2 : Int) ^ i) = ((2 ^ i : Nat) : Int) by simp, show (S : Int) / ((2 ^ i : Nat) : Int) = ((S / 2 ^ i : Nat) : Int) from rfl]
  rw [Int.tmod_eq_emod_of_nonneg (Int.natCast_nonneg _)]
  generalize S / 2 ^ i = q
  omega
def sumB (f : S36 → Int) (S : Nat) : Nat → List S36 → Int
  | _, [] => 0
  | i, x :: l => (if S / 2 ^ i % 2 = 1 then f x else 0) + sumB f S (i + 1) l
def okB (S : Nat) (n d : Int) : Nat → List S36 → Bool
  | _, [] => true
  | i, x :: l => (if S / 2 ^ i % 2 = 1 then decide (n - x.f0 * d > 0) else decide (n - x.f0 * d ≤ 0)) && okB S n d (i + 1) l
def numsB (w : S36 → Int) (S : Nat) (n d : Int) : Nat → List S36 → List Int
  | _, [] => []
  | i, x :: l => (if S / 2 ^ i % 2 = 1 then (n - x.f0 * d) * w x else 0) :: numsB w S n d (i + 1) l
theorem okB_sum {f : S36 → Int} {S : Nat} {n d : Int} : ∀ {i : Nat} {l : List S36}, okB S n d i l = true → sumB f S i l = sumL (fun x => if x.f0 * d < n then f x else 0) l
  | _, [], _ => rfl
  | i, x :: l, h => by
    simp only [okB, Bool.and_eq_true] at h
    simp only [sumB, sumL, okB_sum h.2]
    congr 1
    have h1 := h.1
    split at h1
    · rename_i hb
      rw [if_pos hb, if_pos (by have := of_decide_eq_true h1; omega)]
    · rename_i hb
      rw [if_neg hb, if_neg (by have := of_decide_eq_true h1; omega)]
theorem okB_nums {w : S36 → Int} {S : Nat} {n d : Int} : ∀ {i : Nat} {l : List S36}, okB S n d i l = true → numsB w S n d i l = l.map (nv w n d)
  | _, [], _ => rfl
  | i, x :: l, h => by
    simp only [okB, Bool.and_eq_true] at h
    simp only [numsB, List.map_cons, okB_nums h.2]
    congr 1
    have h1 := h.1
    unfold nv
    split at h1
    · rename_i hb
      rw [if_pos hb, if_pos (by have := of_decide_eq_true h1; omega)]
    · rename_i hb
      rw [if_neg hb, if_neg (by have := of_decide_eq_true h1; omega), Int.zero_mul]
/-- The set of the lanes below a time. -/
def mkS (n d : Int) : List S36 → Nat
  | [] => 0
  | x :: l => (if x.f0 * d < n then 1 else 0) + 2 * mkS n d l
theorem mkS_lt (n d : Int) : ∀ l : List S36, mkS n d l < 2 ^ l.length
  | [] => by simp [mkS]
  | x :: l => by
    have := mkS_lt n d l
    simp only [mkS, List.length_cons, Nat.pow_succ]
    split <;> omega
theorem mkS_drop (n d : Int) : ∀ (i : Nat) (l : List S36), mkS n d l / 2 ^ i = mkS n d (l.drop i)
  | 0, l => by simp
  | i + 1, [] => by simp [mkS]
  | i + 1, x :: l => by
    have := mkS_drop n d i l
    rw [List.drop_succ_cons, ← this, Nat.pow_succ, Nat.mul_comm (2 ^ i) 2, ← Nat.div_div_eq_div_mul]
    congr 1
    simp only [mkS]
    split <;> omega
theorem mkS_ok (n d : Int) (l0 : List S36) : ∀ (l : List S36) (i : Nat), l0.drop i = l → okB (mkS n d l0) n d i l = true
  | [], _, _ => rfl
  | x :: l, i, h => by
    have h2 : l0.drop (i + 1) = l := by rw [← List.drop_drop, h]; rfl
    simp only [okB, Bool.and_eq_true]
    refine ⟨?_, mkS_ok n d l0 l (i + 1) h2⟩
    have e : mkS n d l0 / 2 ^ i = (if x.f0 * d < n then 1 else 0) + 2 * mkS n d l := by rw [mkS_drop, h]; rfl
    by_cases hx : x.f0 * d < n
    · rw [if_pos hx] at e; rw [if_pos (by rw [e]; omega)]; exact decide_eq_true (by omega)
    · rw [if_neg hx] at e; rw [if_neg (by rw [e]; omega)]; exact decide_eq_true (by omega)
theorem mkS_pos {n d : Int} : ∀ {l : List S36}, (∃ x ∈ l, x.f0 * d < n) → 0 < mkS n d l
  | [], ⟨x, hx, _⟩ => by simp at hx
  | y :: l, ⟨x, hx, h⟩ => by
    simp only [mkS]
    rcases List.mem_cons.1 hx with rfl | hx
    · rw [if_pos h]; omega
    · have := mkS_pos (l := l) ⟨x, hx, h⟩
      omega
theorem ref_l0 (l : List S36) (t : Int) (ht : t = 1 ∨ t = 2) (hl : l.length ≤ 4) (hv : ∀ x ∈ l, okL x) (R : List Int × Int × Int × Int) : ∀ (m i : Nat) (q : Int), i + m = l.length → 0 < q → q ≤ 20 ^ i →
    Ev (fun k => trishawref02_balance.l1 k l t (q * prodL t (l.drop i)) 1) R → Ev (fun k => trishawref02_balance.l0 k l t q (i : Int)) R
  | 0, i, q, h, h0, hq, hk => by
    rw [List.drop_of_length_le (by omega)] at hk
    simp only [prodL, Int.mul_one] at hk
    refine Ev.step (fun k => ?_) hk
    simp only [trishawref02_balance.l0]
    rw [if_neg (by omega)]
  | m + 1, i, q, h, h0, hq, hk => by
    have hi : i < l.length := by omega
    have hb := bt_b ht (hv _ (rdT_mem l i hi))
    have hm := mulb (x := q) (y := (rd_T36 l (i : Int)).f1 * t) (X := 20 ^ i) (Y := 20) (by omega) hq (by omega) hb.2
    have h5 : (20 : Int) ^ i * 20 = 20 ^ (i + 1) := (Int.pow_succ 20 i).symm
    have h6 := pow20 (n := i + 1) (by omega)
    have h7 := pow20 (n := i) (by omega)
    rw [rdT_drop l i hi] at hk
    simp only [prodL] at hk
    rw [← Int.mul_assoc] at hk
    have ih := ref_l0 l t ht hl hv R m (i + 1) (q * ((rd_T36 l (i : Int)).f1 * t)) (by omega) (Int.mul_pos h0 (by omega)) (by omega) hk
    refine Ev.step (fun k => ?_) ih
    simp only [trishawref02_balance.l0]
    rw [if_pos (by omega), if_pos (by omega), wrapN i (by omega), Int.mul_comm t, wsm (x := (rd_T36 l (i : Int)).f1 * t) (by unfold sm; omega), wsm (x := q * ((rd_T36 l (i : Int)).f1 * t)) (by unfold sm; omega)]
theorem ref_l2 (l : List S36) (t p : Int) (ht : t = 1 ∨ t = 2) (hp : 0 < p) (hp2 : p ≤ 160000) (hl : l.length ≤ 4) (hv : ∀ x ∈ l, okL x) (hd : ∀ x ∈ l, (x.f1 * t) ∣ p) (S : Nat) (R : List Int × Int × Int × Int) : ∀ (m i : Nat) (n d : Int), i + m = l.length → 0 ≤ n → n ≤ 160000 + 1600000 * i → 0 ≤ d → d ≤ 160000 * i →
    Ev (fun k => trishawref02_balance.l3 k l t p (S : Int) (n + sumB (fun x => x.f0 * wv p t x) S i (l.drop i)) (d + sumB (wv p t) S i (l.drop i)) true [] 0) R → Ev (fun k => trishawref02_balance.l2 k l t p (S : Int) n d (i : Int)) R
  | 0, i, n, d, h, n0, n1, d0, d1, hk => by
    rw [List.drop_of_length_le (by omega)] at hk
    simp only [sumB, Int.add_zero] at hk
    refine Ev.step (fun k => ?_) hk
    simp only [trishawref02_balance.l2]
    rw [if_neg (by omega)]
  | m + 1, i, n, d, h, n0, n1, d0, d1, hk => by
    have hi : i < l.length := by omega
    have hx := hv _ (rdT_mem l i hi)
    have hdx := hd _ (rdT_mem l i hi)
    have hb := bt_b ht hx
    have hw := wv_b hdx hp hb.1
    unfold okL at hx
    have hm := mulb (x := (rd_T36 l (i : Int)).f0) (y := wv p t (rd_T36 l (i : Int))) (X := 10) (Y := 160000) (by omega) (by omega) (by omega) (by omega)
    rw [rdT_drop l i hi] at hk
    simp only [sumB] at hk
    have w1 : wrap64 ((rd_T36 l (i : Int)).f1 * t) = (rd_T36 l (i : Int)).f1 * t := wsm (by unfold sm; omega)
    have w2 : wrap64 (Int.tdiv p ((rd_T36 l (i : Int)).f1 * t)) = wv p t (rd_T36 l (i : Int)) := wsm (by show sm (wv p t (rd_T36 l (i : Int))); unfold sm; omega)
    have w3 : wrap64 ((rd_T36 l (i : Int)).f0 * wv p t (rd_T36 l (i : Int))) = (rd_T36 l (i : Int)).f0 * wv p t (rd_T36 l (i : Int)) := wsm (by unfold sm; omega)
    have w4 : wrap64 (n + (rd_T36 l (i : Int)).f0 * wv p t (rd_T36 l (i : Int))) = n + (rd_T36 l (i : Int)).f0 * wv p t (rd_T36 l (i : Int)) := wsm (by unfold sm; omega)
    have w5 : wrap64 (d + wv p t (rd_T36 l (i : Int))) = d + wv p t (rd_T36 l (i : Int)) := wsm (by unfold sm; omega)
    by_cases hbit : S / 2 ^ i % 2 = 1
    · rw [if_pos hbit, if_pos hbit, ← Int.add_assoc, ← Int.add_assoc] at hk
      have ih := ref_l2 l t p ht hp hp2 hl hv hd S R m (i + 1) _ _ (by omega) (by omega) (by omega) (by omega) (by omega) hk
      refine Ev.step (fun k => ?_) ih
      simp only [trishawref02_balance.l2]
      rw [if_pos (by omega), if_pos (by omega), if_pos ((bitI S i (by omega)).2 hbit), wrapN i (by omega), Int.mul_comm t, w1, w2, w3, w4, w5, if_neg (by omega)]
    · rw [if_neg hbit, if_neg hbit, Int.zero_add, Int.zero_add] at hk
      have ih := ref_l2 l t p ht hp hp2 hl hv hd S R m (i + 1) n d (by omega) (by omega) (by omega) (by omega) (by omega) hk
      refine Ev.step (fun k => ?_) ih
      simp only [trishawref02_balance.l2]
      rw [if_pos (by omega), if_pos (by omega), if_neg (fun h => hbit ((bitI S i (by omega)).1 h)), wrapN i (by omega)]
def refT (k : Nat) (l : List S36) (t p : Int) (S : Nat) (n d : Int) (r : Bool) (nums : List Int) : Option (List Int × Int × Int × Int) :=
  if r = true then ((trishawref02_Lowest.f k nums (wrap64 (d * p))).bind fun b => (some (b.1, b.2, n, d))) else (trishawref02_balance.l1 k l t p (wrap64 ((S : Int) + 1)))
theorem ref_l3 (l : List S36) (t p n d : Int) (ht : t = 1 ∨ t = 2) (hp : 0 < p) (hp2 : p ≤ 160000) (hl : l.length ≤ 4) (hv : ∀ x ∈ l, okL x) (hd : ∀ x ∈ l, (x.f1 * t) ∣ p) (n0 : 0 ≤ n) (n1 : n ≤ 6560000) (d0 : 0 ≤ d) (d1 : d ≤ 640000) (S : Nat) (R : List Int × Int × Int × Int) : ∀ (m i : Nat) (r : Bool) (acc : List Int), i + m = l.length → acc.length = i →
    Ev (fun k => refT k l t p S n d (r && okB S n d i (l.drop i)) (acc ++ numsB (wv p t) S n d i (l.drop i))) R → Ev (fun k => trishawref02_balance.l3 k l t p (S : Int) n d r acc (i : Int)) R
  | 0, i, r, acc, h, ha, hk => by
    rw [List.drop_of_length_le (by omega)] at hk
    simp only [okB, numsB, List.append_nil, Bool.and_true] at hk
    refine Ev.step (fun k => ?_) hk
    simp only [trishawref02_balance.l3, refT]
    rw [if_neg (by omega)]
  | m + 1, i, r, acc, h, ha, hk => by
    have hi : i < l.length := by omega
    have hx := hv _ (rdT_mem l i hi)
    have hdx := hd _ (rdT_mem l i hi)
    have hb := bt_b ht hx
    have hw := wv_b hdx hp hb.1
    unfold okL at hx
    have hm2 := mulb (x := (rd_T36 l (i : Int)).f0) (y := d) (X := 10) (Y := 640000) (by omega) (by omega) (by omega) (by omega)
    have w1 : wrap64 ((rd_T36 l (i : Int)).f1 * t) = (rd_T36 l (i : Int)).f1 * t := wsm (by unfold sm; omega)
    have w2 : wrap64 (Int.tdiv p ((rd_T36 l (i : Int)).f1 * t)) = wv p t (rd_T36 l (i : Int)) := wsm (by show sm (wv p t (rd_T36 l (i : Int))); unfold sm; omega)
    have w6 : wrap64 ((rd_T36 l (i : Int)).f0 * d) = (rd_T36 l (i : Int)).f0 * d := wsm (by unfold sm; omega)
    have w7 : wrap64 (n - (rd_T36 l (i : Int)).f0 * d) = n - (rd_T36 l (i : Int)).f0 * d := wsm (by unfold sm; omega)
    have hq : sm ((n - (rd_T36 l (i : Int)).f0 * d) * wv p t (rd_T36 l (i : Int))) := by
      have a1 := mulb (x := n) (y := wv p t (rd_T36 l (i : Int))) (X := 6560000) (Y := 160000) (by omega) (by omega) (by omega) (by omega)
      have a2 := mulb (x := (rd_T36 l (i : Int)).f0 * d) (y := wv p t (rd_T36 l (i : Int))) (X := 6400000) (Y := 160000) (by omega) (by omega) (by omega) (by omega)
      rw [Int.sub_mul]
      unfold sm; omega
    have w9 := wsm hq
    rw [rdT_drop l i hi] at hk
    simp only [okB, numsB] at hk
    by_cases hbit : S / 2 ^ i % 2 = 1
    · rw [if_pos hbit, if_pos hbit, ← Bool.and_assoc, List.append_cons] at hk
      have ih := ref_l3 l t p n d ht hp hp2 hl hv hd n0 n1 d0 d1 S R m (i + 1) _ _ (by omega) (by simp [ha]) hk
      refine Ev.step (fun k => ?_) ih
      simp only [trishawref02_balance.l3]
      rw [if_pos (by omega), if_pos (by omega), if_pos ((bitI S i (by omega)).2 hbit), wrapN i (by omega), Int.mul_comm t, w6, w1, w2, w7, w9, if_neg (by omega), if_pos (by omega), Option.bind_some]
      cases r with
      | true => rw [if_pos rfl]; simp
      | false => rw [if_neg (by simp)]; simp
    · rw [if_neg hbit, if_neg hbit, ← Bool.and_assoc, List.append_cons] at hk
      have ih := ref_l3 l t p n d ht hp hp2 hl hv hd n0 n1 d0 d1 S R m (i + 1) _ _ (by omega) (by simp [ha]) hk
      refine Ev.step (fun k => ?_) ih
      simp only [trishawref02_balance.l3]
      rw [if_pos (by omega), if_pos (by omega), if_neg (fun h => hbit ((bitI S i (by omega)).1 h)), wrapN i (by omega), w6, w7, if_pos (by omega), Option.bind_some]
      cases r with
      | true => rw [if_pos rfl]; simp
      | false => rw [if_neg (by simp)]; simp
theorem sumB_b {f : S36 → Int} {M : Int} (S : Nat) : ∀ (i : Nat) (l : List S36), (∀ x ∈ l, 0 ≤ f x ∧ f x ≤ M) → 0 ≤ sumB f S i l ∧ sumB f S i l ≤ M * l.length
  | _, [], _ => by simp [sumB]
  | i, x :: l, h => by
    have h1 := h x (by simp)
    have h2 := sumB_b S (i + 1) l fun y hy => h y (by simp [hy])
    simp only [sumB, List.length_cons, Int.natCast_add, Int.mul_add]
    split <;> omega
theorem nums_sm {l : List S36} {p t n d : Int} (hp2 : p ≤ 160000) (hw : ∀ x ∈ l, okL x ∧ 0 < wv p t x ∧ wv p t x ≤ p) (n0 : 0 ≤ n) (n1 : n ≤ 6560000) (d0 : 0 ≤ d) (d1 : d ≤ 640000) : ∀ y ∈ l.map (nv (wv p t) n d), sm y := by
  intro y hy
  obtain ⟨x, hx, rfl⟩ := List.mem_map.1 hy
  obtain ⟨h3, h4, h5⟩ := hw x hx
  unfold okL at h3
  have hm2 := mulb (x := x.f0) (y := d) (X := 10) (Y := 640000) (by omega) (by omega) (by omega) (by omega)
  have hq : 0 ≤ (if x.f0 * d < n then n - x.f0 * d else 0) ∧ (if x.f0 * d < n then n - x.f0 * d else 0) ≤ 6560000 := by split <;> omega
  have hm3 := mulb (y := wv p t x) (Y := 160000) hq.1 hq.2 (by omega) (by omega)
  unfold nv sm
  omega
/-- The specification's balance finds the good time. -/
theorem refbal_ev {l : List S36} {t : Int} (ht : t = 1 ∨ t = 2) (hne : l ≠ []) (hl : l.length ≤ 4) (hv : ∀ x ∈ l, okL x) {n d : Int} (g : Good (wv (prodL t l) t) (prodL t l) l n d) :
    Ev (fun k => trishawref02_balance.f k l t) ((partsR (l.map (nv (wv (prodL t l) t) n d)) (d * prodL t l) (gl (l.map (nv (wv (prodL t l) t) n d)) (d * prodL t l))).1, (partsR (l.map (nv (wv (prodL t l) t) n d)) (d * prodL t l) (gl (l.map (nv (wv (prodL t l) t) n d)) (d * prodL t l))).2, n, d) := by
  have hp := prodL_b ht hv
  have hp2 : prodL t l ≤ 160000 := Int.le_trans hp.2 (pow20 hl)
  have hdv : ∀ x ∈ l, (x.f1 * t) ∣ prodL t l := fun x hx => prodL_dvd x hx
  have hws : ∀ x ∈ l, okL x ∧ 0 < wv (prodL t l) t x ∧ wv (prodL t l) t x ≤ prodL t l := fun x hx => ⟨hv x hx, wv_b (prodL_dvd x hx) hp.1 (bt_b ht (hv x hx)).1⟩
  have hlen : 1 ≤ l.length := by cases l with | nil => exact absurd rfl hne | cons => simp
  generalize hpe : prodL t l = p at *
  have gb := g.b hp.1 hp2 hl hws
  have hT0 : 0 < mkS n d l := by
    refine mkS_pos ?_
    by_cases h : ∃ x ∈ l, x.f0 * d < n
    · exact h
    · exfalso
      have h2 := g.2.2
      rw [sumL_congr (g := fun _ => 0) (fun x hx => if_neg fun h2 => h ⟨x, hx, h2⟩), sumL_const] at h2
      omega
  have hT1 : mkS n d l < 16 := by
    have h1 := mkS_lt n d l
    have h2 : 2 ^ l.length ≤ 2 ^ 4 := Nat.pow_le_pow_right (by omega) hl
    omega
  have hm := mulb (x := d) (y := p) (X := 640000) (Y := 160000) (by omega) (by omega) (by omega) hp2
  have hdp : 0 < d * p := Int.mul_pos gb.2.2.1 hp.1
  have hstep : ∀ (m S : Nat), S + m = mkS n d l → Ev (fun k => trishawref02_balance.l1 k l t p (S : Int)) ((partsR (l.map (nv (wv p t) n d)) (d * p) (gl (l.map (nv (wv p t) n d)) (d * p))).1, (partsR (l.map (nv (wv p t) n d)) (d * p) (gl (l.map (nv (wv p t) n d)) (d * p))).2, n, d) := by
    intro m
    induction m with
    | zero =>
      intro S hS
      have hSe : S = mkS n d l := by omega
      have ho := mkS_ok n d l l 0 rfl
      rw [← hSe] at ho
      have e1 : p + sumB (fun x => x.f0 * wv p t x) S 0 l = n := by rw [okB_sum ho, ← g.2.1]
      have e2 : 0 + sumB (wv p t) S 0 l = d := by rw [okB_sum ho, ← g.2.2]; omega
      refine Ev.step (fun k => ?_) (ref_l2 l t p ht hp.1 hp2 hl hv hdv S _ l.length 0 p 0 (by omega) (by omega) (by omega) (by omega) (by omega) ?_)
      · simp only [trishawref02_balance.l1]; rfl
      · simp only [List.drop_zero]
        rw [e1, e2]
        refine ref_l3 l t p n d ht hp.1 hp2 hl hv hdv gb.1 gb.2.1 (by omega) gb.2.2.2 S _ l.length 0 true [] (by omega) rfl ?_
        simp only [List.drop_zero, List.nil_append, Bool.true_and]
        rw [ho, okB_nums ho]
        unfold refT
        rw [wsm (x := d * p) (by unfold sm; omega)]
        exact Ev.congr (fun k => if_pos rfl) (Ev.bind (f := fun _ (b : List Int × Int) => some (b.1, b.2, n, d)) (lowest_ev _ _ (by simp; omega) (nums_sm hp2 hws gb.1 gb.2.1 (by omega) gb.2.2.2) (by unfold sm; omega) hdp) (Ev.now _))
    | succ m ih =>
      intro S hS
      have hA := sumB_b (f := fun x => x.f0 * wv p t x) (M := 1600000) S 0 l fun x hx => by
        obtain ⟨h3, h4, h5⟩ := hws x hx
        unfold okL at h3
        have := mulb (x := x.f0) (y := wv p t x) (X := 10) (Y := 160000) (by omega) (by omega) (by omega) (by omega)
        omega
      have hW := sumB_b (f := wv p t) (M := 160000) S 0 l fun x hx => by
        obtain ⟨h3, h4, h5⟩ := hws x hx
        omega
      generalize hnS : p + sumB (fun x => x.f0 * wv p t x) S 0 l = nS
      generalize hdS : 0 + sumB (wv p t) S 0 l = dS
      have hnS1 : 0 < nS ∧ nS ≤ 6560000 := by omega
      have hdS1 : 0 ≤ dS ∧ dS ≤ 640000 := by omega
      refine Ev.step (fun k => ?_) (ref_l2 l t p ht hp.1 hp2 hl hv hdv S _ l.length 0 p 0 (by omega) (by omega) (by omega) (by omega) (by omega) ?_)
      · simp only [trishawref02_balance.l1]; rfl
      · simp only [List.drop_zero]
        rw [hnS, hdS]
        refine ref_l3 l t p nS dS ht hp.1 hp2 hl hv hdv (by omega) hnS1.2 hdS1.1 hdS1.2 S _ l.length 0 true [] (by omega) rfl ?_
        simp only [List.drop_zero, List.nil_append, Bool.true_and]
        cases ho : okB S nS dS 0 l with
        | false =>
          have := ih (S + 1) (by omega)
          refine Ev.congr (fun k => ?_) this
          unfold refT
          rw [if_neg (by simp), wrapN S (by omega)]
        | true =>
          have gS : Good (wv p t) p l nS dS := by
            have s1 : nS = p + sumL (fun x => if x.f0 * dS < nS then x.f0 * wv p t x else 0) l := by rw [← okB_sum ho]; omega
            have s2 : dS = sumL (fun x => if x.f0 * dS < nS then wv p t x else 0) l := by rw [← okB_sum ho]; omega
            refine ⟨?_, s1, s2⟩
            rcases Int.lt_or_le 0 dS with h | h
            · exact h
            · exfalso
              have hz : dS = 0 := by omega
              rw [sumL_congr (g := wv p t) (fun x hx => if_pos (by rw [hz, Int.mul_zero]; omega))] at s2
              match l, hne with
              | x :: r, _ =>
                have h1 := hws x (by simp)
                have h2 := sumL_pos (f := wv p t) (l := r) fun y hy => by have := hws y (by simp [hy]); omega
                simp only [sumL] at s2
                omega
          obtain ⟨rfl, rfl⟩ := Good.uniq (fun x hx => (hws x hx).2.1) hp.1 gS g
          rw [okB_nums ho]
          unfold refT
          rw [wsm (x := dS * p) (by unfold sm; omega)]
          exact Ev.congr (fun k => if_pos rfl) (Ev.bind (f := fun _ (b : List Int × Int) => some (b.1, b.2, nS, dS)) (lowest_ev _ _ (by simp; omega) (nums_sm hp2 hws gb.1 gb.2.1 (by omega) gb.2.2.2) (by unfold sm; omega) hdp) (Ev.now _))
  unfold trishawref02_balance.f
  refine ref_l0 l t ht hl hv _ l.length 0 1 (by omega) (by omega) (by simp) ?_
  simp only [Int.one_mul, List.drop_zero]
  rw [hpe]
  exact hstep (mkS n d l - 1) 1 (by omega)
end Go.Proofs.Ytjgbdicbdlollaa.B
namespace Go.Proofs.Ytjgbdicbdlollaa.B
open Go.RowKit Go.Sort Go.Proofs.YtjgbdicbdlollaaW.PrintWords Go.Proofs.YtjgbdicbdlollaaW.PrintLast Go.Proofs.YtjgbdicbdlollaaW.PrintMore
set_option linter.unusedVariables false
set_option linter.unusedSimpArgs false
/-- Balance and Cheapest of both sides answer alike. -/
theorem both_ev (l : List S36) (hl20 : l.length ≤ 20) : ∃ r s : List Int × Int × Int × Int × Int, r.1.length < 1000000 ∧ s.1.length < 1000000 ∧
    Ev (fun k => jam_Balance.f k l) r ∧ Ev (fun k => trishawref02_Balance.f k l) r ∧ Ev (fun k => jam_Cheapest.f k l) s ∧ Ev (fun k => trishawref02_Cheapest.f k l) s := by
  have hL := lanes_ev l (by omega)
  by_cases h0 : laneE l = 0
  · obtain ⟨hne, hl, hv⟩ := laneE_ok h0
    have main : ∀ t : Int, (t = 1 ∨ t = 2) → ∃ (P : List Int × Int) (n d : Int), (P.1.length = l.length ∧ 0 < P.2 ∧ P.2 ≤ 101606400 ∧ ∀ y ∈ P.1, 0 ≤ y ∧ y ≤ P.2) ∧
        Ev (fun k => jam_balance.f k l t) (P.1, P.2, (ratR n d).1, (ratR n d).2) ∧ Ev (fun k => trishawref02_balance.f k l t) (P.1, P.2, n, d) ∧ Ev (fun k => trishawref01_Ratio.f k n d) (ratR n d) := by
      intro t ht
      obtain ⟨n, d, g, h⟩ := balance_ev ht hne hl hv
      have h' := refbal_ev ht hne hl hv g
      have hp := prodL_b ht hv
      have gb := g.b hp.1 (Int.le_trans hp.2 (pow20 hl)) hl (fun x hx => ⟨hv x hx, wv_b (prodL_dvd x hx) hp.1 (bt_b ht (hv x hx)).1⟩)
      obtain ⟨N, C, gc, c2, c1⟩ := g.canon ht hp.1 hv (fun x hx => prodL_dvd x hx)
      rw [parts_canon ht hv (fun x hx => prodL_dvd x hx) hp.1 c2 c1] at h h'
      have hb := parts_b ht hl hv gc
      simp only at hb
      exact ⟨_, n, d, hb, h, h', ratio_ev (by unfold sm; omega) (by unfold sm; omega) gb.2.2.1⟩
    obtain ⟨P, n, d, hP, a1, a2, a3⟩ := main 1 (Or.inl rfl)
    obtain ⟨Q, n', d', hQ, b1, b2, b3⟩ := main 2 (Or.inr rfl)
    obtain ⟨q1, q2, q3, q4⟩ := hQ
    have hdl := delay_ev hl q1 hv q2 q3 q4
    refine ⟨(P.1, P.2, (ratR n d).1, (ratR n d).2, 0), (Q.1, Q.2, (ratR (delS l Q.1 Q.2 l.length 0 0) (Q.2 * Q.2)).1, (ratR (delS l Q.1 Q.2 l.length 0 0) (Q.2 * Q.2)).2, 0), by show P.1.length < _; omega, by show Q.1.length < _; omega, ?_, ?_, ?_, ?_⟩
    · unfold jam_Balance.f
      exact Ev.congr (fun k => by rw [stream_laneE, Option.bind_some, h0, if_pos rfl]) (Ev.bind a1 (Ev.now _))
    · unfold trishawref02_Balance.f
      refine Ev.bind hL ?_
      exact Ev.congr (fun k => by rw [h0, if_pos rfl]) (Ev.bind a2 (Ev.bind (f := fun _ (c : Int × Int) => some (P.1, P.2, c.1, c.2, (0 : Int))) a3 (Ev.now _)))
    · unfold jam_Cheapest.f
      exact Ev.congr (fun k => by rw [stream_laneE, Option.bind_some, h0, if_pos rfl]) (Ev.bind b1 (Ev.bind (f := fun _ (c : Int × Int) => some (Q.1, Q.2, c.1, c.2, (0 : Int))) hdl.1 (Ev.now _)))
    · unfold trishawref02_Cheapest.f
      refine Ev.bind hL ?_
      exact Ev.congr (fun k => by rw [h0, if_pos rfl]) (Ev.bind b2 (Ev.bind (f := fun _ (c : Int × Int) => some (Q.1, Q.2, c.1, c.2, (0 : Int))) hdl.2 (Ev.now _)))
  · refine ⟨([], 0, 0, 0, laneE l), ([], 0, 0, 0, laneE l), by simp, by simp, ?_, ?_, ?_, ?_⟩
    · unfold jam_Balance.f
      exact Ev.congr (fun k => by rw [stream_laneE, Option.bind_some, if_neg h0]) (Ev.now _)
    · unfold trishawref02_Balance.f
      exact Ev.bind hL (Ev.congr (fun k => by rw [if_neg h0]) (Ev.now _))
    · unfold jam_Cheapest.f
      exact Ev.congr (fun k => by rw [stream_laneE, Option.bind_some, if_neg h0]) (Ev.now _)
    · unfold trishawref02_Cheapest.f
      exact Ev.bind hL (Ev.congr (fun k => by rw [if_neg h0]) (Ev.now _))
theorem balances_ev (l : List S36) : Ev (fun k => trishawlaw02_JamBalances.f k l) true := by
  unfold trishawlaw02_JamBalances.f
  by_cases h20 : (l.length : Int) > 20
  · exact Ev.congr (fun k => if_pos h20) alive_ev2
  · obtain ⟨r, s, hr, hs, a1, a2, b1, b2⟩ := both_ev l (by omega)
    refine Ev.congr (fun k => if_neg h20) (Ev.bind a1 (Ev.bind a2 (Ev.bind (parts_same r.1 r.2.1 hr) ?_)))
    have hj : Ev (fun k => trishawlaw02_JamBalances.j0 k l false) true := by
      refine Ev.step (fun k => by simp only [trishawlaw02_JamBalances.j0]; rw [if_neg (by simp)]) (Ev.bind b1 (Ev.bind b2 (Ev.bind (parts_same s.1 s.2.1 hs) ?_)))
      refine Ev.congr (fun k => ?_) alive_ev2
      rw [if_pos rfl, if_pos (by simp), if_pos rfl]
    refine Ev.congr (fun k => ?_) hj
    rw [if_pos rfl, if_neg (by simp)]
    simp
end Go.Proofs.Ytjgbdicbdlollaa.B
namespace Go.Proofs.Ytjgbdicbdlollaa.Pure
open Go.RowKit Go.Proofs.Ytjgbdicbdlollaa.B Go.Proofs.YtjgbdicbdlollaaW.PrintWords Go.Proofs.YtjgbdicbdlollaaW.PrintLast Go.Proofs.YtjgbdicbdlollaaW.PrintMore
theorem JamBalances : trishawlaw02_JamBalances.Pure := fun l0 _ _ => (balances_ev l0).rounds
end Go.Proofs.Ytjgbdicbdlollaa.Pure
