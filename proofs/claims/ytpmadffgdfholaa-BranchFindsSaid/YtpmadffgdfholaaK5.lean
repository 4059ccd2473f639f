/- Texts behind the row of BranchFinds, part 5: contracts of the functions it reaches, words that their walks use, and lemmas in plain Lean. -/
import Derived.Below
import Derived.Deep.Draws
import Derived.Deep.AppendLies
import Derived.Maps.AppendAt
import Derived.OwnWalk
import Derived.Laws.BytesArg
import Derived.Laws.MakeOwn
import Derived.Laws.OwnMore
import Derived.Deep.OwnRows
import Derived.Tactics
import Derived.Lib.ConvBytes
import Derived.Laws.Slices
import Derived.WalkKit
import Derived.KernelRfl
import Derived.RowKit3
import Derived.Deep.LoopGhost
import Derived.Deep.QuietTactic
import Derived.BigQuiet
import Derived.WideLaws
import Derived.Deep.DeepCutAuto
import Derived.Deep.CutBlock
import Derived.Deep.RegionHeld3
import Derived.Laws.Rows
import Derived.Lib.AppendStr
import Derived.ArgAppend
import Derived.Laws.IdiomCopy
import Derived.RowKit
import Derived.OrdersHeld
import Derived.Laws.BitsLemmas
import Derived.Test.YtpmadffgdfholaaProg
import Derived.Laws.StructEq
import Derived.WalkSpells
import Derived.MapKept
import Derived.Deep.DrawnRows
import Derived.Maps.RangeWalk
import Derived.Laws.EntriesVeiled
import Derived.Deep.Slices
import Derived.Deep.Fields
import Derived.ChangeSame
import Derived.Test.YtpmadffgdfholaaK1
import Derived.Test.YtpmadffgdfholaaK2
import Derived.Test.YtpmadffgdfholaaK3
import Derived.Test.YtpmadffgdfholaaK4
namespace Go.Proofs.Ytpmadffgdfholaa.B
set_option linter.unusedVariables false
def itP (π : Nat → Nat) : Nat → Nat → Nat
  | 0, c => c
  | k + 1, c => itP π k (π c)
theorem itP_succ (π : Nat → Nat) : ∀ k c, itP π (k + 1) c = π (itP π k c)
  | 0, _ => rfl
  | k + 1, c => itP_succ π k (π c)
theorem itP_add (π : Nat → Nat) : ∀ j k c, itP π (j + k) c = itP π k (itP π j c)
  | 0, k, c => by rw [Nat.zero_add]; rfl
  | j + 1, k, c => by rw [show j + 1 + k = (j + k) + 1 by omega]; exact itP_add π j k (π c)
theorem pigeons : ∀ (m : Nat) (h : Nat → Nat), (∀ i, i ≤ m → 1 ≤ h i ∧ h i ≤ m) → ∃ i j, i < j ∧ j ≤ m ∧ h i = h j
  | 0, h, hh => by have := hh 0 (Nat.le_refl _); omega
  | m + 1, h, hh => by
    by_cases hv : ∃ i, i ≤ m ∧ h i = h (m + 1)
    · obtain ⟨i, hi, e⟩ := hv
      exact ⟨i, m + 1, by omega, Nat.le_refl _, e⟩
    · have hne : ∀ i, i ≤ m → h i ≠ h (m + 1) := fun i hi e => hv ⟨i, hi, e⟩
      obtain ⟨i, j, hij, hj, e⟩ := pigeons m (fun i => if h i = m + 1 then h (m + 1) else h i) (by
        intro i hi
        have h1 := hh i (by omega)
        have h2 := hh (m + 1) (Nat.le_refl _)
        have h3 := hne i hi
        split <;> omega)
      have h1 := hne i (by omega)
      have h2 := hne j hj
      refine ⟨i, j, hij, by omega, ?_⟩
      split at e <;> split at e <;> omega
/-- The column of corner c that hangs on corner π c. -/
def colP (π : Nat → Nat) (c r : Nat) : Int := unitC c r - unitC (π c) r
section
variable {m : Nat} {π : Nat → Nat}
theorem hung_next (hπ : ∀ c, 1 ≤ c → c ≤ m → π c ≤ m) (S : Nat → Bool) : ∀ (k c : Nat), 1 ≤ c → c ≤ m → S c = false → itP π k c = 0 → ∃ d, 1 ≤ d ∧ d ≤ m ∧ S d = false ∧ (π d = 0 ∨ (S (π d) = true ∧ 1 ≤ π d ∧ π d ≤ m))
  | 0, c, h1, _, _, h => by rw [itP] at h; omega
  | k + 1, c, h1, h2, hS, h => by
    by_cases h0 : π c = 0
    · exact ⟨c, h1, h2, hS, .inl h0⟩
    · have hc := hπ c h1 h2
      cases hb : S (π c) with
      | true => exact ⟨c, h1, h2, hS, .inr ⟨hb, by omega, hc⟩⟩
      | false => exact hung_next hπ S k (π c) (by omega) hc hb h
theorem det_hung (hπ : ∀ c, 1 ≤ c → c ≤ m → π c ≤ m) (hr : ∀ c, 1 ≤ c → c ≤ m → ∃ k, itP π k c = 0) : detN m (colP π) = 1 := by
  have key : ∀ (d : Nat) (S : Nat → Bool), cntN (fun i => !S (i + 1)) m ≤ d → detN m (fun c => if S c = true then unitC c else colP π c) = 1 := by
    intro d
    induction d with
    | zero => ?_
    | succ d ih => ?_
    all_goals
      intro S hd
      by_cases hall : ∀ c, 1 ≤ c → c ≤ m → S c = true
      · rw [← detN_unit m]
        refine detN_congr m fun c r h1 h2 _ _ => ?_
        rw [if_pos (hall c h1 h2)]
      obtain ⟨c0, h1, h2, hS0⟩ : ∃ c, 1 ≤ c ∧ c ≤ m ∧ S c = false := by
        refine Classical.byContradiction fun hno => hall fun c h1 h2 => ?_
        cases hb : S c with
        | true => rfl
        | false => exact absurd ⟨c, h1, h2, hb⟩ hno
      obtain ⟨k, hk⟩ := hr c0 h1 h2
      obtain ⟨c, c1, c2, hSc, hp⟩ := hung_next hπ S k c0 h1 h2 hS0 hk
      have hlt : cntN (fun i => !(S (i + 1) || decide (i + 1 = c))) m < cntN (fun i => !S (i + 1)) m := by
        refine cntN_lt m (fun i hi h => ?_) (c - 1) (by omega) ?_ ?_
        · rw [Bool.not_or, Bool.and_eq_true] at h; exact h.1
        · rw [show c - 1 + 1 = c by omega, hSc]; rfl
        · rw [show c - 1 + 1 = c by omega]; simp
    · omega
    · have h := ih (fun e => S e || decide (e = c)) (by omega)
      have hG : (fun e => if (S e || decide (e = c)) = true then unitC e else colP π e) = updC (fun e => if S e = true then unitC e else colP π e) c (unitC c) := by
        funext e
        unfold updC
        by_cases he : e = c
        · subst he; simp
        · simp [he]
      rw [hG] at h
      have hself : updC (fun e => if S e = true then unitC e else colP π e) c (colP π c) = fun e => if S e = true then unitC e else colP π e := by
        funext e
        unfold updC
        by_cases he : e = c
        · subst he; rw [if_pos rfl, if_neg (by rw [hSc]; decide)]
        · rw [if_neg he]
      have hsum : unitC c = fun r => colP π c r + unitC (π c) r := by
        funext r; unfold colP; omega
      rcases hp with hp | ⟨hp, p1, p2⟩
      · rw [← h, ← hself]
        refine detN_congr m fun e r _ _ r1 _ => ?_
        unfold updC
        by_cases he : e = c
        · rw [if_pos he, if_pos he]
          have : unitC 0 r = 0 := if_neg (by omega)
          unfold colP
          rw [hp, this, Int.sub_zero]
        · rw [if_neg he, if_neg he]
      · rw [hsum, detN_add m c _ _ _ c1 c2, hself] at h
        have hne : c ≠ π c := fun e => by rw [← e, hSc] at hp; exact absurd hp (by decide)
        have hdup := detN_dup m c (π c) (fun e => if S e = true then unitC e else colP π e) c1 c2 p1 p2 hne
        rw [if_pos hp] at hdup
        rw [hdup] at h
        omega
  have := key m (fun _ => false) (cntN_bound _ m)
  rw [← this]
  rfl
theorem det_ring (hπ : ∀ c, 1 ≤ c → c ≤ m → π c ≤ m) {c : Nat} (hc1 : 1 ≤ c) (hc2 : c ≤ m) (hno : ∀ k, itP π k c ≠ 0) : detN m (colP π) = 0 := by
  have hin : ∀ k, 1 ≤ itP π k c ∧ itP π k c ≤ m := by
    intro k
    induction k with
    | zero => exact ⟨hc1, hc2⟩
    | succ k ih =>
      have := hno (k + 1)
      rw [itP_succ] at this ⊢
      have := hπ _ ih.1 ih.2
      omega
  obtain ⟨i, j, hij, _, e⟩ := pigeons m (fun k => itP π k c) fun k _ => hin k
  obtain ⟨x, hx⟩ : ∃ x, x = itP π i c := ⟨_, rfl⟩
  have hx1 : 1 ≤ x ∧ x ≤ m := hx ▸ hin i
  have hxin : ∀ k, 1 ≤ itP π k x ∧ itP π k x ≤ m := fun k => by
    rw [hx, ← itP_add]; exact hin _
  have hback : ∃ k, itP π (k + 1) x = x := ⟨j - i - 1, by
    rw [hx, ← itP_add, show i + (j - i - 1 + 1) = j by omega]; exact e.symm⟩
  obtain ⟨k, hk, hmin⟩ := least_nat hback
  have tele : ∀ t, t ≤ k → detN m (colP π) = detN m (updC (colP π) x (fun r => unitC x r - unitC (itP π (t + 1) x) r)) := by
    intro t
    induction t with
    | zero =>
      intro _
      have : (fun r => unitC x r - unitC (itP π (0 + 1) x) r) = colP π x := rfl
      rw [this, updC_self]
    | succ t ih =>
      intro ht
      rw [ih (by omega)]
      have hne : x ≠ itP π (t + 1) x := fun h => hmin t (by omega) h.symm
      have hdup := detN_dup m x (itP π (t + 1) x) (colP π) hx1.1 hx1.2 (hxin _).1 (hxin _).2 hne
      have hs : (fun r => unitC x r - unitC (itP π (t + 1 + 1) x) r) = fun r => (unitC x r - unitC (itP π (t + 1) x) r) + colP π (itP π (t + 1) x) r := by
        funext r
        unfold colP
        rw [itP_succ π (t + 1) x]
        omega
      rw [hs, detN_add m x _ _ _ hx1.1 hx1.2, hdup, Int.add_zero]
  rw [tele k (Nat.le_refl _), hk]
  have : (fun r => unitC x r - unitC x r) = fun _ => 0 := by funext r; omega
  rw [this]
  exact detN_zero m x _ hx1.1 hx1.2
end
section
variable {n : Nat} {a b : Nat → Nat} {T : Nat → Prop} {f : Nat → Nat}
theorem chain_iff (hf : ∀ c, 0 < c → c < n → b (f c) = c ∧ a (f c) < n) (hn : 0 < n) : (∀ c, c < n → Rc a b (fun i => ∃ c, 0 < c ∧ c < n ∧ i = f c) 0 c) ↔ ∀ c, 0 < c → c < n → ∃ k, itP (fun c => a (f c)) k c = 0 := by
  constructor
  · intro h c c0 hc
    have := h c hc
    clear hc c0
    induction this with
    | refl => exact ⟨0, rfl⟩
    | @step i t _ ih =>
      obtain ⟨e, e0, e1, rfl⟩ := t
      obtain ⟨k, hk⟩ := ih
      rw [(hf e e0 e1).1]
      exact ⟨k + 1, hk⟩
  · intro h c hc
    by_cases h0 : 0 < c
    · obtain ⟨k, hk⟩ := h c h0 hc
      clear h0
      induction k generalizing c with
      | zero => rw [itP] at hk; subst hk; exact .refl
      | succ k ih =>
        by_cases h0 : 0 < c
        · obtain ⟨h1, h2⟩ := hf c h0 hc
          have := Rc.step (a := a) (b := b) (T := fun i => ∃ c, 0 < c ∧ c < n ∧ i = f c) (i := f c) ⟨c, h0, hc, rfl⟩ (ih (a (f c)) h2 hk)
          rwa [h1] at this
        · obtain rfl : c = 0 := by omega
          exact .refl
    · obtain rfl : c = 0 := by omega
      exact .refl
/-- The branchings that choose a street of L for each corner from k on, where f has been chosen below k. -/
def cntB (leaf : (Nat → Nat) → Int) (b : Nat → Nat) (len : Nat) : Nat → Nat → (Nat → Nat) → Int
  | 0, _, f => leaf f
  | d + 1, k, f => sumZ (fun i => if b i = k then cntB leaf b len d (k + 1) (fun c => if c = k then i else f c) else 0) len
/-- The table's column of corner c: all streets that lead to it. -/
def fullC (a b : Nat → Nat) (len c r : Nat) : Int := sumZ (fun i => if b i = c then unitC c r - unitC (a i) r else 0) len
theorem detN_sum (m c : Nat) (g : Nat → Nat → Int) (e : Nat → Nat → Int) (h1 : 1 ≤ c) (h2 : c ≤ m) : ∀ L, detN m (updC g c (fun r => sumZ (fun i => e i r) L)) = sumZ (fun i => detN m (updC g c (e i))) L
  | 0 => detN_zero m c g h1 h2
  | L + 1 => by
    simp only [sumZ]
    rw [detN_add m c g _ _ h1 h2, detN_sum m c g e h1 h2 L]
def partC (a b : Nat → Nat) (len : Nat) (f : Nat → Nat) (k c : Nat) : Nat → Int := if c < k then colP (fun c => a (f c)) c else fullC a b len c
theorem det_count (len m : Nat) : ∀ (d k : Nat) (f : Nat → Nat), k + d = m + 1 → 1 ≤ k → detN m (partC a b len f k) = cntB (fun f => detN m (colP (fun c => a (f c)))) b len d k f
  | 0, k, f, h, h1 => by
    rw [cntB]
    refine detN_congr m fun c r c1 c2 _ _ => ?_
    unfold partC
    rw [if_pos (by omega)]
  | d + 1, k, f, h, h1 => by
    rw [cntB]
    have hself : partC a b len f k = updC (partC a b len f k) k (fun r => sumZ (fun i => (if b i = k then unitC k r - unitC (a i) r else 0)) len) := by
      funext c
      unfold updC
      by_cases e : c = k
      · subst e; rw [if_pos rfl]; unfold partC; rw [if_neg (by omega)]; rfl
      · rw [if_neg e]
    rw [hself, detN_sum m k _ (fun i r => if b i = k then unitC k r - unitC (a i) r else 0) h1 (by omega) len]
    refine sumZ_congr len fun i _ => ?_
    by_cases hb : b i = k
    · rw [if_pos hb, ← det_count len m d (k + 1) (fun c => if c = k then i else f c) (by omega) (by omega)]
      congr 1
      funext c
      unfold updC partC
      by_cases e : c = k
      · subst e
        rw [if_pos rfl, if_pos (by omega)]
        funext r
        unfold colP
        rw [if_pos hb]
        dsimp only
        rw [if_pos rfl]
      · rw [if_neg e]
        by_cases h2 : c < k
        · rw [if_pos h2, if_pos (by omega)]
          funext r
          unfold colP
          dsimp only
          rw [if_neg e]
        · rw [if_neg h2, if_neg (by omega)]
    · rw [if_neg hb]
      have : (fun r => if b i = k then unitC k r - unitC (a i) r else 0) = fun _ => (0 : Int) := by
        funext r; rw [if_neg hb]
      rw [this]
      exact detN_zero m k _ h1 (by omega)
/-- What cntB says of its leaves. -/
theorem cntB_nonneg {leaf : (Nat → Nat) → Int} (h : ∀ f, 0 ≤ leaf f) (len : Nat) : ∀ (d k : Nat) (f : Nat → Nat), 0 ≤ cntB leaf b len d k f
  | 0, _, f => h f
  | d + 1, k, f => by
    rw [cntB]
    have := sumZ_le (g := fun _ => 0) (h := fun i => if b i = k then cntB leaf b len d (k + 1) (fun c => if c = k then i else f c) else 0) len (fun i _ => by
      split
      · exact cntB_nonneg h len d (k + 1) _
      · exact Int.le_refl _)
    rwa [sumZ_zero] at this
theorem cntB_pos {leaf : (Nat → Nat) → Int} (h : ∀ f, 0 ≤ leaf f) (len : Nat) {g : Nat → Nat} (hg : 0 < leaf g) (hall : ∀ f, (∀ c, 0 < c → c < n → f c = g c) → leaf f = leaf g) : ∀ (d k : Nat) (f : Nat → Nat), k + d = n → 1 ≤ k → (∀ c, 0 < c → c < k → f c = g c) → (∀ c, k ≤ c → c < n → b (g c) = c ∧ g c < len) → 0 < cntB leaf b len d k f
  | 0, k, f, hk, _, he, _ => by
    rw [cntB, hall f fun c c0 c1 => he c c0 (by omega)]; exact hg
  | d + 1, k, f, hk, h1, he, hb => by
    rw [cntB]
    obtain ⟨b1, b2⟩ := hb k (Nat.le_refl _) (by omega)
    have ih := cntB_pos h len hg hall d (k + 1) (fun c => if c = k then g k else f c) (by omega) (by omega) (fun c c0 c1 => by
      by_cases e : c = k
      · subst e; rw [if_pos rfl]
      · rw [if_neg e]; exact he c c0 (by omega)) (fun c h1 h2 => hb c (by omega) h2)
    have := sumZ_ge_one (g := fun i => if b i = k then cntB leaf b len d (k + 1) (fun c => if c = k then i else f c) else 0) (v := g k) len b2 (fun i _ => by
      split
      · exact cntB_nonneg h len d (k + 1) _
      · exact Int.le_refl _)
    rw [if_pos b1] at this
    omega
theorem cntB_some {leaf : (Nat → Nat) → Int} (len : Nat) : ∀ (d k : Nat) (f : Nat → Nat), 0 < cntB leaf b len d k f → ∃ g, 0 < leaf g ∧ (∀ c, c < k → g c = f c) ∧ ∀ c, k ≤ c → c < k + d → b (g c) = c ∧ g c < len
  | 0, k, f, h => ⟨f, h, fun _ _ => rfl, fun c h1 h2 => by omega⟩
  | d + 1, k, f, h => by
    rw [cntB] at h
    have hex : ∃ i, i < len ∧ b i = k ∧ 0 < cntB leaf b len d (k + 1) (fun c => if c = k then i else f c) := by
      refine Classical.byContradiction fun hno => ?_
      have := sumZ_le (g := fun i => if b i = k then cntB leaf b len d (k + 1) (fun c => if c = k then i else f c) else 0) (h := fun _ => 0) len (fun i hi => by
        split
        · rename_i hb
          exact Int.not_lt.mp fun hp => hno ⟨i, hi, hb, hp⟩
        · exact Int.le_refl _)
      rw [sumZ_zero] at this
      omega
    obtain ⟨i, hi, hb, hp⟩ := hex
    obtain ⟨g, g1, g2, g3⟩ := cntB_some len d (k + 1) _ hp
    refine ⟨g, g1, fun c hc => ?_, fun c h1 h2 => ?_⟩
    · rw [g2 c (by omega), if_neg (by omega)]
    · by_cases e : c = k
      · subst e
        have := g2 c (by omega)
        rw [if_pos rfl] at this
        rw [this]
        exact ⟨hb, hi⟩
      · exact g3 c (by omega) (by omega)
theorem cntB_bound {leaf : (Nat → Nat) → Int} (h1 : ∀ f, leaf f ≤ 1) (len : Nat) : ∀ (d k : Nat) (f : Nat → Nat), cntB leaf b len d k f ≤ (len : Int) ^ d
  | 0, _, f => by rw [cntB, Int.pow_zero]; exact h1 f
  | d + 1, k, f => by
    rw [cntB]
    have hp : (0 : Int) ≤ (len : Int) ^ d := Int.pow_nonneg (by omega)
    have := sumZ_le (g := fun i => if b i = k then cntB leaf b len d (k + 1) (fun c => if c = k then i else f c) else 0) (h := fun _ => (len : Int) ^ d) len (fun i _ => by
      split
      · exact cntB_bound h1 len d (k + 1) _
      · exact hp)
    refine Int.le_trans this ?_
    have hc : ∀ (x : Int) (k : Nat), sumZ (fun _ => x) k = (k : Int) * x := by
      intro x k
      induction k with
      | zero => simp [sumZ]
      | succ k ih => rw [sumZ, ih, Int.natCast_succ, Int.add_mul, Int.one_mul]
    rw [hc, Int.pow_succ, Int.mul_comm]
    exact Int.le_refl _
end
end Go.Proofs.Ytpmadffgdfholaa.B
namespace Go.Proofs.Ytpmadffgdfholaa.B
open Go.RowKit Go.Proofs.YtpmadffgdfholaaW.PrintWords Go.Proofs.YtpmadffgdfholaaW.PrintLast Go.Proofs.YtpmadffgdfholaaW.PrintMore
/-- Columns without the one at place p. -/
def cut1 (cols : List Int) (p : Nat) : List Int := cols.take p ++ cols.drop (p + 1)
/-- The sum along a row, from place p on. -/
def loopD (r cols : List Int) (D : Nat → Int) : Nat → Nat → Int → Int → Int
  | 0, _, s, _ => s
  | d + 1, p, s, g => if rd r (rd cols (p : Int)) = 0 then loopD r cols D d (p + 1) s (wrap64 (-g)) else loopD r cols D d (p + 1) (wrap64 (s + wrap64 (wrap64 (g * rd r (rd cols (p : Int))) * D p))) (wrap64 (-g))
/-- The determinant of rows at some columns. -/
def detW : List (List Int) → List Int → Int
  | [], _ => 1
  | r :: rows, cols => loopD r cols (fun p => detW rows (cut1 cols p)) cols.length 0 0 1
theorem cut1_length (cols : List Int) (p : Nat) (h : p < cols.length) : (cut1 cols p).length = cols.length - 1 := by
  simp [cut1]; omega
def minor1 (p : Nat) (row : List Int) : List Int := row.take p ++ row.drop (p + 1)
def sub1 (rows : List (List Int)) (cols : List Int) : List (List Int) := rows.map fun r => cols.map fun c => rd r c
theorem sub1_minor (rows : List (List Int)) (cols : List Int) (p : Nat) : (sub1 rows cols).map (minor1 p) = sub1 rows (cut1 cols p) := by
  simp [sub1, minor1, cut1, List.map_take, List.map_drop]
theorem rd_L12_at (Y : List (List Int)) (q : Nat) (h : q < Y.length) : rd_L12 Y (q : Int) = Y[q] := by
  simp [rd_L12, List.getD, List.getElem?_eq_getElem h]
theorem rd_map (r cols : List Int) (p : Nat) (h : p < cols.length) : rd (cols.map fun c => rd r c) (p : Int) = rd r (rd cols (p : Int)) := by
  simp [rd, List.getD, List.getElem?_eq_getElem h, List.getElem?_map]
theorem code_inner (T Y : List (List Int)) (T0 : List Int) (s g x : Int) (p c : Nat) (hp : p < c) (hc : c < 1000) (hY : ∀ r ∈ Y, r.length = c) (hYl : Y.length < 1000) :
    ∀ e q k acc, q + e = Y.length → acc.length + e < 2000 → branch_determinant.l1 (k + e + 1) T s g (p : Int) x acc T0 (c : Int) (p : Int) Y (Y.length : Int) (q : Int) =
      (branch_determinant.f k (acc ++ (Y.drop q).map (minor1 p))).bind fun t119 => (branch_determinant.l0 k T (wrap64 (s + (wrap64 ((wrap64 (g * x)) * t119)))) (wrap64 (-g)) T0 (c : Int) (wrap64 ((p : Int) + 1)))
  | 0, q, k, acc, h, _ => by
    simp only [branch_determinant.l1]
    rw [if_neg (by omega), List.drop_eq_nil_of_le (by omega), List.map_nil, List.append_nil]
  | e + 1, q, k, acc, h, ha => by
    have hq : q < Y.length := by omega
    have hw := wrap_nat q (by omega)
    have hwp := wrap_nat p (by omega)
    have hlen : (Y[q]).length = c := hY _ (List.getElem_mem hq)
    have hcl : slices_Clone.f ((Y[q]).take p) = some ((Y[q]).take p) := by
      unfold slices_Clone.f
      rw [if_pos (by rw [List.length_take]; omega)]
    have ih := code_inner T Y T0 s g x p c hp hc hY hYl e (q + 1) k (acc ++ [minor1 p Y[q]]) (by omega) (by simp; omega)
    have hl3 : ((Y[q]).take p).length + ((Y[q]).drop (p + 1)).length < 17592186044416 := by rw [List.length_take, List.length_drop]; omega
    rw [show k + (e + 1) + 1 = (k + e + 1) + 1 from by omega]
    generalize k + e + 1 = qq at ih
    simp only [branch_determinant.l1, rd_L12_at Y q hq, hw, hwp, Int.toNat_natCast, hcl, Option.bind_some, hlen]
    rw [if_pos (by omega), if_pos (by omega), if_pos (by omega), if_pos (by omega), if_pos (by omega), if_pos (by omega), if_pos (by omega), if_pos hl3, if_pos (by omega)]
    rw [List.drop_eq_getElem_cons hq, List.map_cons]
    have e1 : acc ++ (minor1 p Y[q] :: (Y.drop (q + 1)).map (minor1 p)) = (acc ++ [minor1 p Y[q]]) ++ (Y.drop (q + 1)).map (minor1 p) := by simp
    rw [e1, ← hwp, ← ih]
    rfl
theorem code_loop (T Y : List (List Int)) (r cols : List Int) (D : Nat → Int) (K : Nat) (hT : T = (cols.map fun c => rd r c) :: Y) (hc : cols.length < 1000) (hY : ∀ r ∈ Y, r.length = cols.length) (hYl : Y.length < 1000)
    (hD : ∀ p, p < cols.length → ∀ k, K ≤ k → branch_determinant.f k (Y.map (minor1 p)) = some (D p)) :
    ∀ d p k s g, p + d = cols.length → K ≤ k → branch_determinant.l0 (k + (Y.length + 2) * d + 1) T s g (cols.map fun c => rd r c) (cols.length : Int) (p : Int) = some (loopD r cols D d p s g)
  | 0, p, k, s, g, h, hk => by
    simp only [branch_determinant.l0, loopD, Nat.mul_zero, Nat.add_zero]
    rw [if_neg (by omega)]
  | d + 1, p, k, s, g, h, hk => by
    have hp : p < cols.length := by omega
    have hw := wrap_nat p (by omega)
    have ih0 := fun s g => code_loop T Y r cols D K hT hc hY hYl hD d (p + 1) (k + Y.length + 1) s g (by omega) (by omega)
    have ih1 := fun s g => code_loop T Y r cols D K hT hc hY hYl hD d (p + 1) k s g (by omega) hk
    have hDp := hD p hp (k + (Y.length + 2) * d + 1) (Nat.le_trans hk (by omega))
    have hin := fun s g x => code_inner T Y (cols.map fun c => rd r c) s g x p cols.length hp hc hY hYl Y.length 0 (k + (Y.length + 2) * d + 1) [] (by omega) (by simp; omega)
    have hTl : T.length = Y.length + 1 := by rw [hT]; simp
    have hTd : T.drop 1 = Y := by rw [hT]; rfl
    have e1 : k + (Y.length + 2) * (d + 1) + 1 = (k + Y.length + 1 + (Y.length + 2) * d + 1) + 1 := by rw [Nat.mul_succ]; omega
    have e2 : k + Y.length + 1 + (Y.length + 2) * d + 1 = k + (Y.length + 2) * d + 1 + Y.length + 1 := by omega
    rw [e1]
    rw [e2] at ih0 ⊢
    generalize k + (Y.length + 2) * d + 1 + Y.length + 1 = qq at ih0 hin
    simp only [branch_determinant.l0, loopD, rd_map r cols p hp, hw, List.length_map, hTd, Option.bind_some]
    rw [if_pos (by omega), if_pos (by omega), if_pos (by omega)]
    by_cases h0 : rd r (rd cols (p : Int)) = 0
    · rw [if_pos h0, if_pos h0]
      exact ih0 _ _
    · rw [if_neg h0, if_neg h0, if_pos (by omega)]
      have := hin s g (rd r (rd cols (p : Int)))
      simp only [List.nil_append, List.drop_zero, hDp, Option.bind_some, hw] at this
      rw [show ((0 : Nat) : Int) = 0 from rfl] at this
      rw [this]
      exact ih1 _ _
theorem code_det : ∀ (rows : List (List Int)) (cols : List Int), rows.length = cols.length → cols.length < 1000 → ∃ K, ∀ k, K ≤ k → branch_determinant.f k (sub1 rows cols) = some (detW rows cols)
  | [], cols, hl, _ => by
    refine ⟨1, fun k hk => ?_⟩
    obtain ⟨k, rfl⟩ : ∃ k', k = k' + 1 := ⟨k - 1, by omega⟩
    simp only [branch_determinant.f, detW, sub1]
    rfl
  | r :: rows, cols, hl, hc => by
    have hcl : 0 < cols.length := by simp at hl; omega
    have hD : ∀ p : Nat, ∃ K, p < cols.length → ∀ k, K ≤ k → branch_determinant.f k (sub1 rows (cut1 cols p)) = some (detW rows (cut1 cols p)) := by
      intro p
      by_cases hp : p < cols.length
      · have hcut := cut1_length cols p hp
        obtain ⟨K, hK⟩ := code_det rows (cut1 cols p) (by simp at hl; omega) (by omega)
        exact ⟨K, fun _ => hK⟩
      · exact ⟨0, fun h => absurd h hp⟩
    obtain ⟨F, hF⟩ := Classical.axiomOfChoice hD
    obtain ⟨K, hK⟩ : ∃ K, ∀ p, p < cols.length → F p ≤ K := by
      refine ⟨((List.range cols.length).map F).foldr max 0, fun p hp => ?_⟩
      have : ∀ (l : List Nat) (x : Nat), x ∈ l → x ≤ l.foldr max 0 := by
        intro l
        induction l with
        | nil => intro x hx; cases hx
        | cons y l ih =>
          intro x hx
          rcases List.mem_cons.1 hx with rfl | hx
          · exact Nat.le_max_left _ _
          · exact Nat.le_trans (ih x hx) (Nat.le_max_right _ _)
      exact this _ _ (List.mem_map.2 ⟨p, List.mem_range.2 hp, rfl⟩)
    have hYl : (sub1 rows cols).length = rows.length := by simp [sub1]
    refine ⟨K + (rows.length + 2) * cols.length + 2, fun k hk => ?_⟩
    have hfin := code_loop (sub1 (r :: rows) cols) (sub1 rows cols) r cols (fun p => detW rows (cut1 cols p)) K rfl hc (fun x hx => by
        obtain ⟨y, _, rfl⟩ := List.mem_map.1 hx
        simp) (by simp at hl; omega) (fun p hp k' hk' => by rw [sub1_minor]; exact hF p hp k' (Nat.le_trans (hK p hp) hk')) cols.length 0 (k - (rows.length + 2) * cols.length - 2) 0 1 (by omega) (by omega)
    rw [hYl, show k - (rows.length + 2) * cols.length - 2 + (rows.length + 2) * cols.length + 1 = k - 1 from by omega] at hfin
    obtain ⟨k, rfl⟩ : ∃ k', k = k' + 1 := ⟨k - 1, by omega⟩
    simp only [branch_determinant.f, detW]
    rw [if_neg (by simp [sub1]; omega), if_pos (by simp [sub1])]
    have e0 : rd_L12 (sub1 (r :: rows) cols) 0 = cols.map fun c => rd r c := rfl
    rw [e0, List.length_map]
    exact hfin
end Go.Proofs.Ytpmadffgdfholaa.B
namespace Go.Proofs.Ytpmadffgdfholaa.B
open Go.RowKit Go.Proofs.YtpmadffgdfholaaW.PrintWords Go.Proofs.YtpmadffgdfholaaW.PrintLast Go.Proofs.YtpmadffgdfholaaW.PrintMore
def Sq (m : Nat) (X : List (List Int)) : Prop := X.length = m ∧ ∀ r ∈ X, r.length = m
theorem sq_row {m : Nat} {X : List (List Int)} (h : Sq m X) (w : Int) (h0 : 0 ≤ w) (h1 : w < (m : Int)) : (rd_L12 X w).length = m := by
  obtain ⟨j, rfl⟩ := Int.eq_ofNat_of_zero_le h0
  have hj : j < X.length := by have := h.1; omega
  rw [rd_L12_at X j hj]
  exact h.2 _ (List.getElem_mem hj)
theorem sq_set {m : Nat} {X : List (List Int)} (h : Sq m X) (j : Nat) (r : List Int) (hr : r.length = m) : Sq m (X.set j r) := by
  refine ⟨by rw [List.length_set]; exact h.1, fun y hy => ?_⟩
  rcases List.mem_or_eq_of_mem_set hy with hy | rfl
  · exact h.2 y hy
  · exact hr
/-- What a street does to the table. -/
def stepA (X : List (List Int)) (x : S30) : List (List Int) :=
  X.set ((wrap64 (x.f1 - 1)) : Int).toNat ((rd_L12 X (wrap64 (x.f1 - 1))).set ((wrap64 (x.f1 - 1)) : Int).toNat (wrap64 ((rd (rd_L12 X (wrap64 (x.f1 - 1))) (wrap64 (x.f1 - 1))) + 1)))
def stepB (Y : List (List Int)) (x : S30) : List (List Int) :=
  Y.set ((wrap64 (x.f0 - 1)) : Int).toNat ((rd_L12 Y (wrap64 (x.f0 - 1))).set ((wrap64 (x.f1 - 1)) : Int).toNat (wrap64 ((rd (rd_L12 Y (wrap64 (x.f0 - 1))) (wrap64 (x.f1 - 1))) - 1)))
def stepT (X : List (List Int)) (x : S30) : List (List Int) := if x.f1 > 0 then (if x.f0 > 0 then stepB (stepA X x) x else stepA X x) else X
theorem wrap_pred (a : Int) (h0 : 0 < a) (h1 : a ≤ 7) : wrap64 (a - 1) = a - 1 := by unfold wrap64; omega
theorem stepA_sq {m : Nat} {X : List (List Int)} {x : S30} (h : Sq m X) (h0 : 0 < x.f1) (h1 : x.f1 ≤ (m : Int)) (hm : m ≤ 6) : Sq m (stepA X x) := by
  have e := wrap_pred x.f1 h0 (by omega)
  refine sq_set h _ _ ?_
  rw [List.length_set]
  exact sq_row h _ (by omega) (by omega)
theorem stepB_sq {m : Nat} {X : List (List Int)} {x : S30} (h : Sq m X) (h0 : 0 < x.f0) (h1 : x.f0 ≤ (m : Int)) (hm : m ≤ 6) : Sq m (stepB X x) := by
  have e := wrap_pred x.f0 h0 (by omega)
  refine sq_set h _ _ ?_
  rw [List.length_set]
  exact sq_row h _ (by omega) (by omega)
theorem stepT_sq {m : Nat} {X : List (List Int)} {x : S30} {n : Int} (h : Sq m X) (hn : n = (m : Int) + 1) (hm : m ≤ 6) (hx : wayOk n x = true) : Sq m (stepT X x) := by
  obtain ⟨h1, h2, h3, h4, _⟩ := (wayOk_iff n x).1 hx
  unfold stepT
  split
  · split
    · exact stepB_sq (stepA_sq h (by omega) (by omega) hm) (by omega) (by omega) hm
    · exact stepA_sq h (by omega) (by omega) hm
  · exact h
theorem fold_sq {m : Nat} {n : Int} (hn : n = (m : Int) + 1) (hm : m ≤ 6) : ∀ (l : List S30) (X : List (List Int)), Sq m X → (∀ x ∈ l, wayOk n x = true) → Sq m (l.foldl stepT X)
  | [], _, h, _ => h
  | x :: l, X, h, hx => fold_sq hn hm l (stepT X x) (stepT_sq h hn hm (hx x List.mem_cons_self)) (fun y hy => hx y (List.mem_cons_of_mem _ hy))
section
variable {n : Int} {l : List S30} {m : Nat}
theorem count_l1 (hn : n = (m : Int) + 1) (hm : m ≤ 6) (hl : l.length ≤ 30) (hx : ∀ x ∈ l, wayOk n x = true) : ∀ d i k X, i + d = l.length → Sq m X →
    branch_Count.l1 (k + d + 1) X l (l.length : Int) (i : Int) = (branch_determinant.f k ((l.drop i).foldl stepT X)).bind fun t126 => some (t126, 0)
  | 0, i, k, X, h, _ => by
    simp only [branch_Count.l1]
    rw [if_neg (by omega), List.drop_eq_nil_of_le (by omega)]
    rfl
  | d + 1, i, k, X, h, hs => by
    have hi : i < l.length := by omega
    have hw := wrap_nat i (by omega)
    have hok : wayOk n (rd_T30 l (i : Int)) = true := hx _ (by
      simp [rd_T30, List.getD, List.getElem?_eq_getElem hi])
    have ih := count_l1 hn hm hl hx d (i + 1) k (stepT X (rd_T30 l (i : Int))) (by omega) (stepT_sq hs hn hm hok)
    rw [drop_rd30 l i hi, List.foldl_cons, ← ih, show k + (d + 1) + 1 = (k + d + 1) + 1 from by omega]
    clear ih
    generalize k + d + 1 = q
    simp only [branch_Count.l1, hw]
    rw [if_pos (by omega), if_pos (by omega), if_pos (by omega)]
    generalize rd_T30 l (i : Int) = x at hok
    obtain ⟨h1, h2, h3, h4, _⟩ := (wayOk_iff n x).1 hok
    unfold stepT
    by_cases t1 : x.f1 > 0
    · have e1 := wrap_pred x.f1 (by omega) (by omega)
      have r1 := sq_row hs (wrap64 (x.f1 - 1)) (by omega) (by omega)
      have hA := stepA_sq hs (x := x) (by omega) (by omega) hm
      have hXl := hs.1
      rw [if_pos t1, if_pos t1, if_pos (by omega), if_pos (by omega), if_pos (by omega), Option.bind_some]
      by_cases t0 : x.f0 > 0
      · have e0 := wrap_pred x.f0 (by omega) (by omega)
        have r0 := sq_row hA (wrap64 (x.f0 - 1)) (by omega) (by omega)
        unfold stepA at r0
        rw [if_pos t0, if_pos t0, if_pos (by omega), if_pos (by omega), if_pos (by rw [r0]; omega)]
        rfl
      · rw [if_neg t0, if_neg t0]
        rfl
    · rw [if_neg t1, if_neg t1]
/-- The empty table. -/
def zeros (m : Nat) : List Int := List.replicate m 0
theorem wrap_n (hn : n = (m : Int) + 1) (hm : m ≤ 6) : wrap64 (n - 1) = (m : Int) := by unfold wrap64; omega
theorem count_l0 (hn : n = (m : Int) + 1) (hm : m ≤ 6) : ∀ d j k, j + d = m → branch_Count.l0 (k + d + 1) n (List.replicate j (zeros m) ++ List.replicate (m - j) []) (m : Int) (j : Int) n l =
    branch_Count.l1 k (List.replicate m (zeros m)) l (l.length : Int) 0
  | 0, j, k, h => by
    obtain rfl : j = m := by omega
    simp only [branch_Count.l0]
    rw [if_neg (by omega), Nat.sub_self]
    simp
  | d + 1, j, k, h => by
    have ih := count_l0 hn hm d (j + 1) k (by omega)
    have hw := wrap_nat j (by omega)
    rw [← ih, show k + (d + 1) + 1 = (k + d + 1) + 1 from by omega]
    clear ih
    generalize k + d + 1 = q
    simp only [branch_Count.l0, wrap_n hn hm, hw, Int.toNat_natCast]
    rw [if_pos (by omega), if_pos (by omega), if_pos (by omega), if_pos (by omega), if_pos (by simp; omega)]
    congr 1
    rw [List.set_append_right _ _ (by simp), List.length_replicate, Nat.sub_self, show m - j = (m - (j + 1)) + 1 from by omega, List.replicate_succ, List.set_cons_zero, List.replicate_succ' (n := j), List.append_assoc]
    rfl
theorem rows_self {M : List (List Int)} (h : Sq m M) : sub1 M ((List.range m).map fun q : Nat => (q : Int)) = M := by
  unfold sub1
  refine (List.map_congr_left fun r hr => ?_).trans (List.map_id _)
  have hl := h.2 r hr
  apply List.ext_getElem?
  intro j
  rw [List.map_map, List.getElem?_map]
  by_cases hj : j < m
  · rw [List.getElem?_range hj]
    simp [rd, List.getD, List.getElem?_eq_getElem (show j < r.length by omega)]
  · rw [List.getElem?_eq_none (by simp; omega), List.getElem?_eq_none (by simp; omega)]
    rfl
end
end Go.Proofs.Ytpmadffgdfholaa.B
namespace Go.Proofs.Ytpmadffgdfholaa.B
set_option linter.unusedVariables false
open Go.RowKit Go.Proofs.YtpmadffgdfholaaW.PrintWords Go.Proofs.YtpmadffgdfholaaW.PrintLast Go.Proofs.YtpmadffgdfholaaW.PrintMore
/-- Street i enters the set q. -/
def entB (l : List S30) (q : Nat) (i : Nat) : Bool := !q.testBit (aW l i) && q.testBit (bW l i)
def entL (l : List S30) (q : Nat) : List Int := ((List.range l.length).filter (entB l q)).map fun i : Nat => (i : Int)
theorem entL_mem (l : List S30) (q i : Nat) : (i : Int) ∈ entL l q ↔ i < l.length ∧ entB l q i = true := by
  unfold entL
  simp only [List.mem_map, List.mem_filter, List.mem_range]
  constructor
  · rintro ⟨j, h, e⟩
    obtain rfl : j = i := by omega
    exact h
  · exact fun h => ⟨i, h, rfl⟩
theorem entL_nat (l : List S30) (q : Nat) : ∀ x ∈ entL l q, ∃ i : Nat, x = (i : Int) ∧ i < l.length := by
  intro x hx
  unfold entL at hx
  obtain ⟨i, hi, rfl⟩ := List.mem_map.1 hx
  exact ⟨i, rfl, by have := (List.mem_filter.1 hi).1; simpa using this⟩
theorem nodup_map_cast : ∀ {L : List Nat}, L.Nodup → (L.map fun i : Nat => (i : Int)).Nodup
  | [], _ => List.nodup_nil
  | x :: L, h => by
    rw [List.nodup_cons] at h
    rw [List.map_cons, List.nodup_cons]
    refine ⟨fun hm => ?_, nodup_map_cast h.2⟩
    obtain ⟨y, hy, e⟩ := List.mem_map.1 hm
    have e2 : y = x := by omega
    exact h.1 (e2 ▸ hy)
theorem entL_nodup (l : List S30) (q : Nat) : (entL l q).Nodup := nodup_map_cast (List.Pairwise.filter _ List.nodup_range)
theorem entL_length (l : List S30) (q : Nat) : (entL l q).length ≤ l.length := by
  unfold entL
  rw [List.length_map]
  exact Nat.le_trans (List.length_filter_le _ _) (by simp)
theorem entR_eq (l : List S30) (q : Nat) : ∀ (d i : Nat) (acc : List Int), i + d = l.length → acc = ((List.range i).filter (entB l q)).map (fun i : Nat => (i : Int)) → entR l q d i acc = entL l q
  | 0, i, acc, h, e => by
    obtain rfl : i = l.length := by omega
    exact e
  | d + 1, i, acc, h, e => by
    rw [entR]
    refine entR_eq l q d (i + 1) _ (by omega) ?_
    rw [List.range_succ, List.filter_append, List.map_append, ← e]
    have hb : (entB l q i = true) ↔ (q.testBit (rd_T30 l (i : Int)).f0.toNat = false ∧ q.testBit (rd_T30 l (i : Int)).f1.toNat = true) := by
      unfold entB aW bW
      rw [Bool.and_eq_true, Bool.not_eq_true']
    by_cases hc : entB l q i = true
    · rw [if_pos (hb.1 hc), List.filter_cons_of_pos hc]
      rfl
    · rw [if_neg (fun h => hc (hb.2 h)), List.filter_cons_of_neg hc]
      simp
theorem entering_f {n : Nat} {l : List S30} (hn : n ≤ 7) (hl : l.length ≤ 30) (hx : ∀ x ∈ l, wayOk n x = true) {q : Nat} (hq : q < 128) (k : Nat) (hk : 40 ≤ k) : branch_town_entering.f k (n : Int) l (q : Int) = some (entL l q) := by
  have c1 := ent_code (n := (n : Int)) (l := l) (s := q) (by omega) (by omega) hx hq l.length 0 (k - l.length - 1) [] (by omega) (by simp)
  rw [show k - l.length - 1 + l.length + 1 = k from by omega, entR_eq l q l.length 0 [] (by omega) (by simp)] at c1
  unfold branch_town_entering.f
  exact c1
def minL (left : List Int) (og : Int → Bool) : List Int → Int → Int
  | [], m => m
  | i :: E, m => minL left og E (if og i = true then m else if m < 0 then rd left i else if rd left i < m then rd left i else m)
theorem minL_spec (left : List Int) (og : Int → Bool) : ∀ (E : List Int) (m : Int), (∀ i ∈ E, og i = false → 0 ≤ rd left i) → -1 ≤ m →
    (minL left og E m = m ∨ ∃ i ∈ E, og i = false ∧ minL left og E m = rd left i) ∧ (0 ≤ m → minL left og E m ≤ m) ∧ (∀ i ∈ E, og i = false → 0 ≤ minL left og E m ∧ minL left og E m ≤ rd left i) ∧ -1 ≤ minL left og E m ∧ (0 ≤ m → 0 ≤ minL left og E m)
  | [], m, _, hm => ⟨.inl rfl, fun _ => Int.le_refl _, fun i hi => absurd hi (by simp), hm, fun h => h⟩
  | j :: E, m, h, hm => by
    have hj := h j List.mem_cons_self
    have hE : ∀ i ∈ E, og i = false → 0 ≤ rd left i := fun i hi => h i (List.mem_cons_of_mem _ hi)
    simp only [minL]
    cases hog : og j with
    | true =>
      obtain ⟨h1, h2, h3, h4, h5⟩ := minL_spec left og E m hE hm
      simp only [if_true]
      refine ⟨h1.imp id fun ⟨i, hi, e⟩ => ⟨i, List.mem_cons_of_mem _ hi, e⟩, h2, fun i hi ho => ?_, h4, h5⟩
      rcases List.mem_cons.1 hi with rfl | hi
      · rw [hog] at ho; exact absurd ho (by decide)
      · exact h3 i hi ho
    | false =>
      have hj0 := hj hog
      simp only [Bool.false_eq_true, if_false]
      generalize hm2 : (if m < 0 then rd left j else if rd left j < m then rd left j else m) = m2
      have e2 : (m2 = rd left j ∨ m2 = m) ∧ 0 ≤ m2 ∧ m2 ≤ rd left j ∧ (0 ≤ m → m2 ≤ m) := by
        rw [← hm2]
        split
        · exact ⟨.inl rfl, hj0, Int.le_refl _, fun h => by omega⟩
        · split
          · exact ⟨.inl rfl, hj0, Int.le_refl _, fun h => by omega⟩
          · exact ⟨.inr rfl, by omega, by omega, fun h => by omega⟩
      obtain ⟨h1, h2, h3, h4, h5⟩ := minL_spec left og E m2 hE (by omega)
      refine ⟨?_, fun h => by have := h2 e2.2.1; have := e2.2.2.2 h; omega, fun i hi ho => ?_, h4, fun _ => h5 e2.2.1⟩
      · rcases h1 with h1 | ⟨i, hi, e⟩
        · rcases e2.1 with e | e
          · exact .inr ⟨j, List.mem_cons_self, hog, h1.trans e⟩
          · exact .inl (h1.trans e)
        · exact .inr ⟨i, List.mem_cons_of_mem _ hi, e⟩
      · rcases List.mem_cons.1 hi with rfl | hi
        · exact ⟨h5 e2.2.1, by have := h2 e2.2.1; omega⟩
        · exact h3 i hi ho
def subL (m : Int) : List Int → List Int → List Int
  | left, [] => left
  | left, i :: E => subL m (left.set i.toNat (wrap64 (rd left i - m))) E
theorem subL_length (m : Int) : ∀ (E left : List Int), (subL m left E).length = left.length
  | [], _ => rfl
  | i :: E, left => by rw [subL, subL_length m E, List.length_set]
theorem rd_set (L : List Int) (i j : Nat) (x : Int) (h : i < L.length) : rd (L.set i x) (j : Int) = if j = i then x else rd L (j : Int) := by
  simp only [rd, Int.toNat_natCast, List.getD, List.getElem?_set]
  by_cases e : i = j
  · subst e; simp [h]
  · rw [if_neg e, if_neg (fun h => e h.symm)]
theorem subL_rd (m : Int) : ∀ (E left : List Int), (∀ x ∈ E, ∃ i : Nat, x = (i : Int) ∧ i < left.length) → E.Nodup → (∀ x ∈ E, wrap64 (rd left x - m) = rd left x - m) → ∀ j : Nat, rd (subL m left E) (j : Int) = if (j : Int) ∈ E then rd left (j : Int) - m else rd left (j : Int)
  | [], _, _, _, _, j => by simp [subL]
  | x :: E, left, hE, hd, hw, j => by
    obtain ⟨i, rfl, hi⟩ := hE x List.mem_cons_self
    rw [List.nodup_cons] at hd
    rw [subL, Int.toNat_natCast]
    have hr : ∀ j : Nat, rd (left.set i (wrap64 (rd left (i : Int) - m))) (j : Int) = if j = i then wrap64 (rd left (i : Int) - m) else rd left (j : Int) := fun j => rd_set left i j _ hi
    rw [subL_rd m E _ (fun y hy => by obtain ⟨t, e, ht⟩ := hE y (List.mem_cons_of_mem _ hy); exact ⟨t, e, by rw [List.length_set]; exact ht⟩) hd.2 (fun y hy => by
      obtain ⟨t, rfl, ht⟩ := hE y (List.mem_cons_of_mem _ hy)
      have hne : t ≠ i := fun e => hd.1 (e ▸ hy)
      rw [hr, if_neg hne]
      exact hw _ (List.mem_cons_of_mem _ hy)) j, hr]
    by_cases e : j = i
    · subst e
      rw [if_neg hd.1, if_pos rfl, if_pos List.mem_cons_self]
      exact hw _ List.mem_cons_self
    · rw [if_neg e]
      have : ((j : Int) ∈ (i : Int) :: E) ↔ (j : Int) ∈ E := by
        rw [List.mem_cons]
        exact ⟨fun h => h.resolve_left (by omega), .inr⟩
      by_cases hm : (j : Int) ∈ E
      · rw [if_pos hm, if_pos (this.2 hm)]
      · rw [if_neg hm, if_neg (fun h => hm (this.1 h))]
section
variable {n : Nat} {l : List S30}
def chEnd (n : Int) (l : List S30) (k : Nat) (o : Int → Option Bool) (left : List Int) (cost : Int) (proof : List S41) (t m : Int) : Option (Int × List S41 × Bool) :=
  if m < 0 then some (0, [], false) else (branch_town_entering.f k n l t).bind fun e => branch_town_cheapest.l2 k o left cost proof t m e (e.length : Int) 0 n l
theorem ch_l1 (o : Int → Option Bool) (og : Int → Bool) (left : List Int) (cost : Int) (proof : List S41) (t : Int) (E : List Int) (ho : ∀ x ∈ E, o x = some (og x)) (hE : ∀ x ∈ E, ∃ i : Nat, x = (i : Int) ∧ i < left.length) (hlen : E.length < 1000) :
    ∀ (d q k : Nat) (m : Int), q + d = E.length →
    branch_town_cheapest.l1 (k + d + 1) o left cost proof t m E (E.length : Int) (q : Int) (n : Int) l =
      chEnd (n : Int) l k o left cost proof t (minL left og (E.drop q) m)
  | 0, q, k, m, h => by
    simp only [branch_town_cheapest.l1]
    rw [if_neg (by omega), List.drop_eq_nil_of_le (by omega)]
    rfl
  | d + 1, q, k, m, h => by
    have hq : q < E.length := by omega
    have hw := wrap_nat q (by omega)
    have hm := rd_mem4 E q hq
    have hox := ho _ hm
    obtain ⟨i, hi, hil⟩ := hE _ hm
    have ih := fun m => ch_l1 o og left cost proof t E ho hE hlen d (q + 1) k m (by omega)
    rw [show k + (d + 1) + 1 = (k + d + 1) + 1 from by omega]
    rw [drop_rdI4 E q hq]
    simp only [minL]
    generalize k + d + 1 = qq at ih
    simp only [branch_town_cheapest.l1, hw]
    rw [if_pos (by omega), if_pos (by omega), if_pos (by omega), hox, Option.bind_some]
    generalize rd E (q : Int) = x at hi
    subst hi
    by_cases hog : og (i : Int) = true
    · rw [if_pos hog, if_pos hog]
      exact ih m
    · rw [if_neg hog, if_neg hog]
      by_cases h1 : m < 0
      · rw [if_pos h1, if_pos h1, if_pos (by omega), if_pos (by omega)]
        exact ih _
      · rw [if_neg h1, if_neg h1, if_pos (by omega), if_pos (by omega)]
        by_cases h2 : rd left (i : Int) < m
        · rw [if_pos h2, if_pos h2]; exact ih _
        · rw [if_neg h2, if_neg h2]; exact ih _
theorem ch_l2 (o : Int → Option Bool) (cost : Int) (proof : List S41) (t m : Int) (E : List Int) (hlen : E.length < 1000) :
    ∀ (d q k : Nat) (left : List Int), (∀ x ∈ E, ∃ i : Nat, x = (i : Int) ∧ i < left.length) → q + d = E.length →
    branch_town_cheapest.l2 (k + d + 1) o left cost proof t m E (E.length : Int) (q : Int) (n : Int) l =
      if m > 0 then (if proof.length < 8796093022208 then branch_town_cheapest.l0 k o (subL m left (E.drop q)) (wrap64 (cost + m)) (proof ++ [(⟨t, m⟩ : S41)]) (n : Int) l else none) else branch_town_cheapest.l0 k o (subL m left (E.drop q)) cost proof (n : Int) l
  | 0, q, k, left, _, h => by
    simp only [branch_town_cheapest.l2]
    rw [if_neg (by omega), List.drop_eq_nil_of_le (by omega)]
    rfl
  | d + 1, q, k, left, hE, h => by
    have hq : q < E.length := by omega
    have hw := wrap_nat q (by omega)
    have hm := rd_mem4 E q hq
    obtain ⟨i, hi, hil⟩ := hE _ hm
    have ih := ch_l2 o cost proof t m E hlen d (q + 1) k (left.set (rd E (q : Int)).toNat (wrap64 (rd left (rd E (q : Int)) - m))) (fun y hy => by obtain ⟨z, e, hz⟩ := hE y hy; exact ⟨z, e, by rw [List.length_set]; exact hz⟩) (by omega)
    rw [show k + (d + 1) + 1 = (k + d + 1) + 1 from by omega]
    rw [drop_rdI4 E q hq]
    simp only [subL]
    rw [← ih]
    clear ih
    generalize k + d + 1 = qq
    simp only [branch_town_cheapest.l2, hw]
    rw [if_pos (by omega), if_pos (by omega), if_pos (by omega), if_pos (by omega), if_pos (by omega)]
end
/-- The worth of the sets that street i enters. -/
def worthAt (l : List S30) (i : Nat) : List S41 → Int
  | [] => 0
  | p :: P => worthAt l i P + if entB l p.f0.toNat i = true then p.f1 else 0
def worthAll : List S41 → Int
  | [] => 0
  | p :: P => worthAll P + p.f1
theorem worthAt_app (l : List S30) (i : Nat) (p : S41) : ∀ P, worthAt l i (P ++ [p]) = worthAt l i P + if entB l p.f0.toNat i = true then p.f1 else 0
  | [] => by simp [worthAt]
  | x :: P => by
    simp only [List.cons_append, worthAt]
    rw [worthAt_app l i p P]
    omega
theorem worthAll_app (p : S41) : ∀ P, worthAll (P ++ [p]) = worthAll P + p.f1
  | [] => by simp [worthAll]
  | x :: P => by
    simp only [List.cons_append, worthAll]
    rw [worthAll_app p P]
    omega
/-- A set of corners, as_ a price names it. -/
def IsSetN (n : Nat) (s : Int) : Prop := 0 < s ∧ s < 2 ^ n ∧ s.toNat.testBit 0 = false
structure ProofOk (n : Nat) (l : List S30) (T : Nat → Prop) (price : List Int) (P : List S41) (v : Int) : Prop where
  sets : ∀ p ∈ P, IsSetN n p.f0 ∧ 1 ≤ p.f1 ∧ p.f1 ≤ 1000
  apart : (P.map fun p => p.f0).Nodup
  worth : worthAll P = v
  below : ∀ i, T i → worthAt l i P ≤ rd price (i : Int)
/-- What stands at each round. -/
structure ChInv (n : Nat) (l : List S30) (og : Int → Bool) (price left : List Int) (cost : Int) (P : List S41) : Prop where
  len : left.length = l.length
  low : ∀ i : Nat, i < l.length → -(1000 * (P.length : Int)) ≤ rd left (i : Int) ∧ rd left (i : Int) ≤ 1000
  pos : ∀ i, onT l og i → 0 ≤ rd left (i : Int)
  opt : ∀ v, Opt n (aW l) (bW l) (onT l og) (fun i => rd left (i : Int)) v → Opt n (aW l) (bW l) (onT l og) (fun i => rd price (i : Int)) (v + cost)
  sets : ∀ p ∈ P, IsSetN n p.f0 ∧ 1 ≤ p.f1 ∧ p.f1 ≤ 1000 ∧ ∃ i, onT l og i ∧ rd left (i : Int) = 0 ∧ entB l p.f0.toNat i = true
  apart : (P.map fun p => p.f0).Nodup
  worth : worthAll P = cost
  bal : ∀ i : Nat, i < l.length → worthAt l i P + rd left (i : Int) = rd price (i : Int)
  many : cost ≤ 1000 * (P.length : Int) ∧ 0 ≤ cost
def zerosB (l : List S30) (og : Int → Bool) (left : List Int) (i : Nat) : Bool := !og (i : Int) && decide (rd left (i : Int) = 0)
section
variable {n : Nat} {l : List S30}
theorem ch_loop (hn1 : 1 ≤ n) (hn : n ≤ 7) (hl : l.length ≤ 30) (hx : ∀ x ∈ l, wayOk n x = true) (o : Int → Option Bool) (og : Int → Bool) (ho : ∀ i : Nat, i < l.length → o (i : Int) = some (og (i : Int))) (price : List Int) (hpl : price.length = l.length) :
    ∀ (c : Nat) (left : List Int) (cost : Int) (P : List S41), ChInv n l og price left cost P → l.length ≤ cntN (zerosB l og left) l.length + c → P.length + c ≤ 31 →
    ∃ r : Int × List S41 × Bool, (∀ k, 400 + 70 * c ≤ k → branch_town_cheapest.l0 k o left cost P (n : Int) l = some r) ∧
      ((r.2.2 = true ∧ Opt n (aW l) (bW l) (onT l og) (fun i => rd price (i : Int)) r.1 ∧ ProofOk n l (onT l og) price r.2.1 r.1 ∧ r.2.1.length ≤ 31) ∨ (r = (0, [], false) ∧ ∀ f, ¬ IsB n (aW l) (bW l) (onT l og) f)) := by
  intro c
  induction c with
  | zero => ?_
  | succ c ih => ?_
  all_goals
    intro left cost P hI hc hc2
    obtain ⟨q, hq, hal, hz, hS⟩ := alone_spec hn1 hn hl hx left hI.len o og ho
    have hp7 : 2 ^ n ≤ 2 ^ 7 := Nat.pow_le_pow_right (by decide) hn
    have hq7 : q < 128 := Nat.lt_of_lt_of_le hq hp7
    by_cases hq0 : q = 0
    · refine ⟨(cost, P, true), fun k hk => ?_, .inl ⟨rfl, ?_, ⟨fun p hp => ⟨(hI.sets p hp).1, (hI.sets p hp).2.1, (hI.sets p hp).2.2.1⟩, hI.apart, hI.worth, fun i hi => ?_⟩, by show P.length ≤ 31; omega⟩⟩
      · obtain ⟨k, rfl⟩ : ∃ k', k = k' + 1 := ⟨k - 1, by omega⟩
        simp only [branch_town_cheapest.l0]
        rw [hal k (by omega), Option.bind_some, hq0, if_pos (by rfl)]
      · have := hI.opt 0 (Opt.nothing (fun i h => onT_lt hx i h) hI.pos (hz hq0))
        rwa [Int.zero_add] at this
      · have h1 := hI.bal i hi.1
        have h2 := hI.pos i hi
        show worthAt l i P ≤ _
        omega
    have hA := hS hq0
    have hzs : ∀ i, onT l og i → rd left (i : Int) = 0 → entB l q i = false := by
      intro i ht h0
      have := hA.out i ht h0
      unfold entB
      cases hb : q.testBit (bW l i) with
      | false => simp
      | true => rw [this hb]; rfl
    have hE := fun k (hk : 40 ≤ k) => entering_f (n := n) hn hl hx hq7 k hk
    have hEm := entL_mem l q
    have hEn := entL_nat l q
    have hEl := entL_length l q
    have hEpos : ∀ x ∈ entL l q, og x = false → 0 ≤ rd left x := by
      intro x hxE hox
      obtain ⟨i, rfl, hi⟩ := hEn x hxE
      exact hI.pos i ⟨hi, hox⟩
    obtain ⟨m1, m2, m3, m4, m5⟩ := minL_spec left og (entL l q) (-1) hEpos (by omega)
    have M1 := Aside0.mk m1
    clear m1
    have hl0 : ∀ k, 400 ≤ k → branch_town_cheapest.l0 k o left cost P (n : Int) l = if minL left og (entL l q) (-1) < 0 then some (0, [], false) else branch_town_cheapest.l2 (k - (entL l q).length - 2) o left cost P (q : Int) (minL left og (entL l q) (-1)) (entL l q) ((entL l q).length : Int) 0 (n : Int) l := by
      intro k hk
      obtain ⟨k, rfl⟩ : ∃ k', k = k' + 1 := ⟨k - 1, by omega⟩
      have h1 := ch_l1 (n := n) (l := l) o og left cost P (q : Int) (entL l q) (fun x hxE => by obtain ⟨i, rfl, hi⟩ := hEn x hxE; exact ho i hi) (fun x hxE => by obtain ⟨i, e, hi⟩ := hEn x hxE; exact ⟨i, e, by rw [hI.len]; exact hi⟩) (by omega) (entL l q).length 0 (k - (entL l q).length - 1) (-1) (by omega)
      rw [show k - (entL l q).length - 1 + (entL l q).length + 1 = k from by omega, List.drop_zero] at h1
      unfold chEnd at h1
      rw [hE _ (by omega), Option.bind_some] at h1
      simp only [branch_town_cheapest.l0]
      rw [hal k (by omega), Option.bind_some, if_neg (by omega), hE k (by omega), Option.bind_some]
      rw [show k + 1 - (entL l q).length - 2 = k - (entL l q).length - 1 from by omega]
      exact h1
    by_cases hm : minL left og (entL l q) (-1) < 0
    · refine ⟨(0, [], false), fun k hk => by rw [hl0 k (by omega), if_pos hm], .inr ⟨rfl, no_branching (S := fun c => q.testBit c = true) hA.h0 hA.ne fun i ht hb => ?_⟩⟩
      refine Classical.byContradiction fun hna => ?_
      have hent : entB l q i = true := by unfold entB; rw [hb, Bool.eq_false_iff.mpr hna]; rfl
      have := (m3 (i : Int) ((hEm i).2 ⟨ht.1, hent⟩) ht.2).1
      omega
    obtain ⟨j, hjE, hjo, hjm⟩ : ∃ i ∈ entL l q, og i = false ∧ minL left og (entL l q) (-1) = rd left i := by
      rcases M1.out with h | h
      · omega
      · exact h
    clear M1
    obtain ⟨j, rfl, hj⟩ := hEn j hjE
    generalize hmm : minL left og (entL l q) (-1) = m at *
    have hjent := ((hEm j).1 hjE).2
    have hm1 : 1 ≤ m := by
      have := hzs j ⟨hj, hjo⟩
      rw [hjent] at this
      have h0 : rd left (j : Int) ≠ 0 := fun e => absurd (this e) (by decide)
      omega
    have hm1000 : m ≤ 1000 := by have := (hI.low j hj).2; omega
    have hwr : ∀ x ∈ entL l q, wrap64 (rd left x - m) = rd left x - m := by
      intro x hxE
      obtain ⟨i, rfl, hi⟩ := hEn x hxE
      have := hI.low i hi
      unfold wrap64
      omega
    have hrd := subL_rd m (entL l q) left (fun x hxE => by obtain ⟨i, e, hi⟩ := hEn x hxE; exact ⟨i, e, by rw [hI.len]; exact hi⟩) (entL_nodup l q) hwr
    have hrd2 : ∀ i : Nat, i < l.length → rd (subL m left (entL l q)) (i : Int) = if entB l q i = true then rd left (i : Int) - m else rd left (i : Int) := by
      intro i hi
      rw [hrd i]
      by_cases he : entB l q i = true
      · rw [if_pos ((hEm i).2 ⟨hi, he⟩), if_pos he]
      · rw [if_neg (fun h => he ((hEm i).1 h).2), if_neg he]
    have hposT : ∀ i, onT l og i → 0 ≤ rd (subL m left (entL l q)) (i : Int) := by
      intro i ht
      rw [hrd2 i ht.1]
      have := hI.pos i ht
      split
      · rename_i he
        have := (m3 (i : Int) ((hEm i).2 ⟨ht.1, he⟩) ht.2).2
        omega
      · exact this
    have hzero : ∀ i, onT l og i → rd left (i : Int) = 0 → rd (subL m left (entL l q)) (i : Int) = 0 := by
      intro i ht h0
      rw [hrd2 i ht.1, if_neg (by rw [hzs i ht h0]; decide)]
      exact h0
    have hjz : rd (subL m left (entL l q)) (j : Int) = 0 := by
      rw [hrd2 j hj, if_pos hjent]; omega
    have hcl := hI.many
    have hwc : wrap64 (cost + m) = cost + m := by unfold wrap64; omega
    have hset : IsSetN n (q : Int) := by
      refine ⟨by omega, by exact_mod_cast hq, ?_⟩
      rw [Int.toNat_natCast]
      exact Bool.eq_false_iff.mpr hA.h0
    have hnew : ChInv n l og price (subL m left (entL l q)) (cost + m) (P ++ [(⟨(q : Int), m⟩ : S41)]) := by
      refine ⟨by rw [subL_length]; exact hI.len, fun i hi => ?_, hposT, fun v hv => ?_, fun p hp => ?_, ?_, ?_, fun i hi => ?_, ?_⟩
      · rw [hrd2 i hi, List.length_append, List.length_singleton]
        have := hI.low i hi
        split <;> omega
      · have h1 := Opt.priced (p := fun i => rd left (i : Int)) (q := fun i => rd (subL m left (entL l q)) (i : Int)) (S := fun c => q.testBit c = true) (mm := m) (fun i h => onT_lt hx i h) hA (by omega) hI.pos
          (fun i ht hb ha => (m3 (i : Int) ((hEm i).2 ⟨ht.1, by unfold entB; rw [hb, Bool.eq_false_iff.mpr ha]; rfl⟩) ht.2).2)
          (fun i ht hb ha => by show rd (subL m left (entL l q)) (i : Int) = _; rw [hrd2 i ht.1, if_pos (by unfold entB; rw [hb, Bool.eq_false_iff.mpr ha]; rfl)])
          (fun i ht hno => by
            show rd (subL m left (entL l q)) (i : Int) = _
            rw [hrd2 i ht.1, if_neg]
            intro he
            unfold entB at he
            rw [Bool.and_eq_true, Bool.not_eq_true'] at he
            exact hno ⟨he.2, fun h => by rw [he.1] at h; exact absurd h (by decide)⟩) hv
        have h2 := hI.opt _ h1
        rw [show v + (cost + m) = v + m + cost from by omega]
        exact h2
      · rcases List.mem_append.1 hp with hp | hp
        · obtain ⟨a1, a2, a3, i, a4, a5, a6⟩ := hI.sets p hp
          exact ⟨a1, a2, a3, i, a4, hzero i a4 a5, a6⟩
        · obtain rfl := List.mem_singleton.1 hp
          exact ⟨hset, hm1, hm1000, j, ⟨hj, hjo⟩, hjz, by rw [Int.toNat_natCast]; exact hjent⟩
      · rw [List.map_append, List.nodup_append]
        refine ⟨hI.apart, by simp, fun x hxm y hy e => ?_⟩
        obtain rfl : y = (q : Int) := by simpa using hy
        obtain ⟨p, hp, rfl⟩ := List.mem_map.1 hxm
        obtain ⟨_, _, _, i, a4, a5, a6⟩ := hI.sets p hp
        rw [e, Int.toNat_natCast, hzs i a4 a5] at a6
        exact absurd a6 (by decide)
      · rw [worthAll_app, hI.worth]
      · rw [worthAt_app, hrd2 i hi, Int.toNat_natCast]
        have := hI.bal i hi
        show worthAt l i P + (if entB l q i = true then m else 0) + _ = _
        split <;> omega
      · rw [List.length_append, List.length_singleton]
        omega
    have hmeas : cntN (zerosB l og left) l.length < cntN (zerosB l og (subL m left (entL l q))) l.length := by
      refine cntN_lt l.length (fun i hi h => ?_) j hj ?_ ?_
      · unfold zerosB at h ⊢
        rw [Bool.and_eq_true, Bool.not_eq_true', decide_eq_true_eq] at h ⊢
        exact ⟨h.1, hzero i ⟨hi, h.1⟩ h.2⟩
      · unfold zerosB
        rw [hjo, hjz]; rfl
      · unfold zerosB
        rw [decide_eq_false (by omega), Bool.and_false]
    have hcb := cntN_bound (zerosB l og (subL m left (entL l q))) l.length
  · omega
  · obtain ⟨r, hr1, hr2⟩ := ih (subL m left (entL l q)) (cost + m) (P ++ [(⟨(q : Int), m⟩ : S41)]) hnew (by omega) (by rw [List.length_append, List.length_singleton]; omega)
    refine ⟨r, fun k hk => ?_, hr2⟩
    rw [hl0 k (by omega), if_neg hm]
    have h2 := ch_l2 (n := n) (l := l) o cost P (q : Int) m (entL l q) (by omega) (entL l q).length 0 (k - (entL l q).length - 2 - (entL l q).length - 1) left (fun x hxE => by obtain ⟨i, e, hi⟩ := hEn x hxE; exact ⟨i, e, by rw [hI.len]; exact hi⟩) (by omega)
    rw [show k - (entL l q).length - 2 - (entL l q).length - 1 + (entL l q).length + 1 = k - (entL l q).length - 2 from by omega, List.drop_zero, if_pos (by omega), if_pos (by omega), hwc] at h2
    exact h2.trans (hr1 _ (by omega))
/-- cheapest's answer. -/
theorem cheapest_spec (hn1 : 1 ≤ n) (hn : n ≤ 7) (hl : l.length ≤ 30) (hx : ∀ x ∈ l, wayOk n x = true) (o : Int → Option Bool) (og : Int → Bool) (ho : ∀ i : Nat, i < l.length → o (i : Int) = some (og (i : Int))) (price : List Int) (hpl : price.length = l.length) (hp : ∀ i : Nat, i < l.length → 0 ≤ rd price (i : Int) ∧ rd price (i : Int) ≤ 1000) :
    ∃ r : Int × List S41 × Bool, (∀ k, 3000 ≤ k → branch_town_cheapest.f k (n : Int) l price o = some r) ∧
      ((r.2.2 = true ∧ Opt n (aW l) (bW l) (onT l og) (fun i => rd price (i : Int)) r.1 ∧ ProofOk n l (onT l og) price r.2.1 r.1 ∧ r.2.1.length ≤ 31) ∨ (r = (0, [], false) ∧ ∀ f, ¬ IsB n (aW l) (bW l) (onT l og) f)) := by
  have h0 : ChInv n l og price price 0 [] := by
    refine ⟨hpl, fun i hi => ⟨by have := (hp i hi).1; simpa using this, (hp i hi).2⟩, fun i hi => (hp i hi.1).1, fun v hv => by rwa [Int.add_zero], fun p hp => absurd hp (by simp), by simp, rfl, fun i hi => by simp [worthAt], by simp⟩
  obtain ⟨r, h1, h2⟩ := ch_loop hn1 hn hl hx o og ho price hpl l.length price 0 [] h0 (by omega) (by simp; omega)
  refine ⟨r, fun k hk => ?_, h2⟩
  unfold branch_town_cheapest.f slices_Clone.f
  rw [if_pos (by omega), Option.bind_some]
  exact h1 k (by omega)
end
end Go.Proofs.Ytpmadffgdfholaa.B
namespace Go.Proofs.Ytpmadffgdfholaa.B
set_option linter.unusedVariables false
open Go.RowKit Go.Proofs.YtpmadffgdfholaaW.PrintWords Go.Proofs.YtpmadffgdfholaaW.PrintLast Go.Proofs.YtpmadffgdfholaaW.PrintMore
/-- Is street j one of the branching's? -/
def useB (n : Nat) (b : Nat → Nat) (f : Nat → Nat) (j : Nat) : Bool := decide (0 < b j) && decide (b j < n) && decide (f (b j) = j)
theorem useB_iff {n : Nat} {b f : Nat → Nat} {j : Nat} : useB n b f j = true ↔ 0 < b j ∧ b j < n ∧ f (b j) = j := by
  unfold useB
  simp [and_assoc]
/-- The indices of a choice of streets, ascending. -/
def selL (X : Nat → Bool) (i : Nat) : List Int := ((List.range i).filter X).map fun j : Nat => (j : Int)
theorem selL_succ (X : Nat → Bool) (i : Nat) : selL X (i + 1) = if X i = true then selL X i ++ [(i : Int)] else selL X i := by
  unfold selL
  rw [List.range_succ, List.filter_append, List.map_append]
  by_cases h : X i = true
  · rw [if_pos h, List.filter_cons_of_pos h]; rfl
  · rw [if_neg h, List.filter_cons_of_neg h]; simp
theorem selL_congr {X Y : Nat → Bool} : ∀ i, (∀ j, j < i → X j = Y j) → selL X i = selL Y i
  | 0, _ => rfl
  | i + 1, h => by rw [selL_succ, selL_succ, selL_congr i (fun j hj => h j (by omega)), h i (by omega)]
theorem selL_mem (X : Nat → Bool) (i j : Nat) : (j : Int) ∈ selL X i ↔ j < i ∧ X j = true := by
  unfold selL
  simp only [List.mem_map, List.mem_filter, List.mem_range]
  constructor
  · rintro ⟨q, h, e⟩
    obtain rfl : q = j := by omega
    exact h
  · exact fun h => ⟨j, h, rfl⟩
theorem selL_nat (X : Nat → Bool) (i : Nat) : ∀ x ∈ selL X i, ∃ j : Nat, x = (j : Int) ∧ j < i ∧ X j = true := by
  intro x hx
  unfold selL at hx
  obtain ⟨j, hj, rfl⟩ := List.mem_map.1 hx
  have := List.mem_filter.1 hj
  exact ⟨j, rfl, List.mem_range.1 this.1, this.2⟩
theorem selL_length (X : Nat → Bool) (i : Nat) : (selL X i).length ≤ i := by
  unfold selL
  rw [List.length_map]
  exact Nat.le_trans (List.length_filter_le _ _) (by simp)
theorem contains_l0 (list : List Int) (o : Int → Option Bool) (P : Int → Bool) (ho : ∀ x ∈ list, o x = some (P x)) (hl : list.length < 1000) : ∀ (d q k : Nat), q + d = list.length →
    ∃ r : Int, slices_IndexFunc_int_int.l0 (k + d + 1) list o (list.length : Int) (q : Int) = some r ∧ (0 ≤ r ↔ ∃ x ∈ list.drop q, P x = true)
  | 0, q, k, h => by
    refine ⟨-1, ?_, fun h => absurd h (by decide), fun ⟨x, hx, _⟩ => ?_⟩
    · simp only [slices_IndexFunc_int_int.l0]
      rw [if_neg (by omega)]
    · rw [List.drop_eq_nil_of_le (by omega)] at hx
      exact absurd hx (by simp)
  | d + 1, q, k, h => by
    have hq : q < list.length := by omega
    have hw := wrap_nat q (by omega)
    have hox := ho _ (rd_mem4 list q hq)
    obtain ⟨r, h1, h2⟩ := contains_l0 list o P ho hl d (q + 1) k (by omega)
    rw [drop_rdI4 list q hq, show k + (d + 1) + 1 = (k + d + 1) + 1 from by omega]
    cases hP : P (rd list (q : Int)) with
    | true =>
      refine ⟨q, ?_, fun _ => ⟨_, List.mem_cons_self, hP⟩, fun _ => by omega⟩
      simp only [slices_IndexFunc_int_int.l0, hw]
      rw [if_pos (by omega), if_pos (by omega), if_pos (by omega), hox, Option.bind_some, hP, if_pos rfl]
    | false =>
      refine ⟨r, ?_, ?_⟩
      · rw [← h1]
        generalize k + d + 1 = qq
        simp only [slices_IndexFunc_int_int.l0, hw]
        rw [if_pos (by omega), if_pos (by omega), if_pos (by omega), hox, Option.bind_some, hP, if_neg (by decide)]
      · rw [h2]
        constructor
        · rintro ⟨x, hx, hp⟩; exact ⟨x, List.mem_cons_of_mem _ hx, hp⟩
        · rintro ⟨x, hx, hp⟩
          rcases List.mem_cons.1 hx with rfl | hx
          · rw [hP] at hp; exact absurd hp (by decide)
          · exact ⟨x, hx, hp⟩
theorem contains_f (list : List Int) (o : Int → Option Bool) (P : Int → Bool) (ho : ∀ x ∈ list, o x = some (P x)) (hl : list.length < 1000) : ∃ r : Bool, (∀ k, list.length + 1 ≤ k → slices_ContainsFunc_int_int.f k list o = some r) ∧ (r = true ↔ ∃ x ∈ list, P x = true) := by
  obtain ⟨r, h1, h2⟩ := contains_l0 list o P ho hl list.length 0 0 (by omega)
  refine ⟨decide (r ≥ 0), fun k hk => ?_, ?_⟩
  · obtain ⟨r', h1', h2'⟩ := contains_l0 list o P ho hl list.length 0 (k - list.length - 1) (by omega)
    rw [show k - list.length - 1 + list.length + 1 = k from by omega] at h1'
    unfold slices_ContainsFunc_int_int.f slices_IndexFunc_int_int.f
    rw [show ((0 : Nat) : Int) = 0 from rfl] at h1'
    rw [h1', Option.bind_some]
    refine congrArg some ?_
    rw [List.drop_zero] at h2 h2'
    by_cases hr : 0 ≤ r
    · rw [decide_eq_true (show r' ≥ 0 from h2'.2 (h2.1 hr)), decide_eq_true (show r ≥ 0 from hr)]
    · rw [decide_eq_false (show ¬ r' ≥ 0 from fun h => hr (h2.2 (h2'.1 h))), decide_eq_false (show ¬ r ≥ 0 from hr)]
  · rw [decide_eq_true_eq]
    rw [List.drop_zero] at h2
    exact h2
/-- Streets X come first before streets Y, up to i: they are the same, or where they differ for the first time, X has the street. -/
def Ahead (X Y : Nat → Bool) (i : Nat) : Prop := (∀ j, j < i → X j = Y j) ∨ ∃ j, j < i ∧ (∀ q, q < j → X q = Y q) ∧ X j = true ∧ Y j = false
/-- The first branching of the least cost. -/
structure FirstB (n : Nat) (l : List S30) (p : Nat → Int) (v : Int) (f : Nat → Nat) : Prop where
  is : IsB n (aW l) (bW l) (fun i => i < l.length) f
  cost : costF n p f = v
  least : ∀ g, IsB n (aW l) (bW l) (fun i => i < l.length) g → v ≤ costF n p g
  ahead : ∀ g, IsB n (aW l) (bW l) (fun i => i < l.length) g → costF n p g = v → Ahead (useB n (bW l) f) (useB n (bW l) g) l.length
/-- What stands ahead of street i. -/
structure FsInv (n : Nat) (l : List S30) (p : Nat → Int) (v : Int) (i : Nat) (X : Nat → Bool) (gone : Int → Bool) : Prop where
  some : ∃ f, IsB n (aW l) (bW l) (onT l gone) f ∧ costF n p f = v
  below : ∀ j, j < i → (X j = true ↔ gone (j : Int) = false)
  lone : ∀ j, j < i → X j = true → 0 < bW l j ∧ ∀ q, q < l.length → bW l q = bW l j → q ≠ j → gone (q : Int) = true
  why : ∀ q, i ≤ q → q < l.length → gone (q : Int) = true → ∃ j, j < i ∧ X j = true ∧ bW l q = bW l j
  first : ∀ g, IsB n (aW l) (bW l) (fun i => i < l.length) g → costF n p g = v → Ahead X (useB n (bW l) g) i
section
variable {n : Nat} {l : List S30} {p : Nat → Int} {v : Int}
theorem mem_toB (l : List S30) (b : Int) (i : Nat) : (i : Int) ∈ toB l l.length b ↔ i < l.length ∧ (rd_T30 l (i : Int)).f1 = b := by
  unfold toB
  simp only [List.mem_map, List.mem_filter, List.mem_range, beq_iff_eq]
  constructor
  · rintro ⟨q, h, e⟩
    obtain rfl : q = i := by omega
    exact h
  · exact fun h => ⟨i, h, rfl⟩
theorem bW_eq {n : Nat} (hx : ∀ x ∈ l, wayOk n x = true) (i : Nat) (h : i < l.length) : (rd_T30 l (i : Int)).f1 = (bW l i : Int) ∧ (rd_T30 l (i : Int)).f0 = (aW l i : Int) ∧ bW l i < n ∧ aW l i < n := by
  have := (wayOk_iff n _).1 (hx _ (rd_T30_mem l i h))
  unfold bW aW
  omega
/-- Streets that agree with the list up to i are not gone. -/
theorem FsInv.agree {i : Nat} {X : Nat → Bool} {gone : Int → Bool} (h : FsInv n l p v i X gone) {g : Nat → Nat} (hg : IsB n (aW l) (bW l) (fun i => i < l.length) g) (ha : ∀ j, j < i → X j = useB n (bW l) g j) : IsB n (aW l) (bW l) (onT l gone) g := by
  refine hg.within fun c c0 c1 => ⟨(hg.on c c0 c1).1, ?_⟩
  have hb := (hg.on c c0 c1).2
  have hu : useB n (bW l) g (g c) = true := useB_iff.2 ⟨by omega, by omega, by rw [hb]⟩
  by_cases hlt : g c < i
  · exact (h.below _ hlt).1 ((ha _ hlt).trans hu)
  · cases hgo : gone ((g c : Nat) : Int) with
    | false => rfl
    | true =>
      obtain ⟨j, hj, hX, hbj⟩ := h.why (g c) (by omega) (hg.on c c0 c1).1 hgo
      have h2 := useB_iff.1 ((ha j hj).symm.trans hX)
      rw [← hbj, hb] at h2
      omega
theorem FsInv.skip {i : Nat} {X : Nat → Bool} {gone : Int → Bool} (h : FsInv n l p v i X gone) (hX : X i = false) (hno : ∀ g, IsB n (aW l) (bW l) (onT l gone) g → costF n p g = v → useB n (bW l) g i = false) :
    FsInv n l p v (i + 1) X (fun j => decide (j = (i : Int)) || gone j) := by
  refine ⟨?_, fun j hj => ?_, fun j hj hXj => ?_, fun q hq hql hgo => ?_, fun g hg hc => ?_⟩
  · obtain ⟨f, hf, hc⟩ := h.some
    refine ⟨f, hf.within fun c c0 c1 => ⟨(hf.on c c0 c1).1.1, ?_⟩, hc⟩
    dsimp only
    rw [(hf.on c c0 c1).1.2, Bool.or_false, decide_eq_false_iff_not]
    intro e
    have e2 : f c = i := by omega
    have := hno f hf hc
    have hu : useB n (bW l) f (f c) = true := useB_iff.2 ⟨by rw [(hf.on c c0 c1).2]; omega, by rw [(hf.on c c0 c1).2]; omega, by rw [(hf.on c c0 c1).2]⟩
    rw [e2, this] at hu
    exact absurd hu (by decide)
  · by_cases e : j = i
    · subst e; simp [hX]
    · rw [h.below j (by omega), decide_eq_false (by omega), Bool.false_or]
  · have hne : j ≠ i := by rintro rfl; rw [hX] at hXj; exact absurd hXj (by decide)
    obtain ⟨h1, h2⟩ := h.lone j (by omega) hXj
    exact ⟨h1, fun q hq hb hqj => by rw [h2 q hq hb hqj, Bool.or_true]⟩
  · rw [decide_eq_false (by omega), Bool.false_or] at hgo
    obtain ⟨j, hj, h2⟩ := h.why q (by omega) hql hgo
    exact ⟨j, by omega, h2⟩
  · rcases h.first g hg hc with ha | ⟨j, hj, h2⟩
    · refine .inl fun j hj => ?_
      by_cases e : j = i
      · subst e; rw [hX, hno g (h.agree hg ha) hc]
      · exact ha j (by omega)
    · exact .inr ⟨j, by omega, h2⟩
theorem FsInv.take {i : Nat} {X : Nat → Bool} {gone : Int → Bool} (h : FsInv n l p v i X gone) (hX : X i = false) (hb0 : 0 < bW l i) (hil : i < l.length) (more : Int → Bool) (hmore : ∀ q : Nat, q < l.length → (more (q : Int) = true ↔ bW l q = bW l i ∧ q ≠ i)) (hgi : gone (i : Int) = false)
    (hyes : ∃ g, IsB n (aW l) (bW l) (onT l (fun j => gone j || more j)) g ∧ costF n p g = v) (hfree : ∀ j, j < i → X j = true → bW l j ≠ bW l i) :
    FsInv n l p v (i + 1) (fun j => X j || decide (j = i)) (fun j => gone j || more j) := by
  refine ⟨hyes, fun j hj => ?_, fun j hj hXj => ?_, fun q hq hql hgo => ?_, fun g hg hc => ?_⟩
  · by_cases e : j = i
    · subst e
      rw [hgi, Bool.false_or]
      simp only [decide_true, Bool.or_true, true_iff]
      refine Bool.eq_false_iff.mpr fun hm => ?_
      exact ((hmore j hil).1 hm).2 rfl
    · rw [decide_eq_false e, Bool.or_false, h.below j (by omega), Bool.or_eq_false_iff]
      constructor
      · intro hgj
        refine ⟨hgj, Bool.eq_false_iff.mpr fun hm => ?_⟩
        have hXj := (h.below j (by omega)).2 hgj
        exact hfree j (by omega) hXj ((hmore j (by omega)).1 hm).1
      · exact fun hh => hh.1
  · by_cases e : j = i
    · subst e
      exact ⟨hb0, fun q hq hb hqj => by rw [(hmore q hq).2 ⟨hb, hqj⟩, Bool.or_true]⟩
    · rw [decide_eq_false e, Bool.or_false] at hXj
      obtain ⟨h1, h2⟩ := h.lone j (by omega) hXj
      exact ⟨h1, fun q hq hb hqj => by rw [h2 q hq hb hqj, Bool.true_or]⟩
  · rcases Bool.or_eq_true_iff.1 hgo with hgo | hgo
    · obtain ⟨j, hj, hXj, hb⟩ := h.why q (by omega) hql hgo
      exact ⟨j, by omega, by rw [hXj, Bool.true_or], hb⟩
    · exact ⟨i, by omega, by simp, ((hmore q hql).1 hgo).1⟩
  · rcases h.first g hg hc with ha | ⟨j, hj, hq, h2⟩
    · cases hu : useB n (bW l) g i with
      | true =>
        refine .inl fun j hj => ?_
        by_cases e : j = i
        · subst e; rw [hu]; simp
        · dsimp only; rw [decide_eq_false e, Bool.or_false]; exact ha j (by omega)
      | false =>
        refine .inr ⟨i, by omega, fun q hq => ?_, by simp, hu⟩
        dsimp only
        rw [decide_eq_false (by omega), Bool.or_false]; exact ha q hq
    · refine .inr ⟨j, by omega, fun q hq2 => ?_, by dsimp only; rw [h2.1, Bool.true_or], h2.2⟩
      dsimp only
      rw [decide_eq_false (by omega), Bool.or_false]; exact hq q hq2
/-- At the end. -/
theorem FsInv.last (hx : ∀ x ∈ l, wayOk n x = true) {X : Nat → Bool} {gone : Int → Bool} (h : FsInv n l p v l.length X gone) (hmin : ∀ g, IsB n (aW l) (bW l) (fun i => i < l.length) g → v ≤ costF n p g) : ∃ f, FirstB n l p v f ∧ ∀ j, j < l.length → useB n (bW l) f j = X j := by
  obtain ⟨f, hf, hc⟩ := h.some
  have hu : ∀ j, j < l.length → useB n (bW l) f j = X j := by
    intro j hj
    cases hX : X j with
    | true =>
      obtain ⟨h1, h2⟩ := h.lone j hj hX
      have hbn : bW l j < n := (bW_eq hx j hj).2.2.1
      obtain ⟨t, tb⟩ := hf.on (bW l j) h1 hbn
      refine useB_iff.2 ⟨h1, hbn, Classical.byContradiction fun hne => ?_⟩
      have := h2 _ t.1 tb hne
      rw [t.2] at this
      exact absurd this (by decide)
    | false =>
      refine Bool.eq_false_iff.mpr fun hu => ?_
      obtain ⟨u1, u2, u3⟩ := useB_iff.1 hu
      have := (hf.on _ u1 u2).1.2
      rw [u3] at this
      have := (h.below j hj).2 this
      rw [hX] at this
      exact absurd this (by decide)
  refine ⟨f, ⟨hf.mono fun i hi => hi.1, hc, hmin, fun g hg hgc => ?_⟩, hu⟩
  rcases h.first g hg hgc with ha | ⟨j, hj, hq, h1, h2⟩
  · exact .inl fun j hj => (hu j hj).trans (ha j hj)
  · exact .inr ⟨j, hj, fun q hqj => (hu q (by omega)).trans (hq q hqj), (hu j hj).trans h1, h2⟩
theorem first_loop (hn1 : 1 ≤ n) (hn : n ≤ 7) (hl : l.length ≤ 30) (hx : ∀ x ∈ l, wayOk n x = true) (price : List Int) (hpl : price.length = l.length) (hp : ∀ i : Nat, i < l.length → 0 ≤ rd price (i : Int) ∧ rd price (i : Int) ≤ 1000)
    (hmin : ∀ g, IsB n (aW l) (bW l) (fun i => i < l.length) g → v ≤ costF n (fun i => rd price (i : Int)) g) :
    ∀ (c i : Nat) (X : Nat → Bool) (gone : Int → Bool), i + c = l.length → FsInv n l (fun i => rd price (i : Int)) v i X gone → (∀ j, i ≤ j → X j = false) →
    ∃ f, FirstB n l (fun i => rd price (i : Int)) v f ∧ ∀ k, 3000 ≤ k → firstL k (n : Int) l price v c i (selL X i) gone = some (selL (useB n (bW l) f) l.length, v, 0)
  | 0, i, X, gone, h, hI, _ => by
    obtain rfl : i = l.length := by omega
    obtain ⟨f, hf, hu⟩ := hI.last hx hmin
    exact ⟨f, hf, fun k _ => by rw [firstL, selL_congr l.length hu]⟩
  | c + 1, i, X, gone, h, hI, hX => by
    have hi : i < l.length := by omega
    obtain ⟨e1, _, hbn, _⟩ := bW_eq hx i hi
    have hXi := hX i (Nat.le_refl _)
    have hlen := selL_length X i
    have hnat := selL_nat X i
    obtain ⟨sk, hsk, hskiff⟩ := contains_f (selL X i) (fun j => branch_town_first_2.f j (n : Int) l (bW l i : Int)) (fun j => (rd_T30 l j).f1 == (bW l i : Int)) (fun x hxm => by
      obtain ⟨j, rfl, hj, _⟩ := hnat x hxm
      unfold branch_town_first_2.f
      rw [if_pos (by omega), if_pos (by omega)]) (by omega)
    by_cases hskip : bW l i = 0 ∨ sk = true
    · have hno : ∀ g, IsB n (aW l) (bW l) (onT l gone) g → costF n (fun i => rd price (i : Int)) g = v → useB n (bW l) g i = false := by
        intro g hg _
        refine Bool.eq_false_iff.mpr fun hu => ?_
        obtain ⟨u1, u2, u3⟩ := useB_iff.1 hu
        rcases hskip with h0 | hs
        · omega
        · obtain ⟨x, hxm, hP⟩ := hskiff.1 hs
          obtain ⟨j, rfl, hj, hXj⟩ := hnat x hxm
          have hbj : bW l j = bW l i := by
            have := beq_iff_eq.mp hP
            rw [(bW_eq hx j (by omega)).1] at this
            omega
          have := (hI.lone j hj hXj).2 i hi hbj.symm (by omega)
          have h3 := (hg.on _ u1 u2).1.2
          rw [u3, this] at h3
          exact absurd h3 (by decide)
      obtain ⟨f, hf, hk⟩ := first_loop hn1 hn hl hx price hpl hp hmin c (i + 1) X _ (by omega) (hI.skip hXi hno) (fun j hj => hX j (by omega))
      refine ⟨f, hf, fun k hk3 => ?_⟩
      have := hk k hk3
      rw [selL_succ, if_neg (by rw [hXi]; decide)] at this
      rw [firstL, e1]
      rcases hskip with h0 | hs
      · rw [if_pos (by omega), Option.bind_some, if_pos rfl]
        exact this
      · by_cases h0 : bW l i = 0
        · rw [if_pos (by omega), Option.bind_some, if_pos rfl]
          exact this
        · rw [if_neg (by omega), hsk k (by omega), Option.bind_some, if_pos hs]
          exact this
    · have hb0 : 0 < bW l i := by omega
      have hs0 : sk = false := Bool.eq_false_iff.mpr fun h => hskip (.inr h)
      have hfree : ∀ j, j < i → X j = true → bW l j ≠ bW l i := by
        intro j hj hXj e
        have : sk = true := hskiff.2 ⟨(j : Int), (selL_mem X i j).2 ⟨hj, hXj⟩, by rw [(bW_eq hx j (by omega)).1, e]; exact beq_self_eq_true _⟩
        rw [hs0] at this
        exact absurd this (by decide)
      have hgi : gone (i : Int) = false := by
        refine Bool.eq_false_iff.mpr fun hg => ?_
        obtain ⟨j, hj, hXj, hb⟩ := hI.why i (Nat.le_refl _) hi hg
        exact hfree j hj hXj hb.symm
      have hmore : ∀ q : Nat, q < l.length → (moreL (i : Int) (toB l l.length (bW l i : Int)) (q : Int) = true ↔ bW l q = bW l i ∧ q ≠ i) := by
        intro q hq
        unfold moreL
        rw [Bool.and_eq_true, decide_eq_true_eq, decide_eq_true_eq, mem_toB, (bW_eq hx q hq).1]
        constructor
        · rintro ⟨⟨_, h1⟩, h2⟩; exact ⟨by omega, by omega⟩
        · rintro ⟨h1, h2⟩; exact ⟨⟨hq, by omega⟩, by omega⟩
      obtain ⟨r, hr1, hr2⟩ := cheapest_spec hn1 hn hl hx (fun j => some (gone j || moreL (i : Int) (toB l l.length (bW l i : Int)) j)) (fun j => gone j || moreL (i : Int) (toB l l.length (bW l i : Int)) j) (fun _ _ => rfl) price hpl hp
      have hstep : ∀ k, 3000 ≤ k → firstL k (n : Int) l price v (c + 1) i (selL X i) gone = if (r.2.2 && (r.1 == v)) = true then firstL k n l price v c (i + 1) (selL X i ++ [(i : Int)]) (fun j => gone j || moreL (i : Int) (toB l l.length (bW l i : Int)) j) else firstL k n l price v c (i + 1) (selL X i) (fun j => decide (j = (i : Int)) || gone j) := by
        intro k hk
        rw [firstL, e1, if_neg (by omega), hsk k (by omega), Option.bind_some, hs0, if_neg (by decide), hr1 k hk, Option.bind_some]
        by_cases hy : (r.2.2 && (r.1 == v)) = true
        · rw [if_pos hy, if_pos (by omega), if_pos hy]
        · rw [if_neg hy, if_neg hy]
      by_cases hyes : (r.2.2 && (r.1 == v)) = true
      · rcases hr2 with ⟨_, hopt, _⟩ | ⟨e, _⟩
        · have hv : r.1 = v := beq_iff_eq.mp (Bool.and_eq_true _ _ |>.mp hyes).2
          obtain ⟨⟨g, hg, hgc⟩, _⟩ := hopt
          obtain ⟨f, hf, hk⟩ := first_loop hn1 hn hl hx price hpl hp hmin c (i + 1) (fun j => X j || decide (j = i)) _ (by omega) (hI.take hXi hb0 hi _ hmore hgi ⟨g, hg, hgc.trans hv⟩ hfree) (fun j hj => by rw [hX j (by omega), decide_eq_false (by omega)]; rfl)
          refine ⟨f, hf, fun k hk3 => ?_⟩
          have := hk k hk3
          rw [selL_succ, if_pos (by simp), selL_congr (Y := X) i (fun j hj => by rw [decide_eq_false (by omega), Bool.or_false])] at this
          rw [hstep k hk3, if_pos hyes]
          exact this
        · rw [e] at hyes
          exact absurd hyes (by simp)
      · have hno : ∀ g, IsB n (aW l) (bW l) (onT l gone) g → costF n (fun i => rd price (i : Int)) g = v → useB n (bW l) g i = false := by
          intro g hg hgc
          refine Bool.eq_false_iff.mpr fun hu => ?_
          obtain ⟨u1, u2, u3⟩ := useB_iff.1 hu
          have hg2 : IsB n (aW l) (bW l) (onT l (fun j => gone j || moreL (i : Int) (toB l l.length (bW l i : Int)) j)) g := hg.within fun c c0 c1 => by
            obtain ⟨t, tb⟩ := hg.on c c0 c1
            refine ⟨t.1, ?_⟩
            dsimp only
            rw [t.2, Bool.false_or]
            refine Bool.eq_false_iff.mpr fun hm => ?_
            obtain ⟨m1, m2⟩ := (hmore _ t.1).1 hm
            rw [tb] at m1
            rw [m1, u3] at m2
            exact m2 rfl
          rcases hr2 with ⟨h1, ⟨⟨g', hg', hgc'⟩, hlow⟩, _⟩ | ⟨_, hnone⟩
          · have h2 := hlow g hg2
            have h3 := hmin g' (hg'.mono fun i hi => hi.1)
            have : r.1 = v := by omega
            exact hyes (by rw [h1, this]; simp)
          · exact hnone g hg2
        obtain ⟨f, hf, hk⟩ := first_loop hn1 hn hl hx price hpl hp hmin c (i + 1) X _ (by omega) (hI.skip hXi hno) (fun j hj => hX j (by omega))
        refine ⟨f, hf, fun k hk3 => ?_⟩
        have := hk k hk3
        rw [selL_succ, if_neg (by rw [hXi]; decide)] at this
        rw [hstep k hk3, if_neg hyes]
        exact this
/-- first's answer. -/
theorem first_spec (hn1 : 1 ≤ n) (hn : n ≤ 7) (hl : l.length ≤ 30) (hx : ∀ x ∈ l, wayOk n x = true) (price : List Int) (hpl : price.length = l.length) (hp : ∀ i : Nat, i < l.length → 0 ≤ rd price (i : Int) ∧ rd price (i : Int) ≤ 1000) :
    (∃ f v, FirstB n l (fun i => rd price (i : Int)) v f ∧ ∀ k, 3000 ≤ k → branch_town_first.f k (n : Int) l price = some (selL (useB n (bW l) f) l.length, v, 0)) ∨
    ((∀ f, ¬ IsB n (aW l) (bW l) (fun i => i < l.length) f) ∧ ∀ k, 3000 ≤ k → branch_town_first.f k (n : Int) l price = some ([], 0, 10)) := by
  have hon : ∀ i, onT l (fun _ => false) i ↔ i < l.length := fun i => ⟨fun h => h.1, fun h => ⟨h, rfl⟩⟩
  obtain ⟨r, hr1, hr2⟩ := cheapest_spec hn1 hn hl hx (fun i => branch_town_first_1.f i) (fun _ => false) (fun _ _ => rfl) price hpl hp
  have hstep : ∀ k, 3000 ≤ k → branch_town_first.f k (n : Int) l price = if r.2.2 = true then firstL k (n : Int) l price r.1 l.length 0 [] (fun _ => false) else some ([], 0, 10) := by
    intro k hk
    unfold branch_town_first.f
    rw [if_pos (by omega), hr1 k hk, Option.bind_some]
  rcases hr2 with ⟨h1, ⟨⟨g, hg, hgc⟩, hlow⟩, _⟩ | ⟨e, hnone⟩
  · left
    have hmin : ∀ g, IsB n (aW l) (bW l) (fun i => i < l.length) g → r.1 ≤ costF n (fun i => rd price (i : Int)) g := fun g hg => hlow g (hg.mono fun i hi => (hon i).2 hi)
    obtain ⟨f, hf, hk⟩ := first_loop (v := r.1) hn1 hn hl hx price hpl hp hmin l.length 0 (fun _ => false) (fun _ => false) (by omega)
      ⟨⟨g, hg, hgc⟩, fun j hj => absurd hj (by omega), fun j hj => absurd hj (by omega), fun q _ _ h => absurd h (by decide), fun g _ _ => .inl fun j hj => absurd hj (by omega)⟩ (fun _ _ => rfl)
    refine ⟨f, r.1, hf, fun k hk3 => ?_⟩
    rw [hstep k hk3, if_pos h1]
    exact hk k hk3
  · right
    refine ⟨fun f hf => hnone f (hf.mono fun i hi => (hon i).2 hi), fun k hk => ?_⟩
    rw [hstep k hk, e]
    rfl
end
end Go.Proofs.Ytpmadffgdfholaa.B
namespace Go.Proofs.Ytpmadffgdfholaa.B
set_option linter.unusedVariables false
open Go.RowKit Go.Proofs.YtpmadffgdfholaaW.PrintWords Go.Proofs.YtpmadffgdfholaaW.PrintLast Go.Proofs.YtpmadffgdfholaaW.PrintMore
def costW (l : List S30) (i : Nat) : Int := (rd_T30 l (i : Int)).f2
theorem sumZ_swap (g : Nat → Nat → Int) (n : Nat) : ∀ m, sumZ (fun i => sumZ (g i) n) m = sumZ (fun c => sumZ (fun i => g i c) m) n
  | 0 => (sumZ_zero n).symm
  | m + 1 => by
    simp only [sumZ]
    rw [sumZ_swap g n m, ← sumZ_add]
theorem sumZ_pick (x : Int) (t : Nat) : ∀ m, sumZ (fun i => if i = t then x else 0) m = if t < m then x else 0
  | 0 => by simp [sumZ]
  | m + 1 => by
    simp only [sumZ]
    rw [sumZ_pick x t m]
    by_cases h1 : t < m
    · rw [if_pos h1, if_neg (by omega), if_pos (by omega)]; omega
    · by_cases h2 : m = t
      · rw [if_neg h1, if_pos h2, if_pos (by omega)]; omega
      · rw [if_neg h1, if_neg h2, if_neg (by omega)]; rfl
section
variable {n : Nat} {l : List S30} {f : Nat → Nat}
/-- What is summed over the streets of a branching is summed over its corners. -/
theorem sum_used (b : Nat → Nat) (m : Nat) (hf : ∀ c, 0 < c → c < n → f c < m ∧ b (f c) = c) (p : Nat → Int) : sumZ (fun j => if useB n b f j = true then p j else 0) m = costF n p f := by
  have h1 : ∀ j, j < m → (if useB n b f j = true then p j else 0) = sumZ (fun c => if c = 0 then 0 else if j = f c then p j else 0) n := by
    intro j hj
    by_cases hu : useB n b f j = true
    · obtain ⟨u1, u2, u3⟩ := useB_iff.1 hu
      rw [if_pos hu]
      have : sumZ (fun c => if c = 0 then 0 else if j = f c then p j else 0) n = sumZ (fun c => if c = b j then p j else 0) n := by
        refine sumZ_congr n fun c hc => ?_
        by_cases e : c = b j
        · subst e; rw [if_neg (by omega), if_pos u3.symm, if_pos rfl]
        · rw [if_neg e]
          by_cases h0 : c = 0
          · rw [if_pos h0]
          · rw [if_neg h0, if_neg]
            intro h
            have := (hf c (by omega) hc).2
            rw [← h] at this
            exact e this.symm
      rw [this, sumZ_pick, if_pos u2]
    · rw [if_neg hu]
      refine ((sumZ_congr n fun c hc => ?_).trans (sumZ_zero n)).symm
      by_cases h0 : c = 0
      · rw [if_pos h0]
      · rw [if_neg h0, if_neg]
        intro h
        have h2 := (hf c (by omega) hc).2
        rw [← h] at h2
        exact hu (useB_iff.2 ⟨by omega, by omega, by rw [h2, h]⟩)
  rw [sumZ_congr m h1, sumZ_swap (fun j c => if c = 0 then 0 else if j = f c then p j else 0) n m]
  unfold costF
  refine sumZ_congr n fun c hc => ?_
  by_cases h0 : c = 0
  · rw [if_pos h0]
    refine (sumZ_congr m fun i _ => ?_).trans (sumZ_zero m)
    rw [if_pos h0]
  · rw [if_neg h0]
    have : sumZ (fun i => if c = 0 then 0 else if i = f c then p i else 0) m = sumZ (fun i => if i = f c then p (f c) else 0) m := by
      refine sumZ_congr m fun i _ => ?_
      rw [if_neg h0]
      by_cases e : i = f c
      · rw [if_pos e, if_pos e, e]
      · rw [if_neg e, if_neg e]
    rw [this, sumZ_pick, if_pos (hf c (by omega) hc).1]
theorem selL_count (X : Nat → Bool) : ∀ m, ((selL X m).length : Int) = sumZ (fun j => if X j = true then 1 else 0) m
  | 0 => rfl
  | m + 1 => by
    simp only [sumZ]
    rw [selL_succ, ← selL_count X m]
    split
    · rw [List.length_append, List.length_singleton]; omega
    · omega
theorem costF_one (n : Nat) (f : Nat → Nat) : ∀ m, m ≤ n → 1 ≤ m → sumZ (fun c => if c = 0 then 0 else (fun _ => (1 : Int)) (f c)) m = (m : Int) - 1
  | 0, _, h => absurd h (by decide)
  | 1, _, _ => rfl
  | m + 2, h, _ => by
    have ih := costF_one n f (m + 1) (by omega) (by omega)
    rw [sumZ, ih, if_neg (by omega)]
    dsimp only
    omega
theorem IsB.selLen (hn : 1 ≤ n) (hf : IsB n (aW l) (bW l) (fun i => i < l.length) f) : (selL (useB n (bW l) f) l.length).length = n - 1 := by
  have h1 := selL_count (useB n (bW l) f) l.length
  rw [sum_used (n := n) (f := f) (bW l) l.length hf.on (fun _ => 1)] at h1
  unfold costF at h1
  rw [costF_one n f n (Nat.le_refl _) hn] at h1
  omega
theorem asc_ext : ∀ (L M : List Int), L.Pairwise (· < ·) → M.Pairwise (· < ·) → (∀ x, x ∈ L ↔ x ∈ M) → L = M
  | [], [], _, _, _ => rfl
  | [], y :: M, _, _, h => absurd ((h y).2 List.mem_cons_self) (by simp)
  | x :: L, [], _, _, h => absurd ((h x).1 List.mem_cons_self) (by simp)
  | x :: L, y :: M, h1, h2, h => by
    rw [List.pairwise_cons] at h1 h2
    have hxy : x = y := by
      have a := (h x).1 List.mem_cons_self
      have b := (h y).2 List.mem_cons_self
      rcases List.mem_cons.1 a with a | a
      · exact a
      · rcases List.mem_cons.1 b with b | b
        · exact b.symm
        · have := h2.1 x a; have := h1.1 y b; omega
    subst hxy
    rw [asc_ext L M h1.2 h2.2 fun z => ?_]
    constructor
    · intro hz
      rcases List.mem_cons.1 ((h z).1 (List.mem_cons_of_mem _ hz)) with e | e
      · subst e; have := h1.1 z hz; omega
      · exact e
    · intro hz
      rcases List.mem_cons.1 ((h z).2 (List.mem_cons_of_mem _ hz)) with e | e
      · subst e; have := h2.1 z hz; omega
      · exact e
theorem selL_asc (X : Nat → Bool) : ∀ m, (selL X m).Pairwise (· < ·)
  | 0 => List.Pairwise.nil
  | m + 1 => by
    rw [selL_succ]
    split
    · rw [List.pairwise_append]
      refine ⟨selL_asc X m, List.pairwise_singleton _ _, fun a ha b hb => ?_⟩
      obtain ⟨j, rfl, hj, _⟩ := selL_nat X m a ha
      rw [List.mem_singleton] at hb
      omega
    · exact selL_asc X m
structure PreOk (l : List S30) (L : List Int) (q : Nat) : Prop where
  rng : ∀ j : Nat, j < q → 0 ≤ rd L (j : Int) ∧ rd L (j : Int) < (l.length : Int)
  asc : ∀ j : Nat, j + 1 < q → rd L (j : Int) < rd L ((j + 1 : Nat) : Int)
  far : ∀ i j : Nat, i < j → j < q → bW l (rd L (i : Int)).toNat ≠ bW l (rd L (j : Int)).toNat
  pos : ∀ j : Nat, j < q → bW l (rd L (j : Int)).toNat ≠ 0
theorem PreOk.le {L : List Int} {q r : Nat} (h : PreOk l L q) (hr : r ≤ q) : PreOk l L r :=
  ⟨fun j hj => h.rng j (by omega), fun j hj => h.asc j (by omega), fun i j hi hj => h.far i j hi (by omega), fun j hj => h.pos j (by omega)⟩
def metN (l : List S30) (L : List Int) : Nat → Nat
  | 0 => 1
  | q + 1 => metN l L q ||| 1 <<< bW l (rd L (q : Int)).toNat
def costN (l : List S30) (L : List Int) : Nat → Int
  | 0 => 0
  | q + 1 => costN l L q + costW l (rd L (q : Int)).toNat
theorem metN_bit (l : List S30) (L : List Int) (c : Nat) : ∀ q, (metN l L q).testBit c = true ↔ c = 0 ∨ ∃ j, j < q ∧ bW l (rd L (j : Int)).toNat = c
  | 0 => by
    rw [metN, show (1 : Nat) = 1 <<< 0 from rfl, tb_one, decide_eq_true_eq]
    exact ⟨.inl, fun h => h.resolve_right (fun ⟨j, hj, _⟩ => by omega)⟩
  | q + 1 => by
    rw [metN, tb_or, Bool.or_eq_true, metN_bit l L c q, decide_eq_true_eq]
    constructor
    · rintro ((h | ⟨j, hj, h⟩) | h)
      · exact .inl h
      · exact .inr ⟨j, by omega, h⟩
      · exact .inr ⟨q, by omega, h.symm⟩
    · rintro (h | ⟨j, hj, h⟩)
      · exact .inl (.inl h)
      · by_cases e : j = q
        · subst e; exact .inr h.symm
        · exact .inl (.inr ⟨j, by omega, h⟩)
theorem costN_bound (hx : ∀ x ∈ l, wayOk n x = true) {L : List Int} : ∀ q, PreOk l L q → 0 ≤ costN l L q ∧ costN l L q ≤ 1000 * q
  | 0, _ => by simp [costN]
  | q + 1, h => by
    have ih := costN_bound hx q (h.le (by omega))
    have hr := h.rng q (by omega)
    have hw := (wayOk_iff n _).1 (hx _ (rd_T30_mem l (rd L (q : Int)).toNat (by omega)))
    simp only [costN, costW]
    omega
/-- What stops at street q. -/
theorem PreOk.next {L : List Int} {q : Nat} (h : PreOk l L q) (h0 : 0 ≤ rd L (q : Int)) (h1 : rd L (q : Int) < (l.length : Int)) (h2 : 0 < q → rd L ((q - 1 : Nat) : Int) < rd L (q : Int)) (h3 : (metN l L q).testBit (bW l (rd L (q : Int)).toNat) = false) : PreOk l L (q + 1) := by
  have hm : ¬ (bW l (rd L (q : Int)).toNat = 0 ∨ ∃ j, j < q ∧ bW l (rd L (j : Int)).toNat = bW l (rd L (q : Int)).toNat) := fun hh => by
    rw [(metN_bit l L _ q).2 hh] at h3; exact absurd h3 (by decide)
  refine ⟨fun j hj => ?_, fun j hj => ?_, fun i j hi hj => ?_, fun j hj => ?_⟩
  · by_cases e : j = q
    · subst e; exact ⟨h0, h1⟩
    · exact h.rng j (by omega)
  · by_cases e : j + 1 = q
    · have := h2 (by omega)
      rw [show q - 1 = j by omega] at this
      rw [e]; exact this
    · exact h.asc j (by omega)
  · by_cases e : j = q
    · subst e; exact fun hh => hm (.inr ⟨i, hi, hh⟩)
    · exact h.far i j hi (by omega)
  · by_cases e : j = q
    · subst e; exact fun hh => hm (.inl hh)
    · exact h.pos j (by omega)
end
end Go.Proofs.Ytpmadffgdfholaa.B
namespace Go.Proofs.Ytpmadffgdfholaa.B
set_option linter.unusedVariables false
open Go.RowKit Go.Proofs.YtpmadffgdfholaaW.PrintWords Go.Proofs.YtpmadffgdfholaaW.PrintLast Go.Proofs.YtpmadffgdfholaaW.PrintMore
section
variable {n : Nat} {l : List S30} {f : Nat → Nat}
/-- The list of the streets of a branching. -/
def listB (n : Nat) (l : List S30) (f : Nat → Nat) : List Int := selL (useB n (bW l) f) l.length
abbrev BrB (n : Nat) (l : List S30) (f : Nat → Nat) : Prop := IsB n (aW l) (bW l) (fun i => i < l.length) f
theorem rd_get (L : List Int) (j : Nat) (h : j < L.length) : rd L (j : Int) = L[j] := by
  simp [rd, List.getD, List.getElem?_eq_getElem h]
theorem mem_rd (L : List Int) (x : Int) : x ∈ L ↔ ∃ j : Nat, j < L.length ∧ rd L (j : Int) = x := by
  constructor
  · intro h
    obtain ⟨j, hj, e⟩ := List.mem_iff_getElem.1 h
    exact ⟨j, hj, (rd_get L j hj).trans e⟩
  · rintro ⟨j, hj, e⟩
    rw [rd_get L j hj] at e
    exact e ▸ List.getElem_mem hj
theorem asc_pair (L : List Int) : (∀ j : Nat, j + 1 < L.length → rd L (j : Int) < rd L ((j + 1 : Nat) : Int)) ↔ L.Pairwise (· < ·) := by
  rw [List.pairwise_iff_getElem]
  constructor
  · intro h i j hi hj hij
    have key : ∀ d, i + 1 + d < L.length → rd L (i : Int) < rd L ((i + 1 + d : Nat) : Int) := by
      intro d
      induction d with
      | zero => exact fun h2 => h i h2
      | succ d ih => exact fun h2 => Int.lt_trans (ih (by omega)) (h (i + 1 + d) h2)
    have := key (j - i - 1) (by omega)
    rw [show i + 1 + (j - i - 1) = j by omega, rd_get L i hi, rd_get L j hj] at this
    exact this
  · intro h j hj
    rw [rd_get L j (by omega), rd_get L (j + 1) hj]
    exact h j (j + 1) (by omega) hj (by omega)
structure Full (n : Nat) (l : List S30) (L : List Int) : Prop where
  len : L.length = n - 1
  pre : PreOk l L L.length
  all : ∀ c, c < n → Rc (aW l) (bW l) (fun i => (i : Int) ∈ L) 0 c
theorem full_iff (hn1 : 1 ≤ n) (hn : n ≤ 7) (hx : ∀ x ∈ l, wayOk n x = true) (L : List Int) : Full n l L ↔ ∃ f, BrB n l f ∧ L = listB n l f := by
  constructor
  · intro hF
    have hnat : ∀ x ∈ L, ∃ i : Nat, x = (i : Int) ∧ i < l.length ∧ bW l i ≠ 0 := by
      intro x hxL
      obtain ⟨j, hj, e⟩ := (mem_rd L x).1 hxL
      have h1 := hF.pre.rng j hj
      have h2 := hF.pre.pos j hj
      rw [e] at h1 h2
      exact ⟨x.toNat, by omega, by omega, h2⟩
    have hone : ∀ i j : Nat, (i : Int) ∈ L → (j : Int) ∈ L → bW l i = bW l j → i = j := by
      intro i j hi hj hb
      obtain ⟨p, hp, e1⟩ := (mem_rd L i).1 hi
      obtain ⟨q, hq, e2⟩ := (mem_rd L j).1 hj
      rcases Nat.lt_trichotomy p q with h | h | h
      · have := hF.pre.far p q h hq
        rw [e1, e2] at this
        exact absurd hb this
      · subst h; omega
      · have := hF.pre.far q p h hp
        rw [e1, e2] at this
        exact absurd hb.symm this
    have hex : ∀ c, ∃ i : Nat, 0 < c → c < n → (i : Int) ∈ L ∧ bW l i = c := by
      intro c
      by_cases hc : 0 < c ∧ c < n
      · have hr := hF.all c hc.2
        generalize hz : (0 : Nat) = z at hr
        cases hr with
        | refl => omega
        | @step i t _ => exact ⟨i, fun _ _ => ⟨t, rfl⟩⟩
      · exact ⟨0, fun h1 h2 => absurd ⟨h1, h2⟩ hc⟩
    obtain ⟨f, hf⟩ : ∃ f : Nat → Nat, ∀ c, 0 < c → c < n → (f c : Int) ∈ L ∧ bW l (f c) = c := ⟨fun c => Classical.choose (hex c), fun c => Classical.choose_spec (hex c)⟩
    have hlt : ∀ i : Nat, (i : Int) ∈ L → i < l.length ∧ bW l i ≠ 0 := by
      intro i hi
      obtain ⟨j, e, h1, h2⟩ := hnat _ hi
      obtain rfl : i = j := by omega
      exact ⟨h1, h2⟩
    have hmem : ∀ i : Nat, (i : Int) ∈ L ↔ i < l.length ∧ useB n (bW l) f i = true := by
      intro i
      constructor
      · intro hi
        obtain ⟨h1, h2⟩ := hlt i hi
        have hb := (bW_eq hx i h1).2.2.1
        obtain ⟨g1, g2⟩ := hf (bW l i) (by omega) hb
        exact ⟨h1, useB_iff.2 ⟨by omega, hb, hone _ _ g1 hi g2⟩⟩
      · rintro ⟨h1, h2⟩
        obtain ⟨u1, u2, u3⟩ := useB_iff.1 h2
        have := (hf (bW l i) u1 u2).1
        rwa [u3] at this
    refine ⟨f, ⟨fun c c0 c1 => ⟨(hlt _ (hf c c0 c1).1).1, (hf c c0 c1).2⟩, fun c hc => (hF.all c hc).mono fun i hi => ?_⟩, ?_⟩
    · obtain ⟨h1, h2⟩ := (hmem i).1 hi
      obtain ⟨u1, u2, u3⟩ := useB_iff.1 h2
      exact ⟨bW l i, u1, u2, u3.symm⟩
    · refine asc_ext L _ ((asc_pair L).1 hF.pre.asc) (selL_asc _ _) fun x => ?_
      constructor
      · intro hxL
        obtain ⟨i, rfl, _⟩ := hnat x hxL
        exact (selL_mem _ _ _).2 ((hmem i).1 hxL)
      · intro hxS
        obtain ⟨i, rfl, h1, h2⟩ := selL_nat _ _ x hxS
        exact (hmem i).2 ⟨h1, h2⟩
  · rintro ⟨f, hf, rfl⟩
    have hnat : ∀ j : Nat, j < (listB n l f).length → ∃ i : Nat, rd (listB n l f) (j : Int) = (i : Int) ∧ i < l.length ∧ useB n (bW l) f i = true := by
      intro j hj
      exact selL_nat _ _ _ ((mem_rd _ _).2 ⟨j, hj, rfl⟩)
    have hasc := (asc_pair (listB n l f)).2 (selL_asc _ _)
    refine ⟨hf.selLen hn1, ⟨fun j hj => ?_, hasc, fun i j hij hj => ?_, fun j hj => ?_⟩, fun c hc => (hf.all c hc).mono ?_⟩
    · obtain ⟨i, e, h1, _⟩ := hnat j hj
      rw [e]; omega
    · obtain ⟨x, e1, _, u1⟩ := hnat i (by omega)
      obtain ⟨y, e2, _, u2⟩ := hnat j hj
      have hp := List.pairwise_iff_getElem.1 (selL_asc (useB n (bW l) f) l.length) i j (by exact (by omega : i < (listB n l f).length)) hj hij
      have hlt : rd (listB n l f) (i : Int) < rd (listB n l f) (j : Int) := by
        rw [rd_get _ i (by omega), rd_get _ j hj]; exact hp
      rw [e1, e2] at hlt ⊢
      rw [Int.toNat_natCast, Int.toNat_natCast]
      intro hb
      have h1 := (useB_iff.1 u1).2.2
      have h2 := (useB_iff.1 u2).2.2
      rw [hb, h2] at h1
      omega
    · obtain ⟨i, e, _, u⟩ := hnat j hj
      rw [e, Int.toNat_natCast]
      have := (useB_iff.1 u).1
      omega
    · rintro i ⟨c, c0, c1, rfl⟩
      obtain ⟨t, tb⟩ := hf.on c c0 c1
      exact (selL_mem _ _ _).2 ⟨t, useB_iff.2 ⟨by omega, by omega, by rw [tb]⟩⟩
theorem costN_app (l : List S30) (L M : List Int) : ∀ q, q ≤ L.length → costN l (L ++ M) q = costN l L q
  | 0, _ => rfl
  | q + 1, h => by
    simp only [costN]
    rw [costN_app l L M q (by omega)]
    have : rd (L ++ M) (q : Int) = rd L (q : Int) := by
      simp only [rd, Int.toNat_natCast, List.getD]
      rw [List.getElem?_append_left (by omega)]
    rw [this]
theorem costN_sel (l : List S30) (X : Nat → Bool) : ∀ m, costN l (selL X m) (selL X m).length = sumZ (fun j => if X j = true then costW l j else 0) m
  | 0 => rfl
  | m + 1 => by
    simp only [sumZ]
    rw [selL_succ, ← costN_sel l X m]
    split
    · rw [List.length_append, List.length_singleton]
      simp only [costN]
      rw [costN_app l _ _ _ (Nat.le_refl _)]
      have : rd (selL X m ++ [(m : Int)]) ((selL X m).length : Int) = (m : Int) := by
        simp [rd, List.getD]
      rw [this, Int.toNat_natCast]
    · omega
theorem costN_list (hf : BrB n l f) : costN l (listB n l f) (listB n l f).length = costF n (costW l) f := by
  unfold listB
  rw [costN_sel, sum_used (bW l) l.length hf.on]
theorem reach_ref (hn1 : 1 ≤ n) (hn : n ≤ 7) {L : List Int} (hL : InL n l L) (hl : L.length ≤ 60) (k : Nat) (hk : 600 ≤ k) : trishawref03_reached.f k l L = some ((itS l L n 1 : Nat) : Int) := by
  have h1 : (1 : Nat) < 2 ^ n := Nat.one_lt_two_pow (by omega)
  have hb : (L.length + 2) * (n + 1) ≤ 62 * 8 := Nat.mul_le_mul (by omega) (by omega)
  have := reached_l0 hn hL (by omega) n (k - (L.length + 2) * (n + 1) - 1) 1 h1 (by omega)
  rw [show k - (L.length + 2) * (n + 1) - 1 + (L.length + 2) * (n + 1) + 1 = k from by omega] at this
  exact this
theorem all_reached (hn1 : 1 ≤ n) (hn : n ≤ 7) {L : List Int} (hL : InL n l L) : ((itS l L n 1 : Nat) : Int) = 2 ^ n - 1 ↔ ∀ c, c < n → Rc (aW l) (bW l) (fun i => (i : Int) ∈ L) 0 c := by
  have hlt : itS l L n 1 < 2 ^ n := it_lt hn hL n 1 (Nat.one_lt_two_pow (by omega))
  have hp : 1 ≤ 2 ^ n := Nat.one_le_two_pow
  have hiff : ∀ c, (itS l L n 1).testBit c = true ↔ Rc (aW l) (bW l) (fun i => (i : Int) ∈ L) 0 c := fun c => closure_iff (d := 0) hn hL (by omega)
  have h2 : ((2 : Int) ^ n) = ((2 ^ n : Nat) : Int) := by norm_cast
  rw [h2]
  constructor
  · intro e c hc
    have e2 : itS l L n 1 = 2 ^ n - 1 := by omega
    rw [← hiff, e2, Nat.testBit_two_pow_sub_one]
    exact decide_eq_true hc
  · intro h
    have : itS l L n 1 = 2 ^ n - 1 := by
      refine Nat.eq_of_testBit_eq fun c => ?_
      rw [Nat.testBit_two_pow_sub_one]
      by_cases hc : c < n
      · rw [(hiff c).2 (h c hc), decide_eq_true hc]
      · rw [decide_eq_false hc]
        exact Nat.testBit_lt_two_pow (Nat.lt_of_lt_of_le hlt (Nat.pow_le_pow_right (by decide) (by omega)))
    omega
theorem everyone_ref (hn : n ≤ 7) : wrap64 ((shl .i64 1 (n : Int)) - 1) = (2 : Int) ^ n - 1 := by
  have e1 := fin_shl ⟨n, by omega⟩
  simp only [] at e1
  have hp : 2 ^ n ≤ 2 ^ 7 := Nat.pow_le_pow_right (by decide) hn
  have hp1 : 1 ≤ 2 ^ n := Nat.one_le_two_pow
  have h2 : ((2 : Int) ^ n) = ((2 ^ n : Nat) : Int) := by norm_cast
  rw [e1, h2]
  generalize 2 ^ n = p at hp hp1
  unfold wrap64; omega
theorem cost_ref (hx : ∀ x ∈ l, wayOk n x = true) {L : List Int} (hl : L.length ≤ 60) (hP : PreOk l L L.length) : ∀ (d q k : Nat), q + d = L.length → trishawref03_cost.l0 (k + d + 1) l L (costN l L q) (q : Int) = some (costN l L L.length)
  | 0, q, k, h => by
    obtain rfl : q = L.length := by omega
    rw [show k + 0 + 1 = k + 1 from rfl, trishawref03_cost.l0, if_neg (by omega)]
  | d + 1, q, k, h => by
    have hq : q < L.length := by omega
    have hw := wrap_nat q (by omega)
    have ih := cost_ref hx hl hP d (q + 1) k (by omega)
    have h1 := hP.rng q hq
    have hcb := costN_bound hx q (hP.le (by omega))
    have hwy := (wayOk_iff (n : Int) _).1 (hx _ (rd_T30_mem l (rd L (q : Int)).toNat (by omega)))
    rw [show k + (d + 1) + 1 = (k + d + 1) + 1 from by omega, trishawref03_cost.l0, if_pos (by omega), if_pos (by omega), if_pos (by omega), if_pos (by omega), hw]
    rw [show wrap64 (costN l L q + (rd_T30 l (rd L (q : Int))).f2) = costN l L (q + 1) from by
      simp only [costN, costW]
      rw [Int.toNat_of_nonneg h1.1] at hwy ⊢
      unfold wrap64; omega]
    exact ih
end
end Go.Proofs.Ytpmadffgdfholaa.B
namespace Go.Proofs.Ytpmadffgdfholaa.B
open Go.RowKit Go.Proofs.YtpmadffgdfholaaW.PrintWords Go.Proofs.YtpmadffgdfholaaW.PrintLast Go.Proofs.YtpmadffgdfholaaW.PrintMore
attribute [local go_sem] max2_int min2_int max_two min_two max_three min_three max_four min_four   -- for this text's walks alone
set_option linter.unusedVariables false
set_option linter.unusedSimpArgs false
def branch_Proof.f (k : Nat) (a0 : Int) (l1 : List (S30)) : Option ((List (S41)) × Int) := (branch_read.f a0 l1).bind fun t139 => (if t139 = 0 then ((branch_town_costs.f k a0 l1).bind fun t141 => ((branch_town_cheapest.f k a0 l1 t141 (fun i_ => branch_Proof_1.f i_)).bind fun bt144 => (if bt144.2.2 = true then (some (bt144.2.1, 0)) else (some (([] : List (S41)), 10))))) else (some (([] : List (S41)), t139)))
end Go.Proofs.Ytpmadffgdfholaa.B
namespace Go.Proofs.Ytpmadffgdfholaa.B
set_option linter.unusedVariables false
open Go.RowKit Go.Proofs.YtpmadffgdfholaaW.PrintWords Go.Proofs.YtpmadffgdfholaaW.PrintLast Go.Proofs.YtpmadffgdfholaaW.PrintMore
section
variable {n : Nat} {l : List S30} {f : Nat → Nat}
def costL (l : List S30) : List Int := l.map fun x => x.f2
theorem costL_length (l : List S30) : (costL l).length = l.length := by simp [costL]
theorem costL_rd (l : List S30) (i : Nat) (h : i < l.length) : rd (costL l) (i : Int) = costW l i := by
  simp [rd, costL, costW, rd_T30, List.getD, List.getElem?_eq_getElem h]
theorem costs_l0 (l : List S30) (hl : l.length < 1000) : ∀ (d q k : Nat), q + d = l.length → branch_town_costs.l0 (k + d + 1) ((costL l).take q) l (l.length : Int) (q : Int) = some (costL l)
  | 0, q, k, h => by
    rw [show k + 0 + 1 = k + 1 from rfl, branch_town_costs.l0, if_neg (by omega), List.take_of_length_le (by rw [costL_length]; omega)]
  | d + 1, q, k, h => by
    have hq : q < l.length := by omega
    have hw := wrap_nat q (by omega)
    have ih := costs_l0 l hl d (q + 1) k (by omega)
    rw [take_rdI (costL l) q (by rw [costL_length]; exact hq), costL_rd l q hq] at ih
    rw [show k + (d + 1) + 1 = (k + d + 1) + 1 from by omega, branch_town_costs.l0, if_pos (by omega), if_pos (by omega), if_pos (by omega), if_pos (by rw [List.length_take]; omega), hw]
    exact ih
theorem costs_f (n : Int) (l : List S30) (hl : l.length ≤ 30) (k : Nat) (hk : 40 ≤ k) : branch_town_costs.f k n l = some (costL l) := by
  have := costs_l0 l (by omega) l.length 0 (k - l.length - 1) (by omega)
  rw [show k - l.length - 1 + l.length + 1 = k from by omega] at this
  exact this
theorem cost_low (hx : ∀ x ∈ l, wayOk n x = true) (i : Nat) (h : i < l.length) : 0 ≤ costW l i ∧ costW l i ≤ 1000 := by
  have := (wayOk_iff n _).1 (hx _ (rd_T30_mem l i h))
  unfold costW
  omega
theorem FirstB.congr {p q : Nat → Int} {v : Int} (h : FirstB n l p v f) (e : ∀ i, i < l.length → p i = q i) : FirstB n l q v f := by
  have hc : ∀ g, BrB n l g → costF n p g = costF n q g := fun g hg => costF_congr fun c c0 c1 => e _ (hg.on c c0 c1).1
  exact ⟨h.is, (hc f h.is) ▸ h.cost, fun g hg => (hc g hg) ▸ h.least g hg, fun g hg hv => h.ahead g hg ((hc g hg).trans hv)⟩
/-- Branching. -/
theorem branching_spec (hr : readB (n : Int) l = 0) :
    (∃ f v, FirstB n l (costW l) v f ∧ ∀ k, 3000 ≤ k → branch_Branching.f k (n : Int) l = some (listB n l f, v, 0)) ∨
    ((∀ f, ¬ BrB n l f) ∧ ∀ k, 3000 ≤ k → branch_Branching.f k (n : Int) l = some ([], 0, 10)) := by
  obtain ⟨h2, h7, h30, hx⟩ := readB_ok hr
  have hstep : ∀ k, 3000 ≤ k → branch_Branching.f k (n : Int) l = branch_town_first.f k (n : Int) l (costL l) := by
    intro k hk
    unfold branch_Branching.f branch_read.f
    rw [hr, Option.bind_some, if_pos rfl, costs_f _ l h30 k (by omega), Option.bind_some]
  have hp : ∀ i : Nat, i < l.length → 0 ≤ rd (costL l) (i : Int) ∧ rd (costL l) (i : Int) ≤ 1000 := fun i hi => by rw [costL_rd l i hi]; exact cost_low hx i hi
  rcases first_spec (n := n) (by omega) (by omega) h30 hx (costL l) (costL_length l) hp with ⟨f, v, hf, hk⟩ | ⟨hno, hk⟩
  · exact .inl ⟨f, v, hf.congr fun i hi => costL_rd l i hi, fun k h => (hstep k h).trans (hk k h)⟩
  · exact .inr ⟨hno, fun k h => (hstep k h).trans (hk k h)⟩
theorem costF_neg (hn : 1 ≤ n) (M : Int) (p : Nat → Int) (f : Nat → Nat) : costF n (fun i => M - p i) f = ((n : Int) - 1) * M - costF n p f := by
  unfold costF
  have key : ∀ m, 1 ≤ m → sumZ (fun c => if c = 0 then 0 else M - p (f c)) m = ((m : Int) - 1) * M - sumZ (fun c => if c = 0 then 0 else p (f c)) m := by
    intro m
    induction m with
    | zero => intro h; omega
    | succ m ih =>
      intro _
      simp only [sumZ]
      by_cases e : m = 0
      · subst e; simp [sumZ]
      · rw [ih (by omega), if_neg e, if_neg e]
        have : (((m + 1 : Nat) : Int) - 1) * M = ((m : Int) - 1) * M + M := by
          rw [show ((m + 1 : Nat) : Int) - 1 = ((m : Int) - 1) + 1 by omega, Int.add_mul, Int.one_mul]
        omega
  exact key n hn
theorem costF_low (hn1 : 1 ≤ n) (hn : n ≤ 7) {p : Nat → Int} (hp : ∀ i, i < l.length → 0 ≤ p i ∧ p i ≤ 1000) (hf : BrB n l f) : 0 ≤ costF n p f ∧ costF n p f ≤ 6000 := by
  refine ⟨costF_nonneg fun c c0 c1 => (hp _ (hf.on c c0 c1).1).1, ?_⟩
  have h2 := costF_nonneg (n := n) (p := fun i => 1000 - p i) (f := f) fun c c0 c1 => by have := (hp _ (hf.on c c0 c1).1).2; omega
  rw [costF_neg hn1] at h2
  omega
/-- Dear: the first branching of the least sum of what lacks to 1000. -/
theorem dear_spec (hr : readB (n : Int) l = 0) :
    (∃ f v, FirstB n l (fun i => 1000 - costW l i) (((n : Int) - 1) * 1000 - v) f ∧ ∀ k, 3000 ≤ k → branch_Dear.f k (n : Int) l = some (listB n l f, v, 0)) ∨
    ((∀ f, ¬ BrB n l f) ∧ ∀ k, 3000 ≤ k → branch_Dear.f k (n : Int) l = some ([], 0, 10)) := by
  obtain ⟨h2, h7, h30, hx⟩ := readB_ok hr
  have hw : wrap64 ((n : Int) - 1) = (n : Int) - 1 := by unfold wrap64; omega
  have hstep : ∀ k, 3000 ≤ k → branch_Dear.f k (n : Int) l = (branch_town_first.f k (n : Int) l (dearB (costL l))).bind fun r => if r.2.2 = 0 then some (r.1, wrap64 (wrap64 (((n : Int) - 1) * 1000) - r.2.1), 0) else some ([], 0, r.2.2) := by
    intro k hk
    unfold branch_Dear.f branch_read.f
    rw [hr, Option.bind_some, if_pos rfl, costs_f _ l h30 k (by omega), Option.bind_some, if_pos (by rw [costL_length]; omega), hw]
  have hrd : ∀ i : Nat, i < l.length → rd (dearB (costL l)) (i : Int) = 1000 - costW l i := by
    intro i hi
    have h1 := cost_low hx i hi
    have h2 := costL_rd l i hi
    have h3 : rd (dearB (costL l)) (i : Int) = wrap64 (1000 - rd (costL l) (i : Int)) := by
      have hl : i < (costL l).length := by rw [costL_length]; exact hi
      simp [rd, dearB, List.getD, List.getElem?_eq_getElem hl]
    rw [h3, h2]
    unfold wrap64; omega
  have hp : ∀ i : Nat, i < l.length → 0 ≤ rd (dearB (costL l)) (i : Int) ∧ rd (dearB (costL l)) (i : Int) ≤ 1000 := fun i hi => by
    rw [hrd i hi]; have := cost_low hx i hi; omega
  rcases first_spec (n := n) (by omega) (by omega) h30 hx (dearB (costL l)) (by rw [dearB_length, costL_length]) hp with ⟨f, v, hf, hk⟩ | ⟨hno, hk⟩
  · have hf2 := hf.congr (q := fun i => 1000 - costW l i) fun i hi => hrd i hi
    refine .inl ⟨f, ((n : Int) - 1) * 1000 - v, ?_, fun k h => ?_⟩
    · rw [show ((n : Int) - 1) * 1000 - (((n : Int) - 1) * 1000 - v) = v by omega]
      exact hf2
    · have hb := costF_low (n := n) (p := fun i => 1000 - costW l i) (by omega) (by omega) (fun i hi => by have := cost_low hx i hi; omega) hf2.is
      rw [hf2.cost] at hb
      rw [hstep k h, hk k h, Option.bind_some, if_pos rfl]
      refine congrArg some (Prod.ext rfl (Prod.ext ?_ rfl))
      show wrap64 (wrap64 (((n : Int) - 1) * 1000) - v) = ((n : Int) - 1) * 1000 - v
      unfold wrap64; omega
  · refine .inr ⟨hno, fun k h => ?_⟩
    rw [hstep k h, hk k h]
    rfl
/-- A refused town. -/
theorem refused_spec {n : Int} (hr : readB n l ≠ 0) (k : Nat) : branch_Branching.f k n l = some ([], 0, readB n l) ∧ branch_Dear.f k n l = some ([], 0, readB n l) ∧ branch_Proof.f k n l = some ([], readB n l) ∧ ∀ L, branch_Is.f k n l L = some (0, false, readB n l) := by
  unfold branch_Branching.f branch_Dear.f branch_Proof.f branch_Is.f branch_read.f
  refine ⟨?_, ?_, ?_, fun L => ?_⟩ <;> rw [Option.bind_some, if_neg hr]
def lessL : List Int → List Int → Bool
  | [], [] => false
  | [], _ :: _ => true
  | _ :: _, [] => false
  | x :: A, y :: B => if x = y then lessL A B else decide (x < y)
theorem less_l0 (A B : List Int) (hA : A.length < 1000) (hB : B.length < 1000) : ∀ (d q k : Nat), q + d = A.length → q ≤ B.length → trishawref03_Less.l0 (k + 2 * d + 2) A B (q : Int) = some (lessL (A.drop q) (B.drop q))
  | 0, q, k, h, hq => by
    rw [show k + 2 * 0 + 2 = k + 1 + 1 from rfl, trishawref03_Less.l0, if_neg (by omega), trishawref03_Less.j1, if_neg (by decide), List.drop_eq_nil_of_le (show A.length ≤ q by omega)]
    by_cases e : q < B.length
    · rw [drop_rdI4 B q e, decide_eq_true (by omega)]; rfl
    · rw [List.drop_eq_nil_of_le (by omega), decide_eq_false (by omega)]; rfl
  | d + 1, q, k, h, hq => by
    have hqA : q < A.length := by omega
    have hw := wrap_nat q (by omega)
    have ih := fun h => less_l0 A B hA hB d (q + 1) k (by omega) h
    rw [show k + 2 * (d + 1) + 2 = (k + 2 * d + 2) + 1 + 1 from by omega, trishawref03_Less.l0, if_pos (by omega), drop_rdI4 A q hqA]
    by_cases e : q < B.length
    · rw [decide_eq_true (by omega), trishawref03_Less.j1, if_pos rfl, drop_rdI4 B q e, if_pos (by omega), if_pos (by omega), if_pos (by omega)]
      simp only [lessL]
      by_cases h1 : rd A (q : Int) = rd B (q : Int)
      · rw [if_pos h1, if_pos h1, hw]
        exact ih (by omega)
      · rw [if_neg h1, if_neg h1]
    · rw [decide_eq_false (by omega), trishawref03_Less.j1, if_neg (by decide), List.drop_eq_nil_of_le (show B.length ≤ q by omega), decide_eq_false (by omega)]
      rfl
theorem less_f (A B : List Int) (hA : A.length < 1000) (hB : B.length < 1000) (k : Nat) (hk : 2 * A.length + 2 ≤ k) : trishawref03_Less.f k A B = some (lessL A B) := by
  have := less_l0 A B hA hB A.length 0 (k - 2 * A.length - 2) (by omega) (by omega)
  rw [show k - 2 * A.length - 2 + 2 * A.length + 2 = k from by omega] at this
  exact this
theorem lessL_self : ∀ A, lessL A A = false
  | [] => rfl
  | x :: A => by simp only [lessL, if_true]; exact lessL_self A
/-- Ahead, as_ lists of one length. -/
theorem ahead_less {X Y : Nat → Bool} : ∀ (m : Nat), Ahead X Y m → (selL X m).length = (selL Y m).length → lessL (selL Y m) (selL X m) = false := by
  intro m hA hlen
  rcases hA with h | ⟨j, hj, hq, h1, h2⟩
  · rw [selL_congr m h]; exact lessL_self _
  · -- both lists are one list up to j; then X has j
    have hsplit : ∀ (Z : Nat → Bool) (d : Nat), ∃ R : List Int, selL Z (j + 1 + d) = selL Z (j + 1) ++ R ∧ ∀ x ∈ R, (j : Int) < x := by
      intro Z d
      induction d with
      | zero => exact ⟨[], by simp, fun x hx => absurd hx (by simp)⟩
      | succ d ih =>
        obtain ⟨R, e, hR⟩ := ih
        rw [show j + 1 + (d + 1) = (j + 1 + d) + 1 by omega, selL_succ]
        by_cases hz : Z (j + 1 + d) = true
        · rw [if_pos hz, e]
          refine ⟨R ++ [((j + 1 + d : Nat) : Int)], by rw [List.append_assoc], fun x hx => ?_⟩
          rcases List.mem_append.1 hx with hx | hx
          · exact hR x hx
          · rw [List.mem_singleton] at hx; omega
        · rw [if_neg hz]
          exact ⟨R, e, hR⟩
    obtain ⟨RX, eX, _⟩ := hsplit X (m - (j + 1))
    obtain ⟨RY, eY, hRY⟩ := hsplit Y (m - (j + 1))
    rw [show j + 1 + (m - (j + 1)) = m by omega] at eX eY
    rw [selL_succ, if_pos h1, selL_congr j hq] at eX
    rw [selL_succ, if_neg (by rw [h2]; decide)] at eY
    rw [eX, eY] at hlen ⊢
    rw [List.length_append, List.length_append, List.length_append, List.length_singleton] at hlen
    cases RY with
    | nil => simp at hlen; omega
    | cons y RY =>
      have hy := hRY y List.mem_cons_self
      have key : ∀ P : List Int, lessL (P ++ y :: RY) (P ++ (j : Int) :: RX) = false := by
        intro P
        induction P with
        | nil => simp only [List.nil_append, lessL]; rw [if_neg (by omega)]; exact decide_eq_false (by omega)
        | cons z P ih => simp only [List.cons_append, lessL, if_true]; exact ih
      rw [List.append_assoc]
      exact key _
/-- The first branching's list is not behind another's. -/
theorem FirstB.not_less {p : Nat → Int} {v : Int} (hn : 1 ≤ n) (h : FirstB n l p v f) {g : Nat → Nat} (hg : BrB n l g) (hv : costF n p g = v) : lessL (listB n l g) (listB n l f) = false :=
  ahead_less _ (h.ahead g hg hv) (by have a := h.is.selLen hn; have b := hg.selLen hn; omega)
end
end Go.Proofs.Ytpmadffgdfholaa.B
namespace Go.Proofs.Ytpmadffgdfholaa.B
set_option linter.unusedVariables false
open Go.RowKit Go.Proofs.YtpmadffgdfholaaW.PrintWords Go.Proofs.YtpmadffgdfholaaW.PrintLast Go.Proofs.YtpmadffgdfholaaW.PrintMore
theorem wrap_shift (x k : Int) : wrap64 (x + k * 18446744073709551616) = wrap64 x := by unfold wrap64; omega
theorem wrap_form (x : Int) : ∃ k, wrap64 x = x + k * 18446744073709551616 := ⟨-((x + 9223372036854775808) / 18446744073709551616), by unfold wrap64; omega⟩
theorem wrap_mul (a b : Int) : wrap64 (wrap64 a * b) = wrap64 (a * b) := by
  obtain ⟨k, hk⟩ := wrap_form a
  rw [hk, Int.add_mul, show k * 18446744073709551616 * b = (k * b) * 18446744073709551616 by rw [Int.mul_assoc, Int.mul_assoc, Int.mul_comm 18446744073709551616 b], wrap_shift]
theorem wrap_mul2 (a b : Int) : wrap64 (a * wrap64 b) = wrap64 (a * b) := by rw [Int.mul_comm, wrap_mul, Int.mul_comm]
theorem wrap_add (a b : Int) : wrap64 (a + wrap64 b) = wrap64 (a + b) := by
  obtain ⟨k, hk⟩ := wrap_form b
  rw [hk, ← Int.add_assoc, wrap_shift]
theorem wrap_wrap (a : Int) : wrap64 (wrap64 a) = wrap64 a := by
  have := wrap_add 0 a
  rwa [Int.zero_add, Int.zero_add] at this
def colsOf (cols : List Int) : List (List Int → Int) := cols.map fun c r => rd r c
theorem loop_wrap (r cols : List Int) (D : Nat → Int) (E : List (List Int → Int) → Int) (hD : ∀ p, p < cols.length → D p = wrap64 (E (colsOf (cut1 cols p)))) : ∀ (d p : Nat) (s g : Int), p + d = cols.length → (g = 1 ∨ g = -1) → wrap64 s = s →
    loopD r cols D d p s g = wrap64 (s + g * exD r E (colsOf (cols.take p)) (colsOf (cols.drop p)))
  | 0, p, s, g, h, _, hs => by
    rw [loopD, List.drop_eq_nil_of_le (by omega)]
    simp [colsOf, exD, hs]
  | d + 1, p, s, g, h, hg, hs => by
    have hp : p < cols.length := by omega
    have hng : wrap64 (-g) = -g := by rcases hg with rfl | rfl <;> decide +kernel
    have ih := fun s hs => loop_wrap r cols D E hD d (p + 1) s (-g) (by omega) (by omega) hs
    have hdrop : cols.drop p = rd cols (p : Int) :: cols.drop (p + 1) := drop_rdI4 cols p hp
    have htake : cols.take (p + 1) = cols.take p ++ [rd cols (p : Int)] := by
      rw [List.take_add_one, List.getElem?_eq_getElem hp]
      simp [rd, List.getD, List.getElem?_eq_getElem hp]
    have e1 : exD r E (colsOf (cols.take p)) (colsOf (cols.drop p)) = rd r (rd cols (p : Int)) * E (colsOf (cut1 cols p)) - exD r E (colsOf (cols.take (p + 1))) (colsOf (cols.drop (p + 1))) := by
      rw [hdrop, htake]
      simp only [colsOf, List.map_cons, List.map_append, exD, List.map_nil, cut1]
    rw [loopD, hng, e1]
    generalize exD r E (colsOf (cols.take (p + 1))) (colsOf (cols.drop (p + 1))) = z at ih
    by_cases h0 : rd r (rd cols (p : Int)) = 0
    · rw [if_pos h0, ih s hs, h0, Int.zero_mul]
      congr 1
      rw [Int.mul_sub, Int.mul_zero, Int.neg_mul]
      omega
    · rw [if_neg h0, ih _ (wrap_wrap _), hD p hp, wrap_mul2, wrap_mul, wrap_add, Int.add_comm (wrap64 _), wrap_add]
      congr 1
      rw [Int.mul_sub, Int.neg_mul, Int.mul_assoc]
      omega
theorem detW_wrap : ∀ (rows : List (List Int)) (cols : List Int), rows.length = cols.length → detW rows cols = wrap64 (detC rows (colsOf cols))
  | [], cols, h => by
    obtain rfl : cols = [] := by cases cols with | nil => rfl | cons _ _ => exact absurd h (by simp)
    show (1 : Int) = wrap64 1
    decide +kernel
  | r :: rows, cols, h => by
    rw [detW, loop_wrap r cols _ (detC rows) (fun p hp => detW_wrap rows (cut1 cols p) (by rw [cut1_length cols p hp]; simp at h; omega)) cols.length 0 0 1 (by omega) (.inl rfl) (by decide +kernel)]
    rw [List.take_zero, List.drop_zero, Int.zero_add, Int.one_mul]
    rfl
def entT (X : List (List Int)) (r c : Nat) : Int := rd (rd_L12 X ((r - 1 : Nat) : Int)) ((c - 1 : Nat) : Int)
theorem rd_L12_set (X : List (List Int)) (R : List Int) (i j : Nat) (h : j < X.length) : rd_L12 (X.set j R) (i : Int) = if i = j then R else rd_L12 X (i : Int) := by
  simp only [rd_L12, Int.toNat_natCast, List.getD, List.getElem?_set]
  by_cases e : j = i
  · subst e; simp [h]
  · rw [if_neg e, if_neg (fun h => e h.symm)]
theorem entT_put {m : Nat} {X : List (List Int)} (hX : Sq m X) (p q : Nat) (hp : 1 ≤ p ∧ p ≤ m) (hq : 1 ≤ q ∧ q ≤ m) (v : Int) (r c : Nat) (hr : 1 ≤ r ∧ r ≤ m) (hc : 1 ≤ c ∧ c ≤ m) :
    entT (X.set (p - 1) ((rd_L12 X ((p - 1 : Nat) : Int)).set (q - 1) v)) r c = if r = p ∧ c = q then v else entT X r c := by
  unfold entT
  rw [rd_L12_set X _ (r - 1) (p - 1) (by rw [hX.1]; omega)]
  by_cases e : r = p
  · subst e
    rw [if_pos rfl, rd_set _ (q - 1) (c - 1) v (by rw [sq_row hX _ (by omega) (by omega)]; omega)]
    by_cases e2 : c = q
    · subst e2; rw [if_pos rfl, if_pos ⟨rfl, rfl⟩]
    · rw [if_neg (by omega), if_neg (fun h => e2 h.2)]
  · rw [if_neg (by omega), if_neg (fun h => e h.1)]
section
variable {n m : Nat} {l : List S30}
theorem entT_step (hm : m ≤ 6) (hn : n = m + 1) {X : List (List Int)} (hX : Sq m X) {x : S30} (hx : wayOk n x = true) (hb : ∀ r c, 1 ≤ r → r ≤ m → 1 ≤ c → c ≤ m → -1000 ≤ entT X r c ∧ entT X r c ≤ 1000) (r c : Nat) (hr : 1 ≤ r ∧ r ≤ m) (hc : 1 ≤ c ∧ c ≤ m) :
    entT (stepT X x) r c = entT X r c + if x.f1.toNat = c then unitC c r - unitC x.f0.toNat r else 0 := by
  obtain ⟨h1, h2, h3, h4, h5, _⟩ := (wayOk_iff n x).1 hx
  unfold stepT
  by_cases t1 : x.f1 > 0
  · rw [if_pos t1]
    have e1 : wrap64 (x.f1 - 1) = ((x.f1.toNat - 1 : Nat) : Int) := by unfold wrap64; omega
    have hA : stepA X x = X.set (x.f1.toNat - 1) ((rd_L12 X ((x.f1.toNat - 1 : Nat) : Int)).set (x.f1.toNat - 1) (wrap64 (entT X x.f1.toNat x.f1.toNat + 1))) := by
      unfold stepA entT
      rw [e1, Int.toNat_natCast]
    have hSA : Sq m (stepA X x) := stepA_sq hX t1 (by omega) hm
    have hbb := hb x.f1.toNat x.f1.toNat (by omega) (by omega) (by omega) (by omega)
    have hwA : wrap64 (entT X x.f1.toNat x.f1.toNat + 1) = entT X x.f1.toNat x.f1.toNat + 1 := by unfold wrap64; omega
    have hentA : ∀ r c, 1 ≤ r ∧ r ≤ m → 1 ≤ c ∧ c ≤ m → entT (stepA X x) r c = entT X r c + if x.f1.toNat = c then unitC c r else 0 := by
      intro r c hr hc
      rw [hA, entT_put hX _ _ (by omega) (by omega) _ r c hr hc, hwA]
      unfold unitC
      by_cases e : r = x.f1.toNat ∧ c = x.f1.toNat
      · rw [if_pos e, e.1, e.2, if_pos rfl, if_pos rfl]
      · rw [if_neg e]
        by_cases e2 : x.f1.toNat = c
        · rw [if_pos e2, if_neg (by omega)]; omega
        · rw [if_neg e2]; omega
    by_cases t0 : x.f0 > 0
    · rw [if_pos t0]
      have e0 : wrap64 (x.f0 - 1) = ((x.f0.toNat - 1 : Nat) : Int) := by unfold wrap64; omega
      have hB : stepB (stepA X x) x = (stepA X x).set (x.f0.toNat - 1) ((rd_L12 (stepA X x) ((x.f0.toNat - 1 : Nat) : Int)).set (x.f1.toNat - 1) (wrap64 (entT (stepA X x) x.f0.toNat x.f1.toNat - 1))) := by
        unfold stepB entT
        rw [e1, e0, Int.toNat_natCast, Int.toNat_natCast]
      have hv := hentA x.f0.toNat x.f1.toNat (by omega) (by omega)
      have hub : unitC x.f1.toNat x.f0.toNat = 0 := if_neg (by omega)
      rw [if_pos rfl, hub] at hv
      have hbv := hb x.f0.toNat x.f1.toNat (by omega) (by omega) (by omega) (by omega)
      have hwB : wrap64 (entT (stepA X x) x.f0.toNat x.f1.toNat - 1) = entT X x.f0.toNat x.f1.toNat - 1 := by rw [hv]; unfold wrap64; omega
      rw [hB, entT_put hSA _ _ (by omega) (by omega) _ r c hr hc, hwB]
      by_cases e : r = x.f0.toNat ∧ c = x.f1.toNat
      · rw [if_pos e, if_pos e.2.symm, e.1, e.2, hub]
        unfold unitC
        rw [if_pos rfl]; omega
      · rw [if_neg e, hentA r c hr hc]
        by_cases e2 : x.f1.toNat = c
        · rw [if_pos e2, if_pos e2]
          have : unitC x.f0.toNat r = 0 := if_neg (fun h => e ⟨h, e2.symm⟩)
          rw [this]; omega
        · rw [if_neg e2, if_neg e2]
    · rw [if_neg t0, hentA r c hr hc]
      by_cases e2 : x.f1.toNat = c
      · rw [if_pos e2, if_pos e2]
        have : unitC x.f0.toNat r = 0 := if_neg (by omega)
        rw [this]; omega
      · rw [if_neg e2, if_neg e2]
  · rw [if_neg t1, if_neg (by omega)]; omega
theorem fullC_bound (a b : Nat → Nat) (c r : Nat) : ∀ i : Nat, -(i : Int) ≤ fullC a b i c r ∧ fullC a b i c r ≤ i
  | 0 => by simp [fullC, sumZ]
  | i + 1 => by
    have ih := fullC_bound a b c r i
    unfold fullC at ih ⊢
    simp only [sumZ]
    have : ∀ d, unitC d r = 0 ∨ unitC d r = 1 := fun d => by unfold unitC; split <;> simp
    have h1 := this c
    have h2 := this (a i)
    split <;> omega
theorem entT_fold (hm : m ≤ 6) (hn : n = m + 1) (hl : l.length ≤ 30) (hx : ∀ x ∈ l, wayOk n x = true) : ∀ i, i ≤ l.length → Sq m ((l.take i).foldl stepT (List.replicate m (zeros m))) ∧ ∀ r c, 1 ≤ r → r ≤ m → 1 ≤ c → c ≤ m → entT ((l.take i).foldl stepT (List.replicate m (zeros m))) r c = fullC (aW l) (bW l) i c r
  | 0, _ => by
    have hz : Sq m (List.replicate m (zeros m)) := ⟨by simp, fun r h => by rw [List.eq_of_mem_replicate h]; simp [zeros]⟩
    refine ⟨hz, fun r c r1 r2 c1 c2 => ?_⟩
    rw [List.take_zero, List.foldl_nil]
    have : rd_L12 (List.replicate m (zeros m)) ((r - 1 : Nat) : Int) = zeros m := by
      simp [rd_L12, List.getD, show r - 1 < m by omega]
    unfold entT
    rw [this]
    simp [zeros, rd, List.getD, fullC, sumZ, show c - 1 < m by omega]
  | i + 1, hi => by
    obtain ⟨h1, h2⟩ := entT_fold hm hn hl hx i (by omega)
    have hok := hx _ (rd_T30_mem l i (by omega))
    have hlt : i < l.length := by omega
    have htake : l.take (i + 1) = l.take i ++ [rd_T30 l (i : Int)] := by
      rw [List.take_add_one, List.getElem?_eq_getElem hlt]
      simp [rd_T30, List.getD, List.getElem?_eq_getElem hlt]
    rw [htake, List.foldl_append, List.foldl_cons, List.foldl_nil]
    refine ⟨stepT_sq h1 (n := (n : Int)) (by omega) hm hok, fun r c r1 r2 c1 c2 => ?_⟩
    rw [entT_step hm hn h1 hok (fun r c r1 r2 c1 c2 => by rw [h2 r c r1 r2 c1 c2]; have := fullC_bound (aW l) (bW l) c r i; omega) r c ⟨r1, r2⟩ ⟨c1, c2⟩, h2 r c r1 r2 c1 c2]
    rfl
theorem det_table (hm : m ≤ 6) (hn : n = m + 1) (hl : l.length ≤ 30) (hx : ∀ x ∈ l, wayOk n x = true) : detC (l.foldl stepT (List.replicate m (zeros m))) (colsOf ((List.range m).map fun q : Nat => (q : Int))) = detN m (fullC (aW l) (bW l) l.length) := by
  obtain ⟨h1, h2⟩ := entT_fold hm hn hl hx l.length (Nat.le_refl _)
  rw [List.take_length] at h1 h2
  generalize l.foldl stepT (List.replicate m (zeros m)) = M at h1 h2
  have hM : M = ((List.range m).map fun j => j + 1).map fun r => rd_L12 M ((r - 1 : Nat) : Int) := by
    refine List.ext_getElem (by simp [h1.1]) fun i g1 g2 => ?_
    simp only [List.getElem_map, List.getElem_range, Nat.add_sub_cancel]
    exact (rd_L12_at M i g1).symm
  have hcols : ((colsOf ((List.range m).map fun q : Nat => (q : Int))).map fun u => u ∘ fun r : Nat => rd_L12 M ((r - 1 : Nat) : Int)) = (List.range m).map fun (q r : Nat) => rd (rd_L12 M ((r - 1 : Nat) : Int)) (q : Int) := by
    unfold colsOf
    rw [List.map_map, List.map_map]
    rfl
  have h3 := detC_map (fun r : Nat => rd_L12 M ((r - 1 : Nat) : Int)) ((List.range m).map fun j => j + 1) (colsOf ((List.range m).map fun q : Nat => (q : Int)))
  rw [hcols, ← hM] at h3
  rw [h3]
  unfold detN
  refine detC_same _ _ _ (by simp) fun i g1 g2 r hr => ?_
  obtain ⟨j, hj, rfl⟩ := List.mem_map.1 hr
  have hj := List.mem_range.1 hj
  simp at g1
  simp only [List.getElem_map, List.getElem_range]
  have := h2 (j + 1) (i + 1) (by omega) (by omega) (by omega) (by omega)
  unfold entT at this
  rw [Nat.add_sub_cancel] at this
  rw [Nat.add_sub_cancel] at this
  rw [Nat.add_sub_cancel]
  exact this
/-- One branching counts 1, and what is none 0. -/
def leafB (n : Nat) (l : List S30) (f : Nat → Nat) : Int := detN (n - 1) (colP fun c => aW l (f c))
theorem aW_small (hn : 1 ≤ n) (hx : ∀ x ∈ l, wayOk n x = true) (i : Nat) : aW l i < n := by
  by_cases h : i < l.length
  · exact (bW_eq hx i h).2.2.2
  · have : rd_T30 l (i : Int) = z30 := by simp [rd_T30, List.getD, List.getElem?_eq_none (show l.length ≤ i by omega)]
    unfold aW
    rw [this]
    exact hn
theorem leafB_cases (hn : 1 ≤ n) (hx : ∀ x ∈ l, wayOk n x = true) (f : Nat → Nat) : (leafB n l f = 1 ∧ ∀ c, 0 < c → c < n → ∃ k, itP (fun c => aW l (f c)) k c = 0) ∨ (leafB n l f = 0 ∧ ¬ ∀ c, 0 < c → c < n → ∃ k, itP (fun c => aW l (f c)) k c = 0) := by
  have hπ : ∀ c, 1 ≤ c → c ≤ n - 1 → aW l (f c) ≤ n - 1 := fun c _ _ => by have := aW_small hn hx (f c); omega
  by_cases h : ∀ c, 0 < c → c < n → ∃ k, itP (fun c => aW l (f c)) k c = 0
  · exact .inl ⟨det_hung hπ fun c c1 c2 => h c (by omega) (by omega), h⟩
  · refine .inr ⟨?_, h⟩
    obtain ⟨c, c0, c1, hc⟩ : ∃ c, 0 < c ∧ c < n ∧ ∀ k, itP (fun c => aW l (f c)) k c ≠ 0 := by
      refine Classical.byContradiction fun hno => h fun c c0 c1 => ?_
      refine Classical.byContradiction fun h2 => hno ⟨c, c0, c1, fun k hk => h2 ⟨k, hk⟩⟩
    exact det_ring hπ (c := c) (by omega) (by omega) hc
theorem leafB_brB (hn : 1 ≤ n) (hx : ∀ x ∈ l, wayOk n x = true) {f : Nat → Nat} (hf : ∀ c, 0 < c → c < n → bW l (f c) = c ∧ f c < l.length) : (leafB n l f = 1 ∧ BrB n l f) ∨ (leafB n l f = 0 ∧ ¬ BrB n l f) := by
  have hch := chain_iff (n := n) (a := aW l) (b := bW l) (f := f) (fun c c0 c1 => ⟨(hf c c0 c1).1, aW_small hn hx _⟩) (by omega)
  rcases leafB_cases hn hx f with ⟨h1, h2⟩ | ⟨h1, h2⟩
  · exact .inl ⟨h1, fun c c0 c1 => ⟨(hf c c0 c1).2, (hf c c0 c1).1⟩, hch.2 h2⟩
  · exact .inr ⟨h1, fun hB => h2 (hch.1 hB.all)⟩
/-- The number of the branchings. -/
def cntL (n : Nat) (l : List S30) : Int := cntB (leafB n l) (bW l) l.length (n - 1) 1 (fun _ => 0)
theorem leafB_01 (hn : 1 ≤ n) (hx : ∀ x ∈ l, wayOk n x = true) (f : Nat → Nat) : 0 ≤ leafB n l f ∧ leafB n l f ≤ 1 := by
  rcases leafB_cases hn hx f with ⟨h, _⟩ | ⟨h, _⟩ <;> rw [h] <;> decide
theorem cntL_pos (hn : 1 ≤ n) (hx : ∀ x ∈ l, wayOk n x = true) : 0 < cntL n l ↔ ∃ f, BrB n l f := by
  constructor
  · intro h
    obtain ⟨g, g1, _, g3⟩ := cntB_some _ _ _ _ h
    rcases leafB_brB hn hx (f := g) (fun c c0 c1 => g3 c (by omega) (by omega)) with ⟨_, hB⟩ | ⟨h0, _⟩
    · exact ⟨g, hB⟩
    · omega
  · rintro ⟨f, hf⟩
    have h1 : leafB n l f = 1 := by
      rcases leafB_brB hn hx (f := f) (fun c c0 c1 => ⟨(hf.on c c0 c1).2, (hf.on c c0 c1).1⟩) with ⟨h, _⟩ | ⟨_, h⟩
      · exact h
      · exact absurd hf h
    exact cntB_pos (n := n) (fun f => (leafB_01 hn hx f).1) l.length (g := f) (by omega) (fun g e => detN_congr _ fun c r c1 c2 _ _ => by unfold colP; dsimp only; rw [e c (by omega) (by omega)]) (n - 1) 1 _ (by omega) (by omega) (fun c c0 c1 => by omega) (fun c c0 c1 => ⟨(hf.on c (by omega) c1).2, (hf.on c (by omega) c1).1⟩)
/-- Count. -/
theorem count_spec (hr : readB (n : Int) l = 0) : 0 ≤ cntL n l ∧ ∃ K, ∀ k, K ≤ k → branch_Count.f k (n : Int) l = some (cntL n l, 0) := by
  obtain ⟨h2, h7, h30, hx⟩ := readB_ok hr
  obtain ⟨m, rfl⟩ : ∃ m, n = m + 1 := ⟨n - 1, by omega⟩
  have hm : m ≤ 6 := by omega
  have hni : ((m + 1 : Nat) : Int) = (m : Int) + 1 := rfl
  have h0 := cntB_nonneg (b := bW l) (fun f => (leafB_01 (by omega) hx f).1) l.length (m + 1 - 1) 1 (fun _ => 0)
  have h1 := cntB_bound (b := bW l) (fun f => (leafB_01 (by omega) hx f).2) l.length (m + 1 - 1) 1 (fun _ => 0)
  refine ⟨h0, ?_⟩
  have hz : Sq m (List.replicate m (zeros m)) := ⟨by simp, fun r h => by rw [List.eq_of_mem_replicate h]; simp [zeros]⟩
  have hM := fold_sq (n := ((m + 1 : Nat) : Int)) hni hm l _ hz hx
  have hdet := det_table (l := l) hm rfl h30 hx
  have hcl : ((List.range m).map fun q : Nat => (q : Int)).length = m := by simp
  obtain ⟨K2, hk2⟩ := code_det (l.foldl stepT (List.replicate m (zeros m))) ((List.range m).map fun q : Nat => (q : Int)) (by rw [hM.1, hcl]) (by omega)
  rw [rows_self hM] at hk2
  have hcount : detN m (fullC (aW l) (bW l) l.length) = cntL (m + 1) l := by
    have h3 := det_count (a := aW l) (b := bW l) l.length m m 1 (fun _ => 0) (by omega) (by omega)
    have h4 : partC (aW l) (bW l) l.length (fun _ => 0) 1 = partC (aW l) (bW l) l.length (fun _ => 0) 1 := rfl
    unfold cntL leafB
    rw [Nat.add_sub_cancel, ← h3]
    refine detN_congr m fun c r c1 _ _ _ => ?_
    unfold partC
    rw [if_neg (by omega)]
  have hb : (l.length : Int) ^ (m + 1 - 1) ≤ 1000000000 := by
    have h5 : l.length ^ m ≤ 30 ^ 6 := Nat.le_trans (Nat.pow_le_pow_left h30 m) (Nat.pow_le_pow_right (by decide) hm)
    have h6 : ((l.length : Int) ^ m) = ((l.length ^ m : Nat) : Int) := by norm_cast
    rw [Nat.add_sub_cancel, h6]
    omega
  have hval : detW (l.foldl stepT (List.replicate m (zeros m))) ((List.range m).map fun q : Nat => (q : Int)) = cntL (m + 1) l := by
    rw [detW_wrap _ _ (by rw [hM.1, hcl]), hdet, hcount]
    unfold cntL at h0 h1 ⊢
    unfold wrap64
    omega
  refine ⟨K2 + l.length + m + 2, fun k hk => ?_⟩
  unfold branch_Count.f branch_read.f
  rw [hr, Option.bind_some, if_pos rfl, wrap_n hni hm, if_pos (by omega), if_pos (by simp only [Int.toNat_natCast]; omega), Option.bind_some]
  have c0 := count_l0 (l := l) hni hm m 0 (k - m - 1) (by omega)
  rw [show k - m - 1 + m + 1 = k from by omega, Nat.sub_zero, List.replicate_zero, List.nil_append] at c0
  have c1 := count_l1 hni hm h30 hx l.length 0 (k - m - 1 - l.length - 1) (List.replicate m (zeros m)) (by omega) hz
  rw [show k - m - 1 - l.length - 1 + l.length + 1 = k - m - 1 from by omega, List.drop_zero, hk2 _ (by omega), Option.bind_some] at c1
  rw [List.length_replicate, Int.toNat_natCast, ← hval]
  exact c0.trans c1
end
end Go.Proofs.Ytpmadffgdfholaa.B
namespace Go.Proofs.Ytpmadffgdfholaa.B
set_option linter.unusedVariables false
open Go.RowKit Go.Proofs.YtpmadffgdfholaaW.PrintWords Go.Proofs.YtpmadffgdfholaaW.PrintLast Go.Proofs.YtpmadffgdfholaaW.PrintMore
def putL : List Int → Int → List Int
  | [], x => [x]
  | y :: L, x => if y < x then y :: putL L x else x :: y :: L
theorem putL_mem (x z : Int) : ∀ L, z ∈ putL L x ↔ z = x ∨ z ∈ L
  | [] => by simp [putL]
  | y :: L => by
    have ih := putL_mem x z L
    unfold putL
    split
    · rw [List.mem_cons, ih, List.mem_cons]
      constructor
      · rintro (h | h | h)
        · exact .inr (.inl h)
        · exact .inl h
        · exact .inr (.inr h)
      · rintro (h | h | h)
        · exact .inr (.inl h)
        · exact .inl h
        · exact .inr (.inr h)
    · rw [List.mem_cons]
theorem putL_asc (x : Int) : ∀ L, L.Pairwise (· < ·) → x ∉ L → (putL L x).Pairwise (· < ·)
  | [], _, _ => List.pairwise_singleton _ _
  | y :: L, h, hx => by
    rw [List.pairwise_cons] at h
    rw [List.mem_cons, not_or] at hx
    unfold putL
    split
    · rename_i hy
      rw [List.pairwise_cons]
      refine ⟨fun z hz => ?_, putL_asc x L h.2 hx.2⟩
      rcases (putL_mem x z L).1 hz with rfl | hz
      · exact hy
      · exact h.1 z hz
    · rename_i hy
      have hlt : x < y := by have := hx.1; omega
      rw [List.pairwise_cons]
      refine ⟨fun z hz => ?_, List.pairwise_cons.2 h⟩
      rcases List.mem_cons.1 hz with rfl | hz
      · exact hlt
      · have := h.1 z hz; omega
/-- put's loop passes what is less. -/
theorem put_l0 (L : List Int) (x : Int) (hl : L.length < 1000) : ∀ (d q k : Nat), q + d = L.length → trishawref03_put.l0 (k + d + 1) L x (q : Int) = some (L.take q ++ putL (L.drop q) x)
  | 0, q, k, h => by
    rw [show k + 0 + 1 = k + 1 from rfl, trishawref03_put.l0, if_neg (by omega), if_pos (by omega), if_pos (by omega), if_pos (by simp; omega), Option.bind_some, if_pos (by simp; omega), Option.bind_some, if_pos (by simp; omega)]
    have hq : q = L.length := by omega
    subst hq
    simp [putL]
  | d + 1, q, k, h => by
    have hq : q < L.length := by omega
    have hw := wrap_nat q (by omega)
    rw [show k + (d + 1) + 1 = (k + d + 1) + 1 from by omega, trishawref03_put.l0, if_pos (by omega), if_pos (by omega), drop_rdI4 L q hq]
    unfold putL
    by_cases hlt : rd L (q : Int) < x
    · rw [if_pos hlt, if_pos hlt, hw, put_l0 L x hl d (q + 1) k (by omega), take_rdI L q hq]
      simp
    · rw [if_neg hlt, if_neg hlt, if_pos (by omega), if_pos (by simp; omega), Option.bind_some, if_pos (by simp; omega), Option.bind_some, if_pos (by simp; omega)]
      simp only [Int.toNat_natCast, List.nil_append]
      rw [drop_rdI4 L q hq]
      simp
theorem put_f (L : List Int) (x : Int) (hl : L.length < 1000) (k : Nat) (hk : L.length + 1 ≤ k) : trishawref03_put.f k L x = some (putL L x) := by
  have := put_l0 L x hl L.length 0 (k - L.length - 1) (by omega)
  rw [show k - L.length - 1 + L.length + 1 = k from by omega, List.take_zero, List.drop_zero, List.nil_append] at this
  exact this
theorem lessL_total : ∀ (A B : List Int), lessL A B = false → lessL B A = false → A = B
  | [], [], _, _ => rfl
  | [], _ :: _, h, _ => absurd h (by simp [lessL])
  | _ :: _, [], _, h => absurd h (by simp [lessL])
  | x :: A, y :: B, h1, h2 => by
    unfold lessL at h1 h2
    by_cases e : x = y
    · subst e
      rw [if_pos rfl] at h1 h2
      rw [lessL_total A B h1 h2]
    · rw [if_neg e] at h1
      rw [if_neg (fun h => e h.symm)] at h2
      have a := of_decide_eq_false h1
      have b := of_decide_eq_false h2
      omega
theorem lessL_first : ∀ (A B C : List Int), lessL A B = true → lessL C B = false → lessL C A = false
  | [], [], _, h, _ => absurd h (by simp [lessL])
  | _ :: _, [], _, h, _ => absurd h (by simp [lessL])
  | [], y :: B, C, _, h2 => by cases C <;> simp [lessL]
  | x :: A, y :: B, [], _, h2 => absurd h2 (by simp [lessL])
  | x :: A, y :: B, z :: C, h1, h2 => by
    unfold lessL at h1 h2 ⊢
    by_cases e : x = y
    · subst e
      rw [if_pos rfl] at h1
      by_cases e2 : z = x
      · rw [if_pos e2] at h2 ⊢
        exact lessL_first A B C h1 h2
      · rw [if_neg e2] at h2 ⊢
        exact h2
    · rw [if_neg e] at h1
      have a := of_decide_eq_true h1
      by_cases e2 : z = y
      · subst e2
        rw [if_neg (by omega)]
        exact decide_eq_false (by omega)
      · rw [if_neg e2] at h2
        have b := of_decide_eq_false h2
        rw [if_neg (by omega)]
        exact decide_eq_false (by omega)
section
variable {n : Nat} {l : List S30} {sign : Int}
/-- What has been found, of the branchings D. -/
structure InvF (n : Nat) (l : List S30) (sign : Int) (s : FoundS) (D : (Nat → Nat) → Prop) : Prop where
  nil : s.2.2 = [] → ∀ g, ¬ D g
  best : s.2.2 ≠ [] → ∃ f, BrB n l f ∧ s.2.2 = listB n l f ∧ s.2.1 = sign * costF n (costW l) f
  low : s.2.2 ≠ [] → ∀ g, D g → s.2.1 ≤ sign * costF n (costW l) g ∧ (sign * costF n (costW l) g = s.2.1 → lessL (listB n l g) s.2.2 = false)
theorem InvF.congr {s : FoundS} {D E : (Nat → Nat) → Prop} (h : InvF n l sign s D) (e : ∀ g, D g ↔ E g) : InvF n l sign s E :=
  ⟨fun h0 g hg => h.nil h0 g ((e g).2 hg), h.best, fun h0 g hg => h.low h0 g ((e g).2 hg)⟩
/-- g goes on where f has been chosen below k. -/
def extF (f : Nat → Nat) (k : Nat) (g : Nat → Nat) : Prop := ∀ c, 0 < c → c < k → g c = f c
theorem listB_ext {f g : Nat → Nat} (h : extF f n g) : listB n l g = listB n l f := by
  refine selL_congr _ fun j _ => ?_
  unfold useB
  by_cases hb : 0 < bW l j ∧ bW l j < n
  · rw [h _ hb.1 hb.2]
  · rcases Nat.eq_zero_or_pos (bW l j) with h0 | h0
    · simp [h0]
    · simp [show ¬ bW l j < n from fun h1 => hb ⟨h0, h1⟩]
theorem costF_ext {p : Nat → Int} {f g : Nat → Nat} (h : extF f n g) : costF n p g = costF n p f := costF_congr fun c c0 c1 => by rw [h c c0 c1]
/-- One more branching. -/
def stepF (s : FoundS) (L : List Int) (c : Int) : FoundS :=
  if s.2.2.length = 0 then (s.1 + 1, c, L) else if c < s.2.1 then (s.1 + 1, c, L) else if c = s.2.1 then (if lessL L s.2.2 = true then (s.1 + 1, c, L) else (s.1 + 1, s.2.1, s.2.2)) else (s.1 + 1, s.2.1, s.2.2)
theorem stepF_many (s : FoundS) (L : List Int) (c : Int) : (stepF s L c).1 = s.1 + 1 := by
  unfold stepF
  split
  · rfl
  · split
    · rfl
    · split
      · split <;> rfl
      · rfl
theorem InvF.step {s : FoundS} {D : (Nat → Nat) → Prop} (h : InvF n l sign s D) {f : Nat → Nat} (hf : BrB n l f) (hne : listB n l f ≠ []) : InvF n l sign (stepF s (listB n l f) (sign * costF n (costW l) f)) (fun g => D g ∨ (BrB n l g ∧ extF f n g)) := by
  have hself : ∀ g, BrB n l g ∧ extF f n g → listB n l g = listB n l f ∧ costF n (costW l) g = costF n (costW l) f := fun g hg => ⟨listB_ext hg.2, costF_ext hg.2⟩
  unfold stepF
  by_cases h0 : s.2.2.length = 0
  · rw [if_pos h0]
    have hnil : s.2.2 = [] := List.eq_nil_of_length_eq_zero h0
    refine ⟨fun e => absurd e hne, fun _ => ⟨f, hf, rfl, rfl⟩, fun _ g hg => ?_⟩
    rcases hg with hg | hg
    · exact absurd hg (h.nil hnil g)
    · obtain ⟨e1, e2⟩ := hself g hg
      rw [e1, e2]
      exact ⟨Int.le_refl _, fun _ => lessL_self _⟩
  rw [if_neg h0]
  have hnn : s.2.2 ≠ [] := fun e => h0 (by rw [e]; rfl)
  by_cases h1 : sign * costF n (costW l) f < s.2.1
  · rw [if_pos h1]
    refine ⟨fun e => absurd e hne, fun _ => ⟨f, hf, rfl, rfl⟩, fun _ g hg => ?_⟩
    rcases hg with hg | hg
    · have := (h.low hnn g hg).1
      exact ⟨by show sign * costF n (costW l) f ≤ _; omega, fun e => by have e2 : sign * costF n (costW l) g = sign * costF n (costW l) f := e; omega⟩
    · obtain ⟨e1, e2⟩ := hself g hg
      rw [e1, e2]
      exact ⟨Int.le_refl _, fun _ => lessL_self _⟩
  rw [if_neg h1]
  by_cases h2 : sign * costF n (costW l) f = s.2.1
  · rw [if_pos h2]
    by_cases h3 : lessL (listB n l f) s.2.2 = true
    · rw [if_pos h3]
      refine ⟨fun e => absurd e hne, fun _ => ⟨f, hf, rfl, rfl⟩, fun _ g hg => ?_⟩
      rcases hg with hg | hg
      · obtain ⟨a1, a2⟩ := h.low hnn g hg
        refine ⟨by show sign * costF n (costW l) f ≤ _; omega, fun e => ?_⟩
        have e2 : sign * costF n (costW l) g = sign * costF n (costW l) f := e
        exact lessL_first _ _ _ h3 (a2 (by omega))
      · obtain ⟨e1, e2⟩ := hself g hg
        rw [e1, e2]
        exact ⟨Int.le_refl _, fun _ => lessL_self _⟩
    · rw [if_neg h3]
      refine ⟨fun e => absurd e hnn, fun _ => h.best hnn, fun _ g hg => ?_⟩
      rcases hg with hg | hg
      · exact h.low hnn g hg
      · obtain ⟨e1, e2⟩ := hself g hg
        rw [e1, e2]
        exact ⟨by show s.2.1 ≤ _; omega, fun _ => Bool.eq_false_iff.mpr h3⟩
  · rw [if_neg h2]
    refine ⟨fun e => absurd e hnn, fun _ => h.best hnn, fun _ g hg => ?_⟩
    rcases hg with hg | hg
    · exact h.low hnn g hg
    · obtain ⟨e1, e2⟩ := hself g hg
      rw [e1, e2]
      exact ⟨by show s.2.1 ≤ _; omega, fun e => by have e3 : sign * costF n (costW l) f = s.2.1 := e; exact absurd e3 h2⟩
/-- The streets that have been chosen below k, as_ a list. -/
def nowL (l : List S30) (k : Nat) (f : Nat → Nat) : List Int := selL (useB k (bW l) f) l.length
theorem nowL_put {k : Nat} (hk : 1 ≤ k) {f : Nat → Nat} {i : Nat} (hi : i < l.length) (hb : bW l i = k) : putL (nowL l k f) (i : Int) = nowL l (k + 1) (fun c => if c = k then i else f c) := by
  refine asc_ext _ _ (putL_asc _ _ (selL_asc _ _) fun hm => ?_) (selL_asc _ _) fun z => ?_
  · obtain ⟨_, hu⟩ := (selL_mem _ _ _).1 hm
    have := (useB_iff.1 hu).2.1
    omega
  · rw [putL_mem]
    have hmem : ∀ j, j < l.length → (useB (k + 1) (bW l) (fun c => if c = k then i else f c) j = true ↔ j = i ∨ useB k (bW l) f j = true) := by
      intro j hj
      rw [useB_iff, useB_iff]
      constructor
      · rintro ⟨u1, u2, u3⟩
        by_cases e : bW l j = k
        · rw [if_pos e] at u3; exact .inl u3.symm
        · rw [if_neg e] at u3; exact .inr ⟨u1, by omega, u3⟩
      · rintro (rfl | ⟨u1, u2, u3⟩)
        · exact ⟨by omega, by omega, by rw [if_pos hb]⟩
        · exact ⟨u1, by omega, by rw [if_neg (by omega)]; exact u3⟩
    constructor
    · rintro (rfl | hz)
      · exact (selL_mem _ _ _).2 ⟨hi, (hmem i hi).2 (.inl rfl)⟩
      · obtain ⟨j, rfl, hj, hu⟩ := selL_nat _ _ z hz
        exact (selL_mem _ _ _).2 ⟨hj, (hmem j hj).2 (.inr hu)⟩
    · intro hz
      obtain ⟨j, rfl, hj, hu⟩ := selL_nat _ _ z hz
      rcases (hmem j hj).1 hu with rfl | hu
      · exact .inl rfl
      · exact .inr ((selL_mem _ _ _).2 ⟨hj, hu⟩)
theorem sumZ_mono {G : Nat → Int} (h : ∀ i, 0 ≤ G i) (i : Nat) : ∀ e, sumZ G i ≤ sumZ G (i + e)
  | 0 => Int.le_refl _
  | e + 1 => by rw [← Nat.add_assoc, sumZ]; have := h (i + e); have := sumZ_mono h i e; omega
theorem lin_low {s t : Int} {G : Nat → Int} {i : Nat} (h0 : 0 ≤ s) (hj : t = s + sumZ G i) (h : sumZ G 0 ≤ sumZ G i) : 0 ≤ t := by
  rw [show sumZ G 0 = 0 from rfl] at h
  generalize sumZ G i = x at hj h
  omega
theorem lin_high {s t : Int} {G : Nat → Int} {i m : Nat} (hj : t = s + sumZ G i) (hm : s + sumZ G m ≤ 1000000000) (h : sumZ G (i + 1) ≤ sumZ G m) : t + G i ≤ 1000000000 := by
  rw [sumZ] at h
  generalize sumZ G i = x at hj h
  generalize sumZ G m = y at hm h
  generalize G i = z at h ⊢
  omega
theorem lin_next {s t u : Int} {G : Nat → Int} {i : Nat} (hj : t = s + sumZ G i) (hu : u = t + G i) : u = s + sumZ G (i + 1) := by
  rw [sumZ, hu, hj, Int.add_assoc]
theorem refB_spec (hn1 : 2 ≤ n) (hn : n ≤ 7) (hl : l.length ≤ 30) (hx : ∀ x ∈ l, wayOk n x = true) (hsg : sign = 1 ∨ sign = -1) : ∀ (d corner : Nat) (f : Nat → Nat) (s : FoundS) (D : (Nat → Nat) → Prop), corner + d = n → 1 ≤ corner → (∀ c, 0 < c → c < corner → bW l (f c) = c ∧ f c < l.length) → InvF n l sign s D → 0 ≤ s.1 → s.1 + cntB (leafB n l) (bW l) l.length d corner f ≤ 1000000000 →
    ∃ s' : FoundS, (∀ k, 2000 + 100 * d ≤ k → refB.f k (n : Int) l sign (corner : Int) (nowL l corner f) s = some s') ∧ InvF n l sign s' (fun g => D g ∨ (BrB n l g ∧ extF f corner g)) ∧ s'.1 = s.1 + cntB (leafB n l) (bW l) l.length d corner f
  | 0, corner, f, s, D, hc, h1, hf, hI, hm0, hm => by
    obtain rfl : corner = n := by rw [← hc]; rfl
    have HM := Aside0.mk hm
    clear hm
    have hlen : (nowL l corner f).length ≤ 30 := by have := selL_length (useB corner (bW l) f) l.length; unfold nowL; omega
    have hin : InL corner l (nowL l corner f) := by
      intro i hi
      obtain ⟨j, rfl, hj, _⟩ := selL_nat _ _ i hi
      exact ⟨by omega, by omega, hx _ (rd_T30_mem l j hj)⟩
    have hall := all_reached (n := corner) (by omega) hn hin
    have hmemN : ∀ i : Nat, (i : Int) ∈ nowL l corner f ↔ ∃ c, 0 < c ∧ c < corner ∧ i = f c := by
      intro i
      unfold nowL
      rw [selL_mem, useB_iff]
      constructor
      · rintro ⟨_, u1, u2, u3⟩; exact ⟨_, u1, u2, u3.symm⟩
      · rintro ⟨c, c0, c1, rfl⟩
        obtain ⟨b1, b2⟩ := hf c c0 c1
        exact ⟨b2, by omega, by omega, by rw [b1]⟩
    have hbr : ((itS l (nowL l corner f) corner 1 : Nat) : Int) = 2 ^ corner - 1 ↔ BrB corner l f := by
      rw [hall]
      constructor
      · intro h
        exact ⟨fun c c0 c1 => ⟨(hf c c0 c1).2, (hf c c0 c1).1⟩, fun c hc => (h c hc).mono fun i hi => (hmemN i).1 hi⟩
      · intro h c hc
        exact (h.all c hc).mono fun i hi => (hmemN i).2 hi
    have hreach := fun k hk => reach_ref (n := corner) (by omega) hn hin (by omega) k hk
    have hleaf := leafB_brB (n := corner) (l := l) (by omega) hx hf
    have hm := HM.out
    clear HM
    rw [cntB] at hm ⊢
    generalize leafB corner l f = lf at hm hleaf ⊢
    have hstart : ∀ k, 2000 ≤ k → refB.f k (corner : Int) l sign (corner : Int) (nowL l corner f) s = if ((itS l (nowL l corner f) corner 1 : Nat) : Int) = 2 ^ corner - 1 then
        (trishawref03_cost.f (k - 1) l (nowL l corner f)).bind fun u => if (nowL l corner f).length = 0 then none else
          if s.2.2.length = 0 then some (wrap64 (s.1 + 1), wrap64 (sign * u), nowL l corner f) else
          if wrap64 (sign * u) < s.2.1 then some (wrap64 (s.1 + 1), wrap64 (sign * u), nowL l corner f) else
          if wrap64 (sign * u) = s.2.1 then (trishawref03_Less.f (k - 1) (nowL l corner f) s.2.2).bind fun b => if b = true then some (wrap64 (s.1 + 1), wrap64 (sign * u), nowL l corner f) else some (wrap64 (s.1 + 1), s.2.1, s.2.2)
          else some (wrap64 (s.1 + 1), s.2.1, s.2.2) else some s := by
      intro k hk
      obtain ⟨k, rfl⟩ : ∃ k', k = k' + 1 := ⟨k - 1, by omega⟩
      rw [refB.f, if_pos rfl, hreach k (by omega), Option.bind_some, if_pos (by omega), everyone_ref hn, Nat.add_sub_cancel]
    by_cases hB : BrB corner l f
    · have hle : lf = 1 := by
        rcases hleaf with ⟨h, _⟩ | ⟨_, h⟩
        · exact h
        · exact absurd hB h
      rw [hle] at hm ⊢
      have hlist : nowL l corner f = listB corner l f := rfl
      have hll := hB.selLen (n := corner) (by omega)
      have hne : listB corner l f ≠ [] := fun e => by unfold listB at e; rw [e] at hll; simp at hll; omega
      have hP : PreOk l (listB corner l f) (listB corner l f).length := ((full_iff (n := corner) (by omega) hn hx _).2 ⟨f, hB, rfl⟩).pre
      have hcost : ∀ k, 100 ≤ k → trishawref03_cost.f k l (listB corner l f) = some (costF corner (costW l) f) := by
        intro k hk
        have hlen' : (listB corner l f).length ≤ 30 := hlen
        have := cost_ref hx (L := listB corner l f) (by omega) hP (listB corner l f).length 0 (k - (listB corner l f).length - 1) (by omega)
        rw [show k - (listB corner l f).length - 1 + (listB corner l f).length + 1 = k from by omega, costN_list hB] at this
        unfold trishawref03_cost.f
        exact this
      have hcb := costF_low (n := corner) (l := l) (p := costW l) (by omega) hn (fun i hi => cost_low hx i hi) hB
      have hwc : wrap64 (sign * costF corner (costW l) f) = sign * costF corner (costW l) f := by
        rcases hsg with rfl | rfl <;> unfold wrap64 <;> omega
      have hwm : wrap64 (s.1 + 1) = s.1 + 1 := by unfold wrap64; omega
      refine ⟨stepF s (listB corner l f) (sign * costF corner (costW l) f), fun k hk => ?_, hI.step hB hne, stepF_many _ _ _⟩
      rw [hstart k (by omega), if_pos (hbr.2 hB), hlist, hcost _ (by omega), Option.bind_some, if_neg (by unfold listB; omega), hwc, hwm]
      unfold stepF
      by_cases h0 : s.2.2.length = 0
      · rw [if_pos h0, if_pos h0]
      rw [if_neg h0, if_neg h0]
      by_cases h2 : sign * costF corner (costW l) f < s.2.1
      · rw [if_pos h2, if_pos h2]
      rw [if_neg h2, if_neg h2]
      by_cases h3 : sign * costF corner (costW l) f = s.2.1
      · rw [if_pos h3, if_pos h3]
        obtain ⟨h, hh, e, _⟩ := hI.best (fun e => h0 (by rw [e]; rfl))
        have hbl : s.2.2.length < 1000 := by
          rw [e]; have := selL_length (useB corner (bW l) h) l.length; unfold listB; omega
        have hlen' : (listB corner l f).length ≤ 30 := hlen
        rw [less_f _ _ (by omega) hbl _ (by omega), Option.bind_some]
        by_cases h4 : lessL (listB corner l f) s.2.2 = true
        · rw [if_pos h4, if_pos h4]
        · rw [if_neg h4, if_neg h4]
      · rw [if_neg h3, if_neg h3]
    · have hle : lf = 0 := by
        rcases hleaf with ⟨_, h⟩ | ⟨h, _⟩
        · exact absurd h hB
        · exact h
      rw [hle, Int.add_zero]
      refine ⟨s, fun k hk => by rw [hstart k (by omega), if_neg (fun h => hB (hbr.1 h))], hI.congr fun g => ⟨.inl, fun h => h.resolve_right fun ⟨hg, he⟩ => hB (hg.congr he)⟩, rfl⟩
  | d + 1, corner, f, s, D, hc, h1, hf, hI, hm0, hm => by
    have HM := Aside0.mk hm
    clear hm
    have hlen : (nowL l corner f).length ≤ 30 := by have := selL_length (useB corner (bW l) f) l.length; unfold nowL; omega
    have hwc : wrap64 ((corner : Int) + 1) = ((corner + 1 : Nat) : Int) := wrap_nat corner (by omega)
    rw [cntB]
    have hnn0 : ∀ i, 0 ≤ (if bW l i = corner then cntB (leafB n l) (bW l) l.length d (corner + 1) (fun c => if c = corner then i else f c) else 0) := fun i => by
      split
      · exact cntB_nonneg (fun g => (leafB_01 (by omega) hx g).1) _ _ _ _
      · exact Int.le_refl _
    obtain ⟨G, hG⟩ : ∃ G : Nat → Int, (fun i => if bW l i = corner then cntB (leafB n l) (bW l) l.length d (corner + 1) (fun c => if c = corner then i else f c) else 0) = G := ⟨_, rfl⟩
    have hm := HM.out
    clear HM
    rw [cntB] at hm
    rw [hG] at hm ⊢
    have hGi : ∀ i, bW l i = corner → cntB (leafB n l) (bW l) l.length d (corner + 1) (fun c => if c = corner then i else f c) = G i := fun i hb => by
      have := congrFun hG i
      rwa [if_pos hb] at this
    have hG0 : ∀ i, bW l i ≠ corner → 0 = G i := fun i hb => by
      have := congrFun hG i
      rwa [if_neg hb] at this
    have hnn : ∀ i, 0 ≤ G i := fun i => by have := hnn0 i; rw [congrFun hG i] at this; exact this
    clear hnn0 hG
    have hmono : ∀ i e, sumZ G i ≤ sumZ G (i + e) := fun i e => sumZ_mono hnn i e
    have HMO := Aside0.mk hmono
    have HNN := Aside0.mk hnn
    have HM := Aside0.mk hm
    clear hmono hnn hm
    have hloop : ∀ (e i : Nat) (t : FoundS), i + e = l.length → InvF n l sign t (fun g => D g ∨ (BrB n l g ∧ extF f corner g ∧ g corner < i)) → Aside0 (t.1 = s.1 + sumZ G i) →
        ∃ s' : FoundS, (∀ k, 2000 + 100 * d + e + 1 ≤ k → refB.l0 k (n : Int) l sign (corner : Int) (nowL l corner f) t (i : Int) = some s') ∧ InvF n l sign s' (fun g => D g ∨ (BrB n l g ∧ extF f corner g)) ∧ Aside0 (s'.1 = s.1 + sumZ G l.length) := by
      intro e
      induction e with
      | zero =>
        intro i t hi hJ hj
        obtain rfl : i = l.length := by omega
        refine ⟨t, fun k hk => ?_, hJ.congr fun g => ⟨fun h => h.imp id fun h => ⟨h.1, h.2.1⟩, fun h => h.imp id fun h => ⟨h.1, h.2, (h.1.on corner (by omega) (by omega)).1⟩⟩, hj⟩
        obtain ⟨k, rfl⟩ : ∃ k', k = k' + 1 := ⟨k - 1, by omega⟩
        rw [refB.l0, if_neg (by omega)]
      | succ e ih =>
        intro i t hi hJ hj
        have hil : i < l.length := by omega
        have hw := wrap_nat i (by omega)
        have hb := (bW_eq hx i hil).1
        by_cases hbi : bW l i = corner
        · have hput := fun k hk => put_f (nowL l corner f) (i : Int) (by omega) k hk
          rw [nowL_put h1 hil hbi] at hput
          have hb1 : Aside0 (0 ≤ t.1 ∧ t.1 + G i ≤ 1000000000) := by
            have h3 := HMO.out (i + 1) e
            rw [show i + 1 + e = l.length by omega] at h3
            have h4 := HMO.out 0 i
            rw [Nat.zero_add] at h4
            exact ⟨lin_low hm0 hj.out h4, lin_high hj.out HM.out h3⟩
          obtain ⟨t', ht', hJ', hj'⟩ := refB_spec hn1 hn hl hx hsg d (corner + 1) (fun c => if c = corner then i else f c) t _ (by omega) (by omega) (fun c c0 c1 => by
            by_cases ec : c = corner
            · rw [if_pos ec]; exact ⟨by omega, hil⟩
            · rw [if_neg ec]; exact hf c c0 (by omega)) hJ hb1.out.1 (by rw [hGi i hbi]; exact hb1.out.2)
          rw [hGi i hbi] at hj'
          have HJ' := Aside0.mk (lin_next hj.out hj' : t'.1 = s.1 + sumZ G (i + 1))
          clear hj' hb1
          obtain ⟨s', hs', hK, hk⟩ := ih (i + 1) t' (by omega) (hJ'.congr fun g => by
            constructor
            · rintro ((h | ⟨a1, a2, a3⟩) | ⟨a1, a2⟩)
              · exact .inl h
              · exact .inr ⟨a1, a2, by omega⟩
              · have := a2 corner (by omega) (by omega)
                dsimp only at this
                rw [if_pos rfl] at this
                refine .inr ⟨a1, fun c c0 c1 => ?_, by omega⟩
                have := a2 c c0 (by omega)
                dsimp only at this
                rwa [if_neg (by omega)] at this
            · rintro (h | ⟨a1, a2, a3⟩)
              · exact .inl (.inl h)
              · by_cases eg : g corner < i
                · exact .inl (.inr ⟨a1, a2, eg⟩)
                · refine .inr ⟨a1, fun c c0 c1 => ?_⟩
                  by_cases ec : c = corner
                  · subst ec; dsimp only; rw [if_pos rfl]; omega
                  · dsimp only; rw [if_neg ec]; exact a2 c c0 (by omega)) HJ'
          refine ⟨s', fun k hk2 => ?_, hK, hk⟩
          obtain ⟨k, rfl⟩ : ∃ k', k = k' + 1 := ⟨k - 1, by omega⟩
          rw [refB.l0, if_pos (by omega), if_pos (by omega), if_pos (by omega), hput k (by omega), Option.bind_some, hwc, ht' k (by omega), Option.bind_some, hw]
          exact hs' k (by omega)
        · have HJ' := Aside0.mk (lin_next hj.out (show t.1 = t.1 + G i by rw [← hG0 i hbi, Int.add_zero]) : t.1 = s.1 + sumZ G (i + 1))
          obtain ⟨s', hs', hK, hk⟩ := ih (i + 1) t (by omega) (hJ.congr fun g => by
            constructor
            · exact fun h => h.imp id fun ⟨a1, a2, a3⟩ => ⟨a1, a2, by omega⟩
            · refine fun h => h.imp id fun ⟨a1, a2, a3⟩ => ⟨a1, a2, ?_⟩
              have hb2 := (a1.on corner (by omega) (by omega)).2
              have : g corner ≠ i := fun e => hbi (by rw [← e]; exact hb2)
              omega) HJ'
          refine ⟨s', fun k hk2 => ?_, hK, hk⟩
          obtain ⟨k, rfl⟩ : ∃ k', k = k' + 1 := ⟨k - 1, by omega⟩
          rw [refB.l0, if_pos (by omega), if_pos (by omega), if_neg (by omega), hw]
          exact hs' k (by omega)
    obtain ⟨s', hs', hK, hk⟩ := hloop l.length 0 s (by omega) (hI.congr fun g => ⟨.inl, fun h => h.resolve_right fun h => by omega⟩) ⟨by rw [sumZ, Int.add_zero]⟩
    refine ⟨s', fun k hk2 => ?_, hK, hk.out⟩
    obtain ⟨k, rfl⟩ : ∃ k', k = k' + 1 := ⟨k - 1, by omega⟩
    rw [refB.f, if_neg (by omega)]
    exact hs' k (by omega)
end
end Go.Proofs.Ytpmadffgdfholaa.B
namespace Go.Proofs.Ytpmadffgdfholaa.B
set_option linter.unusedVariables false
open Go.RowKit Go.Proofs.YtpmadffgdfholaaW.PrintWords Go.Proofs.YtpmadffgdfholaaW.PrintLast Go.Proofs.YtpmadffgdfholaaW.PrintMore
section
variable {n : Nat} {l : List S30}
theorem cntL_small (hn1 : 2 ≤ n) (hn : n ≤ 7) (hl : l.length ≤ 30) (hx : ∀ x ∈ l, wayOk n x = true) : (0 : Int) + cntB (leafB n l) (bW l) l.length (n - 1) 1 (fun _ => 0) ≤ 1000000000 := by
  have h1 := cntB_bound (b := bW l) (fun f => (leafB_01 (by omega) hx f).2) l.length (n - 1) 1 (fun _ => 0)
  rw [Int.zero_add]
  refine Int.le_trans h1 ?_
  have h5 : l.length ^ (n - 1) ≤ 30 ^ 6 := Nat.le_trans (Nat.pow_le_pow_left hl (n - 1)) (Nat.pow_le_pow_right (by decide) (by omega))
  have h6 : ((l.length : Int) ^ (n - 1)) = ((l.length ^ (n - 1) : Nat) : Int) := by norm_cast
  rw [h6]
  generalize l.length ^ (n - 1) = y at h5
  omega
theorem search_all (hr : readB (n : Int) l = 0) {sign : Int} (hsg : sign = 1 ∨ sign = -1) : ∃ s : FoundS, (∀ k, 3000 ≤ k → refB.f k (n : Int) l sign 1 [] (0, 0, []) = some s) ∧ InvF n l sign s (BrB n l) ∧ s.1 = cntL n l := by
  obtain ⟨h2, h7, h30, hx⟩ := readB_ok hr
  have hn1 : 2 ≤ n := by omega
  have hn : n ≤ 7 := by omega
  have hempty : nowL l 1 (fun _ => 0) = [] := by
    have : nowL l 1 (fun _ => 0) = selL (fun _ => false) l.length := selL_congr _ fun j _ => by
      refine Bool.eq_false_iff.mpr fun h => ?_
      have := useB_iff.1 h
      omega
    rw [this]
    unfold selL
    rw [List.filter_eq_nil_iff.2 fun _ _ => by decide]; rfl
  obtain ⟨s, h1, h3, h4⟩ := refB_spec hn1 hn h30 hx hsg (n - 1) 1 (fun _ => 0) (0, 0, []) (fun _ => False) (by omega) (by omega) (fun c c0 c1 => by omega)
    ⟨fun _ _ h => h, fun h => absurd rfl h, fun h => absurd rfl h⟩ (Int.le_refl _) (cntL_small hn1 hn h30 hx)
  rw [hempty] at h1
  refine ⟨s, fun k hk => h1 k (by omega), h3.congr fun g => ⟨fun h => h.elim False.elim (fun h => h.1), fun h => .inr ⟨h, fun c c0 c1 => by omega⟩⟩, ?_⟩
  rw [h4, Int.zero_add]
  rfl
theorem branching_ref (hr : readB (n : Int) l = 0) : ∀ k, 4000 ≤ k → trishawref03_Branching.f k (n : Int) l = branch_Branching.f k (n : Int) l := by
  obtain ⟨s, h1, h3, h4⟩ := search_all hr (sign := 1) (.inl rfl)
  obtain ⟨h2, h7, h30, hx⟩ := readB_ok hr
  have hpos := cntL_pos (n := n) (l := l) (by omega) hx
  have hstart : ∀ k, 4000 ≤ k → trishawref03_Branching.f k (n : Int) l = if s.1 = 0 then some ([], 0, 10) else some (s.2.2, wrap64 (1 * s.2.1), 0) := by
    intro k hk
    unfold trishawref03_Branching.f trishawref03_search.f
    rw [town_eq _ _ k (.inr (by omega)), hr, Option.bind_some, if_pos rfl, h1 k (by omega), Option.bind_some]
    by_cases e : s.1 = 0
    · rw [if_pos e]; rfl
    · rw [if_neg e]; rfl
  have h0 : (s.1 = 0) ↔ ¬ ∃ f, BrB n l f := by
    rw [← hpos, h4]
    have := (count_spec hr).1
    generalize cntL n l = C at this
    omega
  intro k hk
  rw [hstart k hk]
  rcases branching_spec hr with ⟨f, v, hfb, hkk⟩ | ⟨hno, hkk⟩
  · have hs : ¬ s.1 = 0 := fun h => h0.1 h ⟨f, hfb.is⟩
    have hnn : s.2.2 ≠ [] := fun e => h3.nil e f hfb.is
    obtain ⟨g, hg, e1, e2⟩ := h3.best hnn
    have a1 := h3.low hnn f hfb.is
    have a2 := hfb.least g hg
    have a3 := hfb.cost
    rw [Int.one_mul] at e2 a1
    have ev : s.2.1 = v := by omega
    have eL : listB n l f = s.2.2 := lessL_total _ _ (a1.2 (by omega)) (e1 ▸ hfb.not_less (by omega) hg (by omega))
    have hb := costF_low (n := n) (l := l) (p := costW l) (by omega) (by omega) (fun i hi => cost_low hx i hi) hfb.is
    rw [if_neg hs, hkk k (by omega), ← eL, Int.one_mul, ev, show wrap64 v = v by unfold wrap64; omega]
  · rw [if_pos (h0.2 fun ⟨f, hf⟩ => hno f hf), hkk k (by omega)]
theorem dear_ref (hr : readB (n : Int) l = 0) : ∀ k, 4000 ≤ k → trishawref03_Dear.f k (n : Int) l = branch_Dear.f k (n : Int) l := by
  obtain ⟨s, h1, h3, h4⟩ := search_all hr (sign := -1) (.inr rfl)
  obtain ⟨h2, h7, h30, hx⟩ := readB_ok hr
  have hpos := cntL_pos (n := n) (l := l) (by omega) hx
  have hstart : ∀ k, 4000 ≤ k → trishawref03_Dear.f k (n : Int) l = if s.1 = 0 then some ([], 0, 10) else some (s.2.2, wrap64 ((-1) * s.2.1), 0) := by
    intro k hk
    unfold trishawref03_Dear.f trishawref03_search.f
    rw [town_eq _ _ k (.inr (by omega)), hr, Option.bind_some, if_pos rfl, h1 k (by omega), Option.bind_some]
    by_cases e : s.1 = 0
    · rw [if_pos e]; rfl
    · rw [if_neg e]; rfl
  have h0 : (s.1 = 0) ↔ ¬ ∃ f, BrB n l f := by
    rw [← hpos, h4]
    have := (count_spec hr).1
    generalize cntL n l = C at this
    omega
  intro k hk
  rw [hstart k hk]
  rcases dear_spec hr with ⟨f, v, hfb, hkk⟩ | ⟨hno, hkk⟩
  · have hs : ¬ s.1 = 0 := fun h => h0.1 h ⟨f, hfb.is⟩
    have hnn : s.2.2 ≠ [] := fun e => h3.nil e f hfb.is
    obtain ⟨g, hg, e1, e2⟩ := h3.best hnn
    have a1 := h3.low hnn f hfb.is
    have a2 := hfb.least g hg
    have a3 := hfb.cost
    rw [costF_neg (by omega)] at a2 a3
    rw [Int.neg_mul, Int.one_mul] at e2 a1
    have ev : s.2.1 = -v := by omega
    have eL : listB n l f = s.2.2 := lessL_total _ _ (a1.2 (by omega)) (e1 ▸ hfb.not_less (by omega) hg (by rw [costF_neg (by omega)]; omega))
    have hb := costF_low (n := n) (l := l) (p := costW l) (by omega) (by omega) (fun i hi => cost_low hx i hi) hfb.is
    rw [if_neg hs, hkk k (by omega), ← eL, ev, show wrap64 (-1 * -v) = v by rw [Int.neg_mul, Int.one_mul, Int.neg_neg]; unfold wrap64; omega]
  · rw [if_pos (h0.2 fun ⟨f, hf⟩ => hno f hf), hkk k (by omega)]
theorem count_ref (hr : readB (n : Int) l = 0) : ∀ k, 4000 ≤ k → trishawref03_Count.f k (n : Int) l = some (cntL n l, 0) := by
  obtain ⟨s, h1, h3, h4⟩ := search_all hr (sign := 1) (.inl rfl)
  intro k hk
  unfold trishawref03_Count.f
  rw [town_eq _ _ k (.inr (by omega)), hr, Option.bind_some, if_pos rfl, h1 k (by omega), Option.bind_some, h4]
theorem search_refused {n : Int} (hr : readB n l ≠ 0) (k : Nat) (hk : 62 ≤ k) : trishawref03_Branching.f k n l = some ([], 0, readB n l) ∧ trishawref03_Dear.f k n l = some ([], 0, readB n l) ∧ trishawref03_Count.f k n l = some (0, readB n l) ∧ branch_Count.f k n l = some (0, readB n l) := by
  have ht := town_eq n l k (.inr hk)
  refine ⟨?_, ?_, ?_, ?_⟩
  · unfold trishawref03_Branching.f trishawref03_search.f; rw [ht, Option.bind_some, if_neg hr]; rfl
  · unfold trishawref03_Dear.f trishawref03_search.f; rw [ht, Option.bind_some, if_neg hr]; rfl
  · unfold trishawref03_Count.f; rw [ht, Option.bind_some, if_neg hr]
  · unfold branch_Count.f branch_read.f; rw [Option.bind_some, if_neg hr]
end
end Go.Proofs.Ytpmadffgdfholaa.B
namespace Go.Proofs.Ytpmadffgdfholaa.B
set_option linter.unusedVariables false
open Go.RowKit Go.Proofs.YtpmadffgdfholaaW.PrintWords Go.Proofs.YtpmadffgdfholaaW.PrintLast Go.Proofs.YtpmadffgdfholaaW.PrintMore
theorem light_l1 (n : Int) (l : List S30) (hl : l.length < 1000) (x5 b : Int) : ∀ (d i : Nat) (x7 : Int), i + d = l.length → ∃ y : Int, ∀ k, trishawlaw03_light.l1 (k + d + 1) n l x5 b x7 (i : Int) = trishawlaw03_light.l0 k n l (wrap64 (x5 * (mx 1 y))) (wrap64 (b + 1))
  | 0, i, x7, h => ⟨x7, fun k => by rw [show k + 0 + 1 = k + 1 from rfl, trishawlaw03_light.l1, if_neg (by omega)]⟩
  | d + 1, i, x7, h => by
    have hw := wrap_nat i (by omega)
    by_cases e : (rd_T30 l (i : Int)).f1 = b
    · obtain ⟨y, hy⟩ := light_l1 n l hl x5 b d (i + 1) (wrap64 (x7 + 1)) (by omega)
      refine ⟨y, fun k => ?_⟩
      rw [show k + (d + 1) + 1 = (k + d + 1) + 1 from by omega, trishawlaw03_light.l1, if_pos (by omega), if_pos (by omega), if_pos e, hw]
      exact hy k
    · obtain ⟨y, hy⟩ := light_l1 n l hl x5 b d (i + 1) x7 (by omega)
      refine ⟨y, fun k => ?_⟩
      rw [show k + (d + 1) + 1 = (k + d + 1) + 1 from by omega, trishawlaw03_light.l1, if_pos (by omega), if_pos (by omega), if_neg e, hw]
      exact hy k
theorem light_l0 (n : Nat) (hn : n ≤ 7) (l : List S30) (hl : l.length < 1000) : ∀ (d b : Nat) (x5 : Int), b + d = n → ∃ r : Bool, ∀ k, trishawlaw03_light.l0 (k + (l.length + 2) * d + 1) (n : Int) l x5 (b : Int) = some r
  | 0, b, x5, h => ⟨decide (x5 ≤ 4000), fun k => by rw [Nat.mul_zero, Nat.add_zero, trishawlaw03_light.l0, if_neg (by omega)]⟩
  | d + 1, b, x5, h => by
    have hw := wrap_nat b (by omega)
    obtain ⟨y, hy⟩ := light_l1 (n : Int) l hl x5 (b : Int) l.length 0 0 (by omega)
    obtain ⟨r, hr⟩ := light_l0 n hn l hl d (b + 1) (wrap64 (x5 * (mx 1 y))) (by omega)
    refine ⟨r, fun k => ?_⟩
    rw [show k + (l.length + 2) * (d + 1) + 1 = (k + (l.length + 2) * d + 1 + l.length + 1) + 1 from by rw [Nat.mul_succ]; omega, trishawlaw03_light.l0, if_pos (by omega)]
    have h1 := hy (k + (l.length + 2) * d + 1)
    rw [hw] at h1
    exact h1.trans (hr k)
theorem light_f (n : Int) (l : List S30) (hl : l.length < 1000) : ∃ r : Bool, ∀ k, 10000 ≤ k → trishawlaw03_light.f k n l = some r := by
  by_cases hr : readB n l = 0
  · obtain ⟨h2, h7, h30, hx⟩ := readB_ok hr
    obtain ⟨n, rfl⟩ := Int.eq_ofNat_of_zero_le (show 0 ≤ n by omega)
    obtain ⟨r, h⟩ := light_l0 n (by omega) l (by omega) (n - 1) 1 1 (by omega)
    have hb : (l.length + 2) * (n - 1) ≤ 32 * 6 := Nat.mul_le_mul (by omega) (by omega)
    refine ⟨r, fun k hk => ?_⟩
    have := h (k - (l.length + 2) * (n - 1) - 1)
    rw [show k - (l.length + 2) * (n - 1) - 1 + (l.length + 2) * (n - 1) + 1 = k from by omega] at this
    unfold trishawlaw03_light.f
    rw [town_eq _ _ k (.inr (by omega)), hr, Option.bind_some, if_pos rfl]
    exact this
  · refine ⟨true, fun k hk => ?_⟩
    unfold trishawlaw03_light.f
    rw [town_eq _ _ k (.inr (by omega)), Option.bind_some, if_neg hr]
end Go.Proofs.Ytpmadffgdfholaa.B
namespace Go.Proofs.Ytpmadffgdfholaa.Pure
set_option linter.unusedVariables false
open Go.RowKit Go.Proofs.Ytpmadffgdfholaa.B Go.Proofs.YtpmadffgdfholaaW.PrintWords Go.Proofs.YtpmadffgdfholaaW.PrintLast Go.Proofs.YtpmadffgdfholaaW.PrintMore
theorem BranchFinds : trishawlaw03_BranchFinds.Pure := by
  intro a0 l1 _ _ _
  have al := fun k hk => alive_from k hk
  have hj : ∀ q, 100 ≤ q → trishawlaw03_BranchFinds.j0 (q + 1) a0 l1 true = some true := fun q hq => by
    rw [trishawlaw03_BranchFinds.j0, if_pos rfl, al _ (by omega)]; rfl
  by_cases hf : (l1.length : Int) ≤ 60
  case neg =>
    refine ⟨200 + 1, ?_⟩
    unfold trishawlaw03_BranchFinds.f trishawlaw03_few.f
    rw [if_neg hf, Option.bind_some, if_neg (by decide)]; exact hj 200 (by omega)
  have hfew : trishawlaw03_few.f l1 [] = some true := by unfold trishawlaw03_few.f; rw [if_pos hf]; rfl
  obtain ⟨b, hb⟩ := light_f a0 l1 (by omega)
  have hsame : ∀ E : List Int, E.length ≤ 1000 → ∀ k, 1100 ≤ k → trishawlaw03_same.f k E E = some true := by
    intro E hE k hk
    have hs := same_self E hE E.length 0 (k - E.length - 1) (by omega)
    rw [show k - E.length - 1 + E.length + 1 = k from by omega] at hs
    unfold trishawlaw03_same.f
    rw [if_pos rfl]; exact hs
  -- what the three answer
  have h3 : ∃ K A1 A2 A3 B1 B2 B3 C1 C2, A1.length ≤ 1000 ∧ B1.length ≤ 1000 ∧ ∀ k, K ≤ k → branch_Branching.f k a0 l1 = some (A1, A2, A3) ∧ trishawref03_Branching.f k a0 l1 = some (A1, A2, A3) ∧ branch_Dear.f k a0 l1 = some (B1, B2, B3) ∧ trishawref03_Dear.f k a0 l1 = some (B1, B2, B3) ∧ branch_Count.f k a0 l1 = some (C1, C2) ∧ trishawref03_Count.f k a0 l1 = some (C1, C2) := by
    by_cases hr : readB a0 l1 = 0
    · obtain ⟨h2, h7, h30, hx⟩ := readB_ok hr
      obtain ⟨n, rfl⟩ := Int.eq_ofNat_of_zero_le (show 0 ≤ a0 by omega)
      obtain ⟨_, K, hc⟩ := count_spec hr
      have hlen : ∀ f, (listB n l1 f).length ≤ 1000 := fun f => by have := selL_length (useB n (bW l1) f) l1.length; unfold listB; omega
      have hA : ∃ A1 A2 A3, A1.length ≤ 1000 ∧ ∀ k, 3000 ≤ k → branch_Branching.f k (n : Int) l1 = some (A1, A2, A3) := by
        rcases branching_spec hr with ⟨f, v, _, hk⟩ | ⟨_, hk⟩
        · exact ⟨_, _, _, hlen f, hk⟩
        · exact ⟨_, _, _, by simp, hk⟩
      have hB : ∃ A1 A2 A3, A1.length ≤ 1000 ∧ ∀ k, 3000 ≤ k → branch_Dear.f k (n : Int) l1 = some (A1, A2, A3) := by
        rcases dear_spec hr with ⟨f, v, _, hk⟩ | ⟨_, hk⟩
        · exact ⟨_, _, _, hlen f, hk⟩
        · exact ⟨_, _, _, by simp, hk⟩
      obtain ⟨A1, A2, A3, a1, a2⟩ := hA
      obtain ⟨B1, B2, B3, b1, b2⟩ := hB
      refine ⟨K + 4000, A1, A2, A3, B1, B2, B3, cntL n l1, 0, a1, b1, fun k hk => ⟨a2 k (by omega), (branching_ref hr k (by omega)).trans (a2 k (by omega)), b2 k (by omega), (dear_ref hr k (by omega)).trans (b2 k (by omega)), hc k (by omega), count_ref hr k (by omega)⟩⟩
    · refine ⟨100, [], 0, readB a0 l1, [], 0, readB a0 l1, 0, readB a0 l1, by simp, by simp, fun k hk => ?_⟩
      obtain ⟨e1, e2, _⟩ := refused_spec hr k
      obtain ⟨e3, e4, e5, e6⟩ := search_refused hr k (by omega)
      exact ⟨e1, e3, e2, e4, e6, e5⟩
  obtain ⟨K, A1, A2, A3, B1, B2, B3, C1, C2, a1, b1, h⟩ := h3
  obtain ⟨q, hq1, hq2⟩ : ∃ q, K ≤ q ∧ 10000 ≤ q := ⟨K + 10000, by omega, by omega⟩
  refine ⟨q + 3, ?_⟩
  unfold trishawlaw03_BranchFinds.f
  rw [hfew, Option.bind_some, if_pos rfl, hb _ (by omega), Option.bind_some]
  cases b with
  | false => exact hj (q + 2) (by omega)
  | true =>
    obtain ⟨e1, e2, _⟩ := h (q + 2) (by omega)
    obtain ⟨_, _, e3, e4, _⟩ := h (q + 1) (by omega)
    obtain ⟨_, _, _, _, e5, e6⟩ := h q hq1
    show trishawlaw03_BranchFinds.j0 (q + 3) a0 l1 false = some true
    rw [trishawlaw03_BranchFinds.j0, if_neg (by decide), e1, Option.bind_some, e2, Option.bind_some, hsame A1 a1 _ (by omega), Option.bind_some, if_pos rfl, if_pos rfl]
    simp only [bne_self_eq_false]
    rw [trishawlaw03_BranchFinds.j1, if_neg (by decide), e3, Option.bind_some, e4, Option.bind_some, hsame B1 b1 _ (by omega), Option.bind_some, if_pos rfl, if_pos rfl]
    simp only [bne_self_eq_false]
    rw [trishawlaw03_BranchFinds.j2, if_neg (by decide), e5, Option.bind_some, e6, Option.bind_some, if_pos rfl, if_pos rfl, al _ (by omega)]; rfl
end Go.Proofs.Ytpmadffgdfholaa.Pure
