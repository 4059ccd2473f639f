/- Both determinants, the code's by minors and the statement's by columns, are one number. -/
import Derived.Test.YtpmadffgdfholaaCBP1
import Derived.Test.YtpmadffgdfholaaProg
import Derived.Test.YtpmadffgdfholaaCBWords
import Derived.Test.YtpmadffgdfholaaCBA0
import Derived.Below
import Derived.Deep.Draws
import Derived.Deep.AppendLies
import Derived.Maps.AppendAt
import Derived.OwnWalk
import Derived.Laws.BytesArg
import Derived.Laws.MakeOwn
import Derived.Laws.OwnMore
import Derived.Deep.OwnRows
import Derived.Tactics
import Derived.Lib.ConvBytes
import Derived.Laws.Slices
import Derived.WalkKit
import Derived.KernelRfl
import Derived.RowKit3
import Derived.Deep.LoopGhost
import Derived.Deep.QuietTactic
import Derived.BigQuiet
import Derived.WideLaws
import Derived.Deep.DeepCutAuto
import Derived.Deep.CutBlock
import Derived.Deep.RegionHeld3
import Derived.Laws.Rows
import Derived.Lib.AppendStr
import Derived.ArgAppend
import Derived.Laws.IdiomCopy
import Derived.OrdersHeld
import Derived.Laws.BitsLemmas
import Derived.RowKit
import Derived.Test.YtpmadffgdfholaaWWords
import Derived.Test.YtpmadffgdfholaaWLast
import Derived.Test.YtpmadffgdfholaaWTab
import Derived.Test.YtpmadffgdfholaaWFour
import Derived.Test.YtpmadffgdfholaaWQPut
import Derived.Test.YtpmadffgdfholaaWApart
import Derived.Test.YtpmadffgdfholaaWArr
import Derived.Test.YtpmadffgdfholaaWZeros
import Derived.Test.YtpmadffgdfholaaWFoot
import Derived.Test.YtpmadffgdfholaaWKept
import Derived.Test.YtpmadffgdfholaaWShare
import Derived.Test.YtpmadffgdfholaaWN
import Derived.Test.YtpmadffgdfholaaWFootNe
import Derived.Test.YtpmadffgdfholaaWAt
import Derived.Test.YtpmadffgdfholaaWEqStruct
import Derived.Test.YtpmadffgdfholaaWRepsOne
import Derived.Test.YtpmadffgdfholaaWInv
import Derived.Test.YtpmadffgdfholaaWInvWords
import Derived.Test.YtpmadffgdfholaaWGuard
import Derived.Test.YtpmadffgdfholaaWNEv
import Derived.Test.YtpmadffgdfholaaWMore
import Derived.Test.YtpmadffgdfholaaCBB1
namespace Go.Proofs.Ytpmadffgdfholaa.B
open Go.RowKit Go.Proofs.YtpmadffgdfholaaW.PrintWords Go.Proofs.YtpmadffgdfholaaW.PrintLast Go.Proofs.YtpmadffgdfholaaW.PrintMore

/-- Columns without the one at place p. -/
def cut1 (cols : List Int) (p : Nat) : List Int := cols.take p ++ cols.drop (p + 1)
/-- The sum along a row, from place p on. -/
def loopD (r cols : List Int) (D : Nat → Int) : Nat → Nat → Int → Int → Int
  | 0, _, s, _ => s
  | d + 1, p, s, g => if rd r (rd cols (p : Int)) = 0 then loopD r cols D d (p + 1) s (wrap64 (-g)) else loopD r cols D d (p + 1) (wrap64 (s + wrap64 (wrap64 (g * rd r (rd cols (p : Int))) * D p))) (wrap64 (-g))
/-- The determinant of rows at some columns. -/
def detW : List (List Int) → List Int → Int
  | [], _ => 1
  | r :: rows, cols => loopD r cols (fun p => detW rows (cut1 cols p)) cols.length 0 0 1
theorem cut1_length (cols : List Int) (p : Nat) (h : p < cols.length) : (cut1 cols p).length = cols.length - 1 := by
  simp [cut1]; omega
theorem cut1_mem {cols : List Int} {p : Nat} {c : Int} (h : c ∈ cut1 cols p) : c ∈ cols := by
  rcases List.mem_append.1 h with h | h
  · exact List.mem_of_mem_take h
  · exact List.mem_of_mem_drop h
theorem rd_mem (cols : List Int) (p : Nat) (h : p < cols.length) : rd cols (p : Int) ∈ cols := by
  simp [rd, List.getD, List.getElem?_eq_getElem h]

theorem law_loop (M : List (List Int)) (cols r : List Int) (D : Nat → Int) (K : Nat) (hlen : cols.length < 1000) (hcol : ∀ c ∈ cols, 0 ≤ c ∧ c < (r.length : Int))
    (hD : ∀ p, p < cols.length → ∀ k, K ≤ k → trishawlaw03_determinant.f k M (cut1 cols p) = some (D p)) :
    ∀ d p k s g, p + d = cols.length → K ≤ k → trishawlaw03_determinant.l0 (k + d + 1) M cols s g r (p : Int) = some (loopD r cols D d p s g)
  | 0, p, k, s, g, h, hk => by
    simp only [trishawlaw03_determinant.l0, loopD]
    rw [if_neg (by omega)]
  | d + 1, p, k, s, g, h, hk => by
    have hp : p < cols.length := by omega
    have hw := wrap_nat p (by omega)
    obtain ⟨hc0, hc1⟩ := hcol _ (rd_mem cols p hp)
    have hlt : (cols.take p).length < 17592186044416 := by rw [List.length_take]; omega
    have hlt2 : (cols.take p).length + (cols.drop (p + 1)).length < 17592186044416 := by rw [List.length_take, List.length_drop]; omega
    have hk1 : K ≤ k + d + 1 := by omega
    have ihs := fun s g => law_loop M cols r D K hlen hcol hD d (p + 1) k s g (by omega) hk
    have hDp := hD p hp (k + d + 1) hk1
    unfold cut1 at hDp
    rw [show k + (d + 1) + 1 = (k + d + 1) + 1 from by omega]
    generalize k + d + 1 = q at ihs hDp
    simp only [trishawlaw03_determinant.l0, loopD, hw, Int.toNat_natCast, List.nil_append, List.length_nil, Nat.zero_add, Option.bind_some]
    rw [if_pos (by omega), if_pos (by omega), if_pos (by omega), if_pos hlt, if_pos (by omega), if_pos (by omega), if_pos hlt2, if_pos hc0, if_pos hc1]
    by_cases h0 : rd r (rd cols (p : Int)) = 0
    · rw [if_pos h0, if_pos h0]
      exact ihs _ _
    · rw [if_neg h0, if_neg h0, hDp, Option.bind_some]
      exact ihs _ _

theorem law_det (M : List (List Int)) (m : Nat) (hm : M.length = m) (hm7 : m < 1000) (hrow : ∀ r ∈ M, r.length = m) : ∀ (rows : List (List Int)) (cols : List Int), rows.length = cols.length → rows = M.drop (m - cols.length) → cols.length ≤ m → (∀ c ∈ cols, 0 ≤ c ∧ c < (m : Int)) →
    ∃ K, ∀ k, K ≤ k → trishawlaw03_determinant.f k M cols = some (detW rows cols)
  | [], cols, hl, _, _, _ => by
    refine ⟨1, fun k hk => ?_⟩
    obtain ⟨k, rfl⟩ : ∃ k', k = k' + 1 := ⟨k - 1, by omega⟩
    simp only [trishawlaw03_determinant.f, detW]
    rw [if_pos (by simp at hl; omega)]
  | r :: rows, cols, hl, hdr, hle, hc => by
    have hcl : 0 < cols.length := by simp at hl; omega
    have hlt : m - cols.length < M.length := by omega
    have hd2 : M.drop (m - cols.length) = M[m - cols.length]'hlt :: M.drop (m - cols.length + 1) := List.drop_eq_getElem_cons hlt
    rw [hd2] at hdr
    injection hdr with hr hrs
    have hrl : r.length = m := hrow r (hr ▸ List.getElem_mem hlt)
    have hD : ∀ p : Nat, ∃ K, p < cols.length → ∀ k, K ≤ k → trishawlaw03_determinant.f k M (cut1 cols p) = some (detW rows (cut1 cols p)) := by
      intro p
      by_cases hp : p < cols.length
      · have hcut := cut1_length cols p hp
        obtain ⟨K, hK⟩ := law_det M m hm hm7 hrow rows (cut1 cols p) (by simp at hl; omega) (by rw [hcut, hrs]; congr 1; omega) (by omega) (fun c h => hc c (cut1_mem h))
        exact ⟨K, fun _ => hK⟩
      · exact ⟨0, fun h => absurd h hp⟩
    obtain ⟨F, hF⟩ := Classical.axiomOfChoice hD
    obtain ⟨K, hK⟩ : ∃ K, ∀ p, p < cols.length → F p ≤ K := by
      refine ⟨((List.range cols.length).map F).foldr max 0, fun p hp => ?_⟩
      have : ∀ (l : List Nat) (x : Nat), x ∈ l → x ≤ l.foldr max 0 := by
        intro l
        induction l with
        | nil => intro x hx; cases hx
        | cons y l ih =>
          intro x hx
          rcases List.mem_cons.1 hx with rfl | hx
          · exact Nat.le_max_left _ _
          · exact Nat.le_trans (ih x hx) (Nat.le_max_right _ _)
      exact this _ _ (List.mem_map.2 ⟨p, List.mem_range.2 hp, rfl⟩)
    refine ⟨K + cols.length + 2, fun k hk => ?_⟩
    obtain ⟨k, rfl⟩ : ∃ k', k = (k' + cols.length + 1) + 1 := ⟨k - cols.length - 2, by omega⟩
    have hfin := fun hh => law_loop M cols r (fun p => detW rows (cut1 cols p)) K (by omega) (fun c h => by rw [hrl]; exact hc c h) (fun p hp k' hk' => hF p hp k' (Nat.le_trans (hK p hp) hk')) cols.length 0 k 0 1 hh (by omega)
    replace hfin := hfin (by omega)
    generalize k + cols.length + 1 = q at hfin
    have hw : wrap64 ((M.length : Int) - (cols.length : Int)) = ((m - cols.length : Nat) : Int) := by unfold wrap64; omega
    simp only [trishawlaw03_determinant.f, detW, hw]
    rw [if_neg (by omega), if_pos (by omega), if_pos (by omega)]
    have hrd : rd_L12 M ((m - cols.length : Nat) : Int) = r := by
      simp [rd_L12, List.getD, List.getElem?_eq_getElem hlt, hr]
    rw [hrd]
    exact hfin

/-! ### the code's -/
def minor1 (p : Nat) (row : List Int) : List Int := row.take p ++ row.drop (p + 1)
def sub1 (rows : List (List Int)) (cols : List Int) : List (List Int) := rows.map fun r => cols.map fun c => rd r c
theorem sub1_minor (rows : List (List Int)) (cols : List Int) (p : Nat) : (sub1 rows cols).map (minor1 p) = sub1 rows (cut1 cols p) := by
  simp [sub1, minor1, cut1, List.map_take, List.map_drop]
theorem rd_L12_at (Y : List (List Int)) (q : Nat) (h : q < Y.length) : rd_L12 Y (q : Int) = Y[q] := by
  simp [rd_L12, List.getD, List.getElem?_eq_getElem h]
theorem rd_map (r cols : List Int) (p : Nat) (h : p < cols.length) : rd (cols.map fun c => rd r c) (p : Int) = rd r (rd cols (p : Int)) := by
  simp [rd, List.getD, List.getElem?_eq_getElem h, List.getElem?_map]

theorem code_inner (T Y : List (List Int)) (T0 : List Int) (s g x : Int) (p c : Nat) (hp : p < c) (hc : c < 1000) (hY : ∀ r ∈ Y, r.length = c) (hYl : Y.length < 1000) :
    ∀ e q k acc, q + e = Y.length → acc.length + e < 2000 → branch_determinant.l1 (k + e + 1) T s g (p : Int) x acc T0 (c : Int) (p : Int) Y (Y.length : Int) (q : Int) =
      (branch_determinant.f k (acc ++ (Y.drop q).map (minor1 p))).bind fun t119 => (branch_determinant.l0 k T (wrap64 (s + (wrap64 ((wrap64 (g * x)) * t119)))) (wrap64 (-g)) T0 (c : Int) (wrap64 ((p : Int) + 1)))
  | 0, q, k, acc, h, _ => by
    simp only [branch_determinant.l1]
    rw [if_neg (by omega), List.drop_eq_nil_of_le (by omega), List.map_nil, List.append_nil]
  | e + 1, q, k, acc, h, ha => by
    have hq : q < Y.length := by omega
    have hw := wrap_nat q (by omega)
    have hwp := wrap_nat p (by omega)
    have hlen : (Y[q]).length = c := hY _ (List.getElem_mem hq)
    have hcl : slices_Clone.f ((Y[q]).take p) = some ((Y[q]).take p) := by
      unfold slices_Clone.f
      rw [if_pos (by rw [List.length_take]; omega)]
    have ih := code_inner T Y T0 s g x p c hp hc hY hYl e (q + 1) k (acc ++ [minor1 p Y[q]]) (by omega) (by simp; omega)
    have hl3 : ((Y[q]).take p).length + ((Y[q]).drop (p + 1)).length < 17592186044416 := by rw [List.length_take, List.length_drop]; omega
    rw [show k + (e + 1) + 1 = (k + e + 1) + 1 from by omega]
    generalize k + e + 1 = qq at ih
    simp only [branch_determinant.l1, rd_L12_at Y q hq, hw, hwp, Int.toNat_natCast, hcl, Option.bind_some, hlen]
    rw [if_pos (by omega), if_pos (by omega), if_pos (by omega), if_pos (by omega), if_pos (by omega), if_pos (by omega), if_pos (by omega), if_pos hl3, if_pos (by omega)]
    rw [List.drop_eq_getElem_cons hq, List.map_cons]
    have e1 : acc ++ (minor1 p Y[q] :: (Y.drop (q + 1)).map (minor1 p)) = (acc ++ [minor1 p Y[q]]) ++ (Y.drop (q + 1)).map (minor1 p) := by simp
    rw [e1, ← hwp, ← ih]
    rfl

theorem code_loop (T Y : List (List Int)) (r cols : List Int) (D : Nat → Int) (K : Nat) (hT : T = (cols.map fun c => rd r c) :: Y) (hc : cols.length < 1000) (hY : ∀ r ∈ Y, r.length = cols.length) (hYl : Y.length < 1000)
    (hD : ∀ p, p < cols.length → ∀ k, K ≤ k → branch_determinant.f k (Y.map (minor1 p)) = some (D p)) :
    ∀ d p k s g, p + d = cols.length → K ≤ k → branch_determinant.l0 (k + (Y.length + 2) * d + 1) T s g (cols.map fun c => rd r c) (cols.length : Int) (p : Int) = some (loopD r cols D d p s g)
  | 0, p, k, s, g, h, hk => by
    simp only [branch_determinant.l0, loopD, Nat.mul_zero, Nat.add_zero]
    rw [if_neg (by omega)]
  | d + 1, p, k, s, g, h, hk => by
    have hp : p < cols.length := by omega
    have hw := wrap_nat p (by omega)
    have ih0 := fun s g => code_loop T Y r cols D K hT hc hY hYl hD d (p + 1) (k + Y.length + 1) s g (by omega) (by omega)
    have ih1 := fun s g => code_loop T Y r cols D K hT hc hY hYl hD d (p + 1) k s g (by omega) hk
    have hDp := hD p hp (k + (Y.length + 2) * d + 1) (Nat.le_trans hk (by omega))
    have hin := fun s g x => code_inner T Y (cols.map fun c => rd r c) s g x p cols.length hp hc hY hYl Y.length 0 (k + (Y.length + 2) * d + 1) [] (by omega) (by simp; omega)
    have hTl : T.length = Y.length + 1 := by rw [hT]; simp
    have hTd : T.drop 1 = Y := by rw [hT]; rfl
    have e1 : k + (Y.length + 2) * (d + 1) + 1 = (k + Y.length + 1 + (Y.length + 2) * d + 1) + 1 := by rw [Nat.mul_succ]; omega
    have e2 : k + Y.length + 1 + (Y.length + 2) * d + 1 = k + (Y.length + 2) * d + 1 + Y.length + 1 := by omega
    rw [e1]
    rw [e2] at ih0 ⊢
    generalize k + (Y.length + 2) * d + 1 + Y.length + 1 = qq at ih0 hin
    simp only [branch_determinant.l0, loopD, rd_map r cols p hp, hw, List.length_map, hTd, Option.bind_some]
    rw [if_pos (by omega), if_pos (by omega), if_pos (by omega)]
    by_cases h0 : rd r (rd cols (p : Int)) = 0
    · rw [if_pos h0, if_pos h0]
      exact ih0 _ _
    · rw [if_neg h0, if_neg h0, if_pos (by omega)]
      have := hin s g (rd r (rd cols (p : Int)))
      simp only [List.nil_append, List.drop_zero, hDp, Option.bind_some, hw] at this
      rw [show ((0 : Nat) : Int) = 0 from rfl] at this
      rw [this]
      exact ih1 _ _

theorem code_det : ∀ (rows : List (List Int)) (cols : List Int), rows.length = cols.length → cols.length < 1000 → ∃ K, ∀ k, K ≤ k → branch_determinant.f k (sub1 rows cols) = some (detW rows cols)
  | [], cols, hl, _ => by
    refine ⟨1, fun k hk => ?_⟩
    obtain ⟨k, rfl⟩ : ∃ k', k = k' + 1 := ⟨k - 1, by omega⟩
    simp only [branch_determinant.f, detW, sub1]
    rfl
  | r :: rows, cols, hl, hc => by
    have hcl : 0 < cols.length := by simp at hl; omega
    have hD : ∀ p : Nat, ∃ K, p < cols.length → ∀ k, K ≤ k → branch_determinant.f k (sub1 rows (cut1 cols p)) = some (detW rows (cut1 cols p)) := by
      intro p
      by_cases hp : p < cols.length
      · have hcut := cut1_length cols p hp
        obtain ⟨K, hK⟩ := code_det rows (cut1 cols p) (by simp at hl; omega) (by omega)
        exact ⟨K, fun _ => hK⟩
      · exact ⟨0, fun h => absurd h hp⟩
    obtain ⟨F, hF⟩ := Classical.axiomOfChoice hD
    obtain ⟨K, hK⟩ : ∃ K, ∀ p, p < cols.length → F p ≤ K := by
      refine ⟨((List.range cols.length).map F).foldr max 0, fun p hp => ?_⟩
      have : ∀ (l : List Nat) (x : Nat), x ∈ l → x ≤ l.foldr max 0 := by
        intro l
        induction l with
        | nil => intro x hx; cases hx
        | cons y l ih =>
          intro x hx
          rcases List.mem_cons.1 hx with rfl | hx
          · exact Nat.le_max_left _ _
          · exact Nat.le_trans (ih x hx) (Nat.le_max_right _ _)
      exact this _ _ (List.mem_map.2 ⟨p, List.mem_range.2 hp, rfl⟩)
    have hYl : (sub1 rows cols).length = rows.length := by simp [sub1]
    refine ⟨K + (rows.length + 2) * cols.length + 2, fun k hk => ?_⟩
    have hfin := code_loop (sub1 (r :: rows) cols) (sub1 rows cols) r cols (fun p => detW rows (cut1 cols p)) K rfl hc (fun x hx => by
        obtain ⟨y, _, rfl⟩ := List.mem_map.1 hx
        simp) (by simp at hl; omega) (fun p hp k' hk' => by rw [sub1_minor]; exact hF p hp k' (Nat.le_trans (hK p hp) hk')) cols.length 0 (k - (rows.length + 2) * cols.length - 2) 0 1 (by omega) (by omega)
    rw [hYl, show k - (rows.length + 2) * cols.length - 2 + (rows.length + 2) * cols.length + 1 = k - 1 from by omega] at hfin
    obtain ⟨k, rfl⟩ : ∃ k', k = k' + 1 := ⟨k - 1, by omega⟩
    simp only [branch_determinant.f, detW]
    rw [if_neg (by simp [sub1]; omega), if_pos (by simp [sub1])]
    have e0 : rd_L12 (sub1 (r :: rows) cols) 0 = cols.map fun c => rd r c := rfl
    rw [e0, List.length_map]
    exact hfin
end Go.Proofs.Ytpmadffgdfholaa.B
