/- Texts behind the row of BranchFinds, part 4: contracts of the functions it reaches, words that their walks use, and lemmas in plain Lean. -/
import Derived.Below
import Derived.Deep.Draws
import Derived.Deep.AppendLies
import Derived.Maps.AppendAt
import Derived.OwnWalk
import Derived.Laws.BytesArg
import Derived.Laws.MakeOwn
import Derived.Laws.OwnMore
import Derived.Deep.OwnRows
import Derived.Tactics
import Derived.Lib.ConvBytes
import Derived.Laws.Slices
import Derived.WalkKit
import Derived.KernelRfl
import Derived.RowKit3
import Derived.Deep.LoopGhost
import Derived.Deep.QuietTactic
import Derived.BigQuiet
import Derived.WideLaws
import Derived.Deep.DeepCutAuto
import Derived.Deep.CutBlock
import Derived.Deep.RegionHeld3
import Derived.Laws.Rows
import Derived.Lib.AppendStr
import Derived.ArgAppend
import Derived.Laws.IdiomCopy
import Derived.RowKit
import Derived.OrdersHeld
import Derived.Laws.BitsLemmas
import Derived.Test.YtpmadffgdfholaaProg
import Derived.Laws.StructEq
import Derived.WalkSpells
import Derived.MapKept
import Derived.Deep.DrawnRows
import Derived.Maps.RangeWalk
import Derived.Laws.EntriesVeiled
import Derived.Deep.Slices
import Derived.Deep.Fields
import Derived.ChangeSame
import Derived.Test.YtpmadffgdfholaaK1
import Derived.Test.YtpmadffgdfholaaK2
import Derived.Test.YtpmadffgdfholaaK3
namespace Go.Proofs.Ytpmadffgdfholaa.B
open Go.RowKit Go.MapKept Go.Proofs.YtpmadffgdfholaaW.PrintWords Go.Proofs.YtpmadffgdfholaaW.PrintLast Go.Proofs.YtpmadffgdfholaaW.PrintMore
set_option linter.unusedVariables false
set_option linter.unusedSimpArgs false
attribute [local go_sem ↓] Go.wp_at_zero Go.wp_at_succ
def branch_Branching.f (k : Nat) (a0 : Int) (l1 : List S30) : Option (List Int × Int × Int) :=
  (branch_read.f a0 l1).bind fun t => if t = 0 then (branch_town_costs.f k a0 l1).bind fun p => branch_town_first.f k a0 l1 p else some ([], 0, t)
theorem branch_Branching.mono : ∀ a0 a1 k, LeO (branch_Branching.f k a0 a1) (branch_Branching.f (k + 1) a0 a1) := by
  intro a0 a1 k
  unfold branch_Branching.f
  refine LeO.bind (LeO.refl _) fun t => LeO.ite ?_ (LeO.refl _)
  exact LeO.bind (branch_town_costs.mono _ _ k) fun p => branch_town_first.mono _ _ _ k
/-- What Dear's prices are. -/
def dearB (p : List Int) : List Int := p.map fun x => wrap64 (1000 - x)
theorem dearB_length (p : List Int) : (dearB p).length = p.length := by simp [dearB]
theorem dear_rd (p : List Int) (j : Nat) (h : j < p.length) : rd (dearB (p.take j) ++ p.drop j) (j : Int) = rd p (j : Int) := by
  have hl : (dearB (p.take j)).length = j := by rw [dearB_length, List.length_take]; omega
  simp only [rd, Int.toNat_natCast, List.getD]
  rw [List.getElem?_append_right (by omega), hl, Nat.sub_self, List.getElem?_drop, Nat.add_zero]
theorem dear_set (p : List Int) (j : Nat) (h : j < p.length) : (dearB (p.take j) ++ p.drop j).set j (wrap64 (1000 - rd p (j : Int))) = dearB (p.take (j + 1)) ++ p.drop (j + 1) := by
  have hl : (dearB (p.take j)).length = j := by rw [dearB_length, List.length_take]; omega
  rw [take_rdI p j h, drop_rdI p j h]
  rw [List.set_append_right _ _ (by omega), hl, Nat.sub_self]
  simp [dearB]
def branch_Dear.f (k : Nat) (a0 : Int) (l1 : List S30) : Option (List Int × Int × Int) :=
  (branch_read.f a0 l1).bind fun t => if t = 0 then (branch_town_costs.f k a0 l1).bind fun p => if p.length < 17592186044416 then (branch_town_first.f k a0 l1 (dearB p)).bind fun r =>
    if r.2.2 = 0 then some (r.1, wrap64 (wrap64 (wrap64 (a0 - 1) * 1000) - r.2.1), 0) else some ([], 0, r.2.2) else none else some ([], 0, t)
set_option maxHeartbeats 8000000 in
set_option maxRecDepth 100000 in
theorem branch_Branching.calls (k : Nat) (a0 : Int) (A1 : Option Addr) (c1 : Nat) (l1 : List S30) (r1 : List Int) (r2 r3 : Int) (w : World) (hr1 : Kd.C k30 w A1 l1.length l1) (hc1 : l1.length ≤ c1) (h : branch_Branching.f k a0 l1 = some (r1, r2, r3)) :
    Calls Try.prog 24 #[.int .i64 a0, .slice A1 l1.length c1] w fun e w' => ∃ v0_ : Value, e = .returned (.tuple #[v0_, .int .i64 r2, .int .i64 r3]) ∧ Kd.R (Kd.int .i64) 3 w' w.heap.size (fun _ => True) v0_ r1 ∧ Below w.heap.size w w' := by
  have HR1 := Aside0.mk hr1
  have HC1 := Aside0.mk hc1
  clear hr1 hc1
  have HB := Aside0.mk (Below.refl w.heap.size w)
  unfold branch_Branching.f at h
  obtain ⟨t, ht, h⟩ := Option.bind_eq_some_iff.1 h
  have HT0 := Aside0.mk ht
  clear ht
  by_cases c3 : t = 0
  case neg =>
    rw [if_neg c3] at h
    have c3b : (t == 0) = false := beq_eq_false_iff_ne.mpr c3
    have c3c : (t != 0) = true := bne_iff_ne.mpr c3
    simp only [Option.some.injEq, Prod.mk.injEq] at h
    obtain ⟨rfl, rfl, rfl⟩ := h
    clear c3
    go_enter Try.func24, Try.ntmps24
    go_wp2_with (first | (go_at_call 44; (refine (branch_read.calls_err a0 A1 c1 l1 t _ HR1.out HC1.out HT0.out (by assumption)).mono ?_); rintro e w1 ⟨rfl, hb⟩; clear HB; have HB := Aside0.mk hb; clear hb))
    go_ret3
    exact ⟨_, by first | rfl | (simp; done), Kd.R_nil _ _ _ _ _, HB.out⟩
  rw [if_pos c3] at h
  have c3b : (t == 0) = true := beq_iff_eq.mpr c3
  have c3c : (t != 0) = false := bne_eq_false_iff_eq.mpr c3
  clear c3
  obtain ⟨p, hp, h⟩ := Option.bind_eq_some_iff.1 h
  have HPR := Aside0.mk hp
  clear hp
  have HF := Aside0.mk h
  clear h
  go_enter Try.func24, Try.ntmps24
  go_wp2_with (first | (go_at_call 44; (refine (branch_read.calls_map a0 A1 c1 l1 t _ HR1.out HC1.out HT0.out (by assumption)).mono ?_); rintro e w1 ⟨gt, mm, rfl, hg, hbox, hgm, hb⟩; have GT := Aside0.mk hg; have HT := Aside0.mk hbox; have HG := Aside0.mk hgm; clear HB; have HB := Aside0.mk hb; clear hg hbox hgm hb) | (go_at_call 47; (refine (branch_town_costs.calls k gt a0 A1 c1 l1 (some mm) p _ HT.out (Kd.C_below HR1.out HB.out) HC1.out HPR.out).mono ?_); rintro e w2 ⟨vl, rfl, ho, hb⟩; obtain ⟨Al, cl, hvl⟩ := Kd.R_slice ho; subst hvl; have HO := Aside0.mk (Kd.R_lower ho (below_size HB.out)); have n0_ := Aside0.mk (blk_below HT.out hb); have n1_ := Aside0.mk (below_step HB.out hb); have n2_ := Aside0.mk (HG.out.below hb); clear HT HB HG; have HT := n0_; have HB := n1_; have HG := n2_; clear n0_ n1_ n2_ ho hb) | (go_at_call 51; (refine (branch_town_first.calls k gt a0 A1 c1 l1 mm w.heap.size Al cl p r1 r2 r3 _ HT.out (Kd.C_below HR1.out HB.out) HC1.out (Kd.R_reads' HO.out).2.2 (Kd.R_reads' HO.out).2.1 HG.out HF.out).mono ?_); rintro e w3 ⟨vf, rfl, ho, hb⟩; have HV := Aside0.mk (Kd.R_lower ho (below_size HB.out)); have n0_ := Aside0.mk (below_step HB.out hb); clear HB; have HB := n0_; clear n0_ ho hb))
  go_ret3
  exact ⟨_, by first | rfl | (simp; done), by (with_reducible repeat (first | apply Kd.R_alloc | apply Kd.R_drewN | apply Kd.R_drew)); exact HV.out, by repeat (first | (with_reducible first | exact HB.out | apply below_alloc | apply pw_below_drewN | apply below_drew1) | exact HB.out)⟩
set_option maxHeartbeats 8000000 in
set_option maxRecDepth 100000 in
theorem branch_Dear.calls (k : Nat) (a0 : Int) (A1 : Option Addr) (c1 : Nat) (l1 : List S30) (r1 : List Int) (r2 r3 : Int) (w : World) (hr1 : Kd.C k30 w A1 l1.length l1) (hc1 : l1.length ≤ c1) (h : branch_Dear.f k a0 l1 = some (r1, r2, r3)) :
    Calls Try.prog 26 #[.int .i64 a0, .slice A1 l1.length c1] w fun e w' => ∃ v0_ : Value, e = .returned (.tuple #[v0_, .int .i64 r2, .int .i64 r3]) ∧ Kd.R (Kd.int .i64) 3 w' w.heap.size (fun _ => True) v0_ r1 ∧ Below w.heap.size w w' := by
  have HR1 := Aside0.mk hr1
  have HC1 := Aside0.mk hc1
  clear hr1 hc1
  have HB := Aside0.mk (Below.refl w.heap.size w)
  unfold branch_Dear.f at h
  obtain ⟨t, ht, h⟩ := Option.bind_eq_some_iff.1 h
  have HT0 := Aside0.mk ht
  clear ht
  by_cases c3 : t = 0
  case neg =>
    rw [if_neg c3] at h
    have c3b : (t == 0) = false := beq_eq_false_iff_ne.mpr c3
    have c3c : (t != 0) = true := bne_iff_ne.mpr c3
    simp only [Option.some.injEq, Prod.mk.injEq] at h
    obtain ⟨rfl, rfl, rfl⟩ := h
    clear c3
    go_enter Try.func26, Try.ntmps26
    go_wp2_with (first | (go_at_call 44; (refine (branch_read.calls_err a0 A1 c1 l1 t _ HR1.out HC1.out HT0.out (by assumption)).mono ?_); rintro e w1 ⟨rfl, hb⟩; clear HB; have HB := Aside0.mk hb; clear hb))
    go_ret3
    exact ⟨_, by first | rfl | (simp; done), Kd.R_nil _ _ _ _ _, HB.out⟩
  rw [if_pos c3] at h
  have c3b : (t == 0) = true := beq_iff_eq.mpr c3
  have c3c : (t != 0) = false := bne_eq_false_iff_eq.mpr c3
  clear c3
  obtain ⟨p, hp, h⟩ := Option.bind_eq_some_iff.1 h
  have HPR := Aside0.mk hp
  clear hp
  by_cases hpl : p.length < 17592186044416
  case neg => rw [if_neg hpl] at h; exact absurd h (by simp)
  rw [if_pos hpl] at h
  have HPL := Aside0.mk hpl
  clear hpl
  obtain ⟨⟨q1, q2, q3⟩, hq, h⟩ := Option.bind_eq_some_iff.1 h
  have HF := Aside0.mk hq
  have HH := Aside0.mk h
  clear hq h
  go_enter Try.func26, Try.ntmps26
  go_wp2_with (first | (go_at_call 44; (refine (branch_read.calls_map a0 A1 c1 l1 t _ HR1.out HC1.out HT0.out (by assumption)).mono ?_); rintro e w1 ⟨gt, mm, rfl, hg, hbox, hgm, hb⟩; have GT := Aside0.mk hg; have HT := Aside0.mk hbox; have HG := Aside0.mk hgm; clear HB; have HB := Aside0.mk hb; clear hg hbox hgm hb) | (go_at_call 47; (refine (branch_town_costs.calls k gt a0 A1 c1 l1 (some mm) p _ HT.out (Kd.C_below HR1.out HB.out) HC1.out HPR.out).mono ?_); rintro e w2 ⟨vl, rfl, ho, hb⟩; obtain ⟨Al, cl, hvl⟩ := Kd.R_slice ho; subst hvl; have HO := Aside0.mk ho; have n0_ := Aside0.mk (blk_below HT.out hb); have HBR := Aside0.mk HB.out; have HB1 := Aside0.mk hb; clear HT HB; have HT := n0_; clear n0_ ho hb))
  have HS1 := Aside0.mk HBR.out.size
  go_loopg [26] p.length (fun kq v26 w' => ∃ j : Nat, v26 = .int .i64 (j : Int) ∧ Aside0 (j + kq = p.length) ∧ Aside0 (Kd.R (Kd.int .i64) 3 w' w1.heap.size (fun _ => True) (.slice Al p.length cl) (dearB (p.take j) ++ p.drop j)) ∧ Aside0 (w'.heap[gt]? = some (.cells #[.int .i64 a0, .slice A1 l1.length c1, .map (some mm)] 70 (0, 0))) ∧ Aside0 (Below w1.heap.size w1 w'))
  case atStart => exact ⟨0, rfl, ⟨by simp⟩, ⟨by (with_reducible repeat (first | apply Kd.R_alloc | apply Kd.R_drewN | apply Kd.R_drew)); simpa [dearB] using HO.out⟩, ⟨by (with_reducible repeat (first | refine blk_drewN ?_ _ | refine blk_drew ?_ | refine blk_alloc ?_ _)); exact HT.out⟩, ⟨by repeat (first | (with_reducible first | exact HB1.out | apply below_alloc | apply pw_below_drewN | apply below_drew1) | exact HB1.out)⟩⟩
  case round =>
    clear HO HT HB1
    obtain ⟨j, rfl, HJ, HO, HT, HB1⟩ := hrel
    have HB := Aside0.mk (below_step HBR.out HB1.out)
    cases gk with
    | zero =>
      have hj := HJ.out
      have c4b : decide ((j : Int) < (p.length : Int)) = false := decide_eq_false (by omega)
      have c4b2 : decide (j < p.length) = false := decide_eq_false (by omega)
      have ho := HO.out
      rw [List.take_of_length_le (by omega), List.drop_eq_nil_of_le (by omega), List.append_nil] at ho
      clear HO hj
      go_upto_region 10 with (fail)
      (try simp only [Act.put, List.setIfInBounds_toArray, List.set_cons_zero, List.set_cons_succ])
      rw [show p.length = (dearB p).length from (dearB_length p).symm] at ho ⊢
      have HO := Aside0.mk ho
      clear ho
      by_cases t5 : q3 = 0
      case neg =>
        have hh := HH.out
        simp only [if_neg t5, Option.some.injEq, Prod.mk.injEq] at hh
        have s5 : (q3 == 0) = false := beq_eq_false_iff_ne.mpr t5
        have s5b : (q3 != 0) = true := bne_iff_ne.mpr t5
        clear t5
        obtain ⟨rfl, rfl, rfl⟩ := hh
        go_wp2_with (first | (go_at_call 51; (refine (branch_town_first.calls k gt a0 A1 c1 l1 mm w.heap.size Al cl (dearB p) q1 q2 _ _ HT.out (Kd.C_below HR1.out HB.out) HC1.out (Kd.R_reads' HO.out).2.2 (Kd.R_reads' HO.out).2.1 (HG.out.below HB1.out) HF.out).mono ?_); rintro e w3 ⟨vf, rfl, ho, hb⟩; have HV := Aside0.mk (Kd.R_lower ho (below_size HB.out)); have n0_ := Aside0.mk (below_step HB.out hb); clear HB; have HB := n0_; clear n0_ ho hb))
        go_ret3
        exact ⟨_, by first | rfl | (simp; done), Kd.R_nil _ _ _ _ _, by repeat (first | (with_reducible first | exact HB.out | apply below_alloc | apply pw_below_drewN | apply below_drew1) | exact HB.out)⟩
      subst t5
      have hh := HH.out
      simp only [if_true, Option.some.injEq, Prod.mk.injEq] at hh
      obtain ⟨rfl, hr2, rfl⟩ := hh
      have HR2 := Aside0.mk hr2
      clear hr2
      go_wp2_with (first | (go_at_call 51; (refine (branch_town_first.calls k gt a0 A1 c1 l1 mm w.heap.size Al cl (dearB p) q1 q2 _ _ HT.out (Kd.C_below HR1.out HB.out) HC1.out (Kd.R_reads' HO.out).2.2 (Kd.R_reads' HO.out).2.1 (HG.out.below HB1.out) HF.out).mono ?_); rintro e w3 ⟨vf, rfl, ho, hb⟩; have HV := Aside0.mk (Kd.R_lower ho (below_size HB.out)); have n0_ := Aside0.mk (below_step HB.out hb); clear HB; have HB := n0_; clear n0_ ho hb))
      go_ret3
      exact ⟨_, by first | (rw [← HR2.out]; rfl) | (rw [← HR2.out]; simp only [i64_w]; rfl) | (rw [← HR2.out]; simp [i64_w]; done), by (with_reducible repeat (first | apply Kd.R_alloc | apply Kd.R_drewN | apply Kd.R_drew)); exact HV.out, by repeat (first | (with_reducible first | exact HB.out | apply below_alloc | apply pw_below_drewN | apply below_drew1) | exact HB.out)⟩
    | succ k1 =>
      have hj0 : (0 : Int) ≤ (j : Int) := Int.natCast_nonneg _
      have hj1 : (j : Int) < (p.length : Int) := by have := HJ.out; omega
      have c4b : decide ((j : Int) < (p.length : Int)) = true := decide_eq_true hj1
      have hj2 : j < p.length := by omega
      have c4b2 : decide (j < p.length) = true := decide_eq_true hj2
      have hll := (Kd.R_reads' HO.out).1
      obtain ⟨go, cap, eo, gbo, glo, clo, hgo⟩ := Kd.R_form HO.out (by omega)
      injection eo with ea_ en_ ec_
      subst ea_ ec_
      clear en_ hll
      have GO := Aside0.mk gbo
      have GC := Aside0.mk hgo
      obtain ⟨hc, hf⟩ := Kd.R_celln 0 HO.out (j : Int) hj0 hj1
      replace hc := (show wr.cell? ⟨go, (j : Int).toNat, none⟩ = some (.int .i64 (rd (dearB (p.take j) ++ p.drop j) (j : Int))) from hc)
      rw [dear_rd p j hj2] at hc
      have HST := Aside0.mk (dear_set p j hj2)
      obtain ⟨y, hy⟩ : ∃ y, rd p (j : Int) = y := ⟨_, rfl⟩
      rw [hy] at hc
      have HY := Aside0.mk hy
      simp only [Int.toNat_natCast] at hc hf
      clear hy gbo glo hgo
      replace hj0 := eq_true hj0
      replace hj1 := eq_true hj1
      replace hj2 := eq_true hj2
      have hnt : gt ≠ go := blk_ne HT.out GC.out (by decide)
      go_wp2
      go_roundg k1
      case measure => omega
      case rel => exact ⟨j + 1, val_succ2 j (by have := HJ.out; have := HPL.out; omega), ⟨by have := HJ.out; omega⟩, ⟨by rw [← HST.out, HY.out]; (try simp only [i64_w]); (with_reducible repeat (first | apply Kd.R_alloc | apply Kd.R_drewN | apply Kd.R_drew)); exact Kd.R_putn HO.out (j : Int) (wrap64 (1000 - y))⟩, ⟨by (with_reducible repeat (first | refine blk_drewN ?_ _ | refine blk_drew ?_ | refine blk_alloc ?_ _)); exact blk_far HT.out hnt _⟩, ⟨by repeat (first | (with_reducible first | exact HB1.out | apply below_alloc | apply pw_below_drewN | apply below_drew1 | refine below_set ?_ GO.out) | exact HB1.out)⟩⟩
end Go.Proofs.Ytpmadffgdfholaa.B
namespace Go.Proofs.Ytpmadffgdfholaa.B
open Go.RowKit Go.Proofs.YtpmadffgdfholaaW.PrintWords Go.Proofs.YtpmadffgdfholaaW.PrintLast Go.Proofs.YtpmadffgdfholaaW.PrintMore
attribute [local go_sem] max2_int min2_int max_two min_two max_three min_three max_four min_four   -- for this text's walks alone
set_option linter.unusedVariables false
set_option linter.unusedSimpArgs false
def trishawref03_put.l0 : Nat → List Int → Int → Int → Option (List Int)
  | 0, _, _, _ => none
  | k + 1, x0, x1, x6 => if x6 < (x0.length : Int) then (if 0 ≤ x6 then (if (rd x0 x6) < x1 then (trishawref03_put.l0 k x0 x1 (wrap64 (x6 + 1))) else (if x6 ≤ (x0.length : Int) then (if ([] : List Int).length + (x0.take (x6 : Int).toNat).length < 17592186044416 then ((some (([] : List Int) ++ (x0.take (x6 : Int).toNat) : List Int)).bind fun y103 => (if y103.length < 17592186044416 then ((some (y103 ++ [x1] : List Int)).bind fun y106 => (if y106.length + (x0.drop (x6 : Int).toNat).length < 17592186044416 then (some (y106 ++ (x0.drop (x6 : Int).toNat))) else (none))) else (none))) else (none)) else (none))) else (none)) else (if 0 ≤ x6 then (if x6 ≤ (x0.length : Int) then (if ([] : List Int).length + (x0.take (x6 : Int).toNat).length < 17592186044416 then ((some (([] : List Int) ++ (x0.take (x6 : Int).toNat) : List Int)).bind fun y114 => (if y114.length < 17592186044416 then ((some (y114 ++ [x1] : List Int)).bind fun y117 => (if y117.length + (x0.drop (x6 : Int).toNat).length < 17592186044416 then (some (y117 ++ (x0.drop (x6 : Int).toNat))) else (none))) else (none))) else (none)) else (none)) else (none))
def trishawref03_put.f (k : Nat) (l0 : List Int) (a1 : Int) : Option (List Int) := trishawref03_put.l0 k l0 a1 0
theorem trishawref03_put.mono_l : ∀ k, (∀ y0 y1 y2, LeO (trishawref03_put.l0 k y0 y1 y2) (trishawref03_put.l0 (k + 1) y0 y1 y2))
  | 0 => fun _ _ _ r h => by simp [trishawref03_put.l0] at h
  | k + 1 => by
    have ih0 := trishawref03_put.mono_l k
    · intro y0 y1 y2
      unfold trishawref03_put.l0
      repeat' first
      | (with_reducible exact ih0 _ _ _)
      | (with_reducible exact LeO.refl _)
      | (with_reducible exact LeO.none _)
      | (with_reducible refine LeO.ite ?_ ?_)
      | (with_reducible refine LeO.bind ?_ (fun _ => ?_))
      | exact ih0 _ _ _
      | exact LeO.none _
      | refine LeO.ite ?_ ?_
      | refine LeO.bind ?_ (fun _ => ?_)
theorem trishawref03_put.mono : ∀ a0 a1 k, LeO (trishawref03_put.f k a0 a1) (trishawref03_put.f (k + 1) a0 a1) := by
  intro a0 a1 k
  have ih0 := trishawref03_put.mono_l k
  unfold trishawref03_put.f
  repeat' first
      | (with_reducible exact ih0 _ _ _)
      | (with_reducible exact LeO.refl _)
      | (with_reducible exact LeO.none _)
      | (with_reducible refine LeO.ite ?_ ?_)
      | (with_reducible refine LeO.bind ?_ (fun _ => ?_))
      | exact ih0 _ _ _
      | exact LeO.none _
      | refine LeO.ite ?_ ?_
      | refine LeO.bind ?_ (fun _ => ?_)
set_option maxHeartbeats 8000000 in
set_option maxRecDepth 100000 in
theorem trishawref03_put.calls (k : Nat) (A0 : Option Addr) (c0 : Nat) (l0 : List Int) (a1 : Int) (r : List Int) (w : World) (hr0 : Kd.C (Kd.int .i64) w A0 l0.length l0) (hc0 : l0.length ≤ c0) (h : trishawref03_put.f k l0 a1 = some r) :
    Calls Try.prog 73 #[.slice A0 l0.length c0, .int .i64 a1] w fun e w' => ∃ v0_ : Value, e = .returned (v0_) ∧ Kd.R (Kd.int .i64) 3 w' w.heap.size (fun _ => True) v0_ r ∧ Below w.heap.size w w' := by
  have HR0 := Aside0.mk hr0
  have HC0 := Aside0.mk hc0
  clear hr0 hc0
  have HB := Aside0.mk (Below.refl w.heap.size w)
  have H : (trishawref03_put.l0 k l0 a1 0) = some r := h
  clear h
  have H' := Aside0.mk H
  clear H
  go_enter Try.func73, Try.ntmps73
  go_wp2
  go_loopg [6] k (fun kq v6 w' => ∃ (x6_1 : Int), v6 = .int .i64 x6_1 ∧ Aside0 (trishawref03_put.l0 kq l0 a1 x6_1 = some r) ∧ Aside0 (kq ≤ k) ∧ Aside0 (Below w.heap.size w w'))
  case atStart => exact ⟨(0), (by first | rfl | (simp; done) | (simp [*]; done)), H', ⟨Nat.le_refl _⟩, ⟨by repeat (first | (with_reducible first | exact HB.out | apply below_alloc | apply pw_below_drewN | apply below_drew1) | exact HB.out)⟩⟩
  case round =>
    clear H'
    try clear p2
    obtain ⟨x6_1, rfl, HA, HK1, HB⟩ := hrel
    cases gk with
    | zero => exact absurd HA.out (by simp [trishawref03_put.l0])
    | succ k1 =>
      have H := HA.out
      clear HA
      simp only [trishawref03_put.l0] at H
      by_cases c3 : x6_1 < (l0.length : Int)
      · rw [if_pos c3] at H
        have c3b0 : decide (x6_1 < (l0.length : Int)) = true := decide_eq_true c3
        clear c3
        by_cases c4 : 0 ≤ x6_1
        · rw [if_pos c4] at H
          have c4b0 : decide (0 ≤ x6_1) = true := decide_eq_true c4
          clear c4
          by_cases c5 : (rd l0 x6_1) < a1
          · rw [if_pos c5] at H
            have c5b0 : decide ((rd l0 x6_1) < a1) = true := decide_eq_true c5
            clear c5
            have H' := Aside0.mk H
            clear H
            have p101 : 0 ≤ (x6_1 : Int) := of_decide_eq_true (by first | (with_reducible assumption) | assumption)
            have q101 : x6_1 < (l0.length : Int) := of_decide_eq_true (by first | (with_reducible assumption) | assumption)
            obtain ⟨ad101, e101, hx101_0⟩ := Kd.at_int HR0.out x6_1 p101 q101
            cases e101
            replace hx101_0 := (HB.out.cell (World.block_lt_of_cell? w _ hx101_0)).trans hx101_0
            replace p101 := eq_true p101
            replace q101 := eq_true q101
            go_wp2
            go_roundg k1
            case measure => have := HK1.out; omega
            case rel => exact ⟨(wrap64 (x6_1 + 1)), (by first | rfl | (simp; done) | (simp [*]; done)), H', ⟨by have := HK1.out; omega⟩, ⟨by repeat (first | (with_reducible first | exact HB.out | apply below_alloc | apply pw_below_drewN | apply below_drew1) | exact HB.out)⟩⟩
          · rw [if_neg c5] at H
            have c5b0 : decide ((rd l0 x6_1) < a1) = false := decide_eq_false c5
            clear c5
            have c6b0 := eq_true (of_decide_eq_true (by first | (with_reducible assumption) | assumption) : 0 ≤ x6_1)
            by_cases c7 : x6_1 ≤ (l0.length : Int)
            · rw [if_pos c7] at H
              have c7b0 := eq_true c7
              have c7b1 : decide (x6_1 ≤ (l0.length : Int)) = true := decide_eq_true c7
              clear c7
              by_cases c8 : ([] : List Int).length + (l0.take (x6_1 : Int).toNat).length < 17592186044416
              · rw [if_pos c8] at H
                have LMc8 := Aside0.mk c8
                clear c8
                obtain ⟨y103, hy103⟩ : ∃ y_ : List Int, y_ = (([] : List Int) ++ (l0.take (x6_1 : Int).toNat)) := ⟨_, rfl⟩
                replace H : (if y103.length < 17592186044416 then ((some (y103 ++ [a1] : List Int)).bind fun y106 => (if y106.length + (l0.drop (x6_1 : Int).toNat).length < 17592186044416 then (some (y106 ++ (l0.drop (x6_1 : Int).toNat))) else (none))) else (none)) = some r := by first | (rw [hy103]; with_reducible exact H) | (have H2_ := (Option.bind_some _ _).symm.trans H; rw [hy103]; with_reducible exact H2_) | (have H2_ := (Option.bind_some _ _).symm.trans H; with_reducible exact H2_) | with_reducible exact H | (rw [hy103]; exact H) | exact H
                have Ny103 := Aside0.mk hy103
                clear hy103
                by_cases c9 : y103.length < 17592186044416
                · rw [if_pos c9] at H
                  have LMc9 := Aside0.mk c9
                  clear c9
                  obtain ⟨y106, hy106⟩ : ∃ y_ : List Int, y_ = (y103 ++ [a1]) := ⟨_, rfl⟩
                  replace H : (if y106.length + (l0.drop (x6_1 : Int).toNat).length < 17592186044416 then (some (y106 ++ (l0.drop (x6_1 : Int).toNat))) else (none)) = some r := by first | (rw [hy106]; with_reducible exact H) | (have H2_ := (Option.bind_some _ _).symm.trans H; rw [hy106]; with_reducible exact H2_) | (have H2_ := (Option.bind_some _ _).symm.trans H; with_reducible exact H2_) | with_reducible exact H | (rw [hy106]; exact H) | exact H
                  have Ny106 := Aside0.mk hy106
                  clear hy106
                  have c10b0 := eq_true (of_decide_eq_true (by first | (with_reducible assumption) | assumption) : 0 ≤ x6_1)
                  have c11b0 := eq_true (of_decide_eq_true (by first | (with_reducible assumption) | assumption) : x6_1 ≤ (l0.length : Int))
                  by_cases c12 : y106.length + (l0.drop (x6_1 : Int).toNat).length < 17592186044416
                  · rw [if_pos c12] at H
                    have LMc12 := Aside0.mk c12
                    clear c12
                    obtain ⟨y110, hy110⟩ : ∃ y_ : List Int, y_ = (y106 ++ (l0.drop (x6_1 : Int).toNat)) := ⟨_, rfl⟩
                    replace H : (some y110) = some r := by first | (rw [hy110]; with_reducible exact H) | (have H2_ := (Option.bind_some _ _).symm.trans H; rw [hy110]; with_reducible exact H2_) | (have H2_ := (Option.bind_some _ _).symm.trans H; with_reducible exact H2_) | with_reducible exact H | (rw [hy110]; exact H) | exact H
                    have Ny110 := Aside0.mk hy110
                    clear hy110
                    obtain rfl := Option.some.inj H
                    have p101 : 0 ≤ (x6_1 : Int) := of_decide_eq_true (by first | (with_reducible assumption) | assumption)
                    have q101 : x6_1 < (l0.length : Int) := of_decide_eq_true (by first | (with_reducible assumption) | assumption)
                    obtain ⟨ad101, e101, hx101_0⟩ := Kd.at_int HR0.out x6_1 p101 q101
                    cases e101
                    replace hx101_0 := (HB.out.cell (World.block_lt_of_cell? w _ hx101_0)).trans hx101_0
                    replace p101 := eq_true p101
                    replace q101 := eq_true q101
                    obtain ⟨i013, hi013, _, hsz13, _⟩ := info_parts info3
                    obtain ⟨hcut13, hA13, hC13⟩ := print_take_of (P := Try.prog) (Value.int .i64) 0 28 3 .i64 Try.underlying28 hi013 hsz13 (some ad101) c0 l0 x6_1 (of_decide_eq_true (by first | (with_reducible assumption) | assumption)) (of_decide_eq_true (by first | (with_reducible assumption) | assumption)) HC0.out
                    have HR102 := Aside0.mk (Kd.C_of_reads (h1 := fun _ => rfl) (hA13 _ (Kd.reads_of_C HR0.out)))
                    have HC102 := Aside0.mk hC13
                    clear hA13 hC13 hi013 hsz13
                    go_wp2_with (first | ((with_reducible refine gate_builtin (b := .append) (xs := #[.tmp 21, .tmp 24]) rfl ?_); at_builtin; refine Kd.R_append_rows (Kd.int .i64) (w0 := w) w.heap.size rfl (.tmp 21) (.tmp 24) 28 3 (.int .i64 0) 8 rfl Try.underlying28 info3 rfl (by decide) (by omega) (.slice none 0 0) ([] : List Int) (l0.take (x6_1 : Int).toNat) _ _ _ (fun _ => True) (fun _ => False) rfl rfl ?aO ?aR (fun _ _ h => h) (fun _ h => h.elim) ?aF ?aB ?aS ?aL ?_; (case aR => first | (have hq_ := (Kd.C_below HR102.out HB.out); rw [show (l0.take (x6_1 : Int).toNat).length = x6_1.toNat from (by rw [List.length_take]; have h_ : (x6_1 : Int) ≤ (l0.length : Int) := of_decide_eq_true (by first | (with_reducible assumption) | assumption); omega)] at hq_; exact hq_) | (rw [← show (l0.take (x6_1 : Int).toNat).length = x6_1.toNat from (by rw [List.length_take]; have h_ : (x6_1 : Int) ≤ (l0.length : Int) := of_decide_eq_true (by first | (with_reducible assumption) | assumption); omega)]; repeat (first | exact (Kd.C_below HR102.out HB.out) | (with_reducible refine Kd.C_alloc ?_ _) | (with_reducible refine Kd.C_drewN ?_ _) | (with_reducible refine Kd.C_drew ?_))) | (repeat (first | exact (Kd.C_below HR102.out HB.out) | (with_reducible refine Kd.C_alloc ?_ _) | (with_reducible refine Kd.C_drewN ?_ _) | (with_reducible refine Kd.C_drew ?_)))); (case aB => exact (by repeat (first | (with_reducible first | exact HB.out | apply below_alloc | apply pw_below_drewN | apply below_drew1) | exact HB.out))); (case aF => exact (fun _ _ => trivial)); (case aO => exact ((Kd.R_nil _ _ _ _ (fun _ => True)))); (case aS => exact (below_size (by repeat (first | (with_reducible first | exact HB.out | apply below_alloc | apply pw_below_drewN | apply below_drew1) | exact HB.out)))); (case aL => have := LMc8.out; have hlx_ := (show (l0.take (x6_1 : Int).toNat).length = x6_1.toNat from (by rw [List.length_take]; have h_ : (x6_1 : Int) ≤ (l0.length : Int) := of_decide_eq_true (by first | (with_reducible assumption) | assumption); omega)); omega); intro v104 w14 ho hb hg hat; rw [← Ny103.out] at ho; have n0_ := Aside0.mk (hb); have n1_ := Aside0.mk (ho); clear HB; have HB := n0_; have HO105 := n1_; clear n0_ n1_; clear ho hb hg hat) | ((with_reducible refine gate_builtin (b := .append) (xs := #[.tmp 26, .tmp 28]) rfl ?_); at_builtin; refine Kd.R_append (Kd.int .i64) (w0 := w) w.heap.size rfl (.tmp 26) (.tmp 28) 28 3 (.int .i64 0) 8 rfl Try.underlying28 info3 rfl (by decide) (by omega) v104 y103 a1 [.int .i64 a1] (fun _ => True) (fun _ => False) rfl rfl ?aP (fun _ hk => hk.elim) ?aF ?aO ?aB ?aS ?aL ?_; (case aP => exact rfl); (case aB => exact (by repeat (first | (with_reducible first | exact HB.out | apply below_alloc | apply pw_below_drewN | apply below_drew1) | exact HB.out))); (case aF => exact (fun _ _ => trivial)); (case aO => exact (by (with_reducible repeat (first | apply Kd.R_alloc | apply Kd.R_drewN | apply Kd.R_drew)); exact HO105.out)); (case aS => exact (below_size (by repeat (first | (with_reducible first | exact HB.out | apply below_alloc | apply pw_below_drewN | apply below_drew1) | exact HB.out)))); (case aL => have := LMc9.out; omega); intro v107 w15 ho hb hg hat; rw [← Ny106.out] at ho; have n0_ := Aside0.mk (hb); have n1_ := Aside0.mk (ho); clear HB; clear HO105; have HB := n0_; have HO108 := n1_; clear n0_ n1_; clear ho hb hg hat; obtain ⟨i016, hi016, _, hsz16, _⟩ := info_parts info3; obtain ⟨A16, hcut16, hA16, hC16⟩ := print_drop_of (P := Try.prog) (Value.int .i64) 0 28 3 .i64 Try.underlying28 hi016 hsz16 (some ad101) c0 l0 x6_1 (of_decide_eq_true (by first | (with_reducible assumption) | assumption)) (of_decide_eq_true (by first | (with_reducible assumption) | assumption)) HC0.out; have HR109 := Aside0.mk (Kd.C_of_reads (h1 := fun _ => rfl) (hA16 _ (Kd.reads_of_C HR0.out))); have HC109 := Aside0.mk hC16; clear hA16 hC16 hi016 hsz16) | ((with_reducible refine gate_builtin (b := .append) (xs := #[.tmp 30, .tmp 33]) rfl ?_); at_builtin; refine Kd.R_append_rows (Kd.int .i64) (w0 := w) w.heap.size rfl (.tmp 30) (.tmp 33) 28 3 (.int .i64 0) 8 rfl Try.underlying28 info3 rfl (by decide) (by omega) v107 y106 (l0.drop (x6_1 : Int).toNat) _ _ _ (fun _ => True) (fun _ => False) rfl rfl ?aO ?aR (fun _ _ h => h) (fun _ h => h.elim) ?aF ?aB ?aS ?aL ?_; (case aR => first | (have hq_ := (Kd.C_below HR109.out HB.out); rw [show (l0.drop (x6_1 : Int).toNat).length = (l0.length - x6_1.toNat) from List.length_drop] at hq_; exact hq_) | (rw [← show (l0.drop (x6_1 : Int).toNat).length = (l0.length - x6_1.toNat) from List.length_drop]; repeat (first | exact (Kd.C_below HR109.out HB.out) | (with_reducible refine Kd.C_alloc ?_ _) | (with_reducible refine Kd.C_drewN ?_ _) | (with_reducible refine Kd.C_drew ?_))) | (repeat (first | exact (Kd.C_below HR109.out HB.out) | (with_reducible refine Kd.C_alloc ?_ _) | (with_reducible refine Kd.C_drewN ?_ _) | (with_reducible refine Kd.C_drew ?_)))); (case aB => exact (by repeat (first | (with_reducible first | exact HB.out | apply below_alloc | apply pw_below_drewN | apply below_drew1) | exact HB.out))); (case aF => exact (fun _ _ => trivial)); (case aO => exact (by (with_reducible repeat (first | apply Kd.R_alloc | apply Kd.R_drewN | apply Kd.R_drew)); exact HO108.out)); (case aS => exact (below_size (by repeat (first | (with_reducible first | exact HB.out | apply below_alloc | apply pw_below_drewN | apply below_drew1) | exact HB.out)))); (case aL => have := LMc12.out; have hlx_ := (show (l0.drop (x6_1 : Int).toNat).length = (l0.length - x6_1.toNat) from List.length_drop); omega); intro v111 w17 ho hb hg hat; rw [← Ny110.out] at ho; have n0_ := Aside0.mk (hb); have n1_ := Aside0.mk (ho); clear HB; clear HO108; have HB := n0_; have HO112 := n1_; clear n0_ n1_; clear ho hb hg hat))
                    go_ret
                    exact ⟨_, by first | rfl | (simp [errW_none, errW_some] <;> rfl) | (simp [*, errW_none, errW_some] <;> rfl), by (with_reducible repeat (first | apply Kd.R_alloc | apply Kd.R_drewN | apply Kd.R_drew)); exact HO112.out, by repeat (first | (with_reducible first | exact HB.out | apply below_alloc | apply pw_below_drewN | apply below_drew1) | exact HB.out)⟩
                  · rw [if_neg c12] at H
                    exact absurd H (by simp)
                · rw [if_neg c9] at H
                  exact absurd H (by simp)
              · rw [if_neg c8] at H
                exact absurd H (by simp)
            · rw [if_neg c7] at H
              exact absurd H (by simp)
        · rw [if_neg c4] at H
          exact absurd H (by simp)
      · rw [if_neg c3] at H
        have c3b0 : decide (x6_1 < (l0.length : Int)) = false := decide_eq_false c3
        clear c3
        by_cases c18 : 0 ≤ x6_1
        · rw [if_pos c18] at H
          have c18b0 := eq_true c18
          have c18b1 : decide (0 ≤ x6_1) = true := decide_eq_true c18
          clear c18
          by_cases c19 : x6_1 ≤ (l0.length : Int)
          · rw [if_pos c19] at H
            have c19b0 := eq_true c19
            have c19b1 : decide (x6_1 ≤ (l0.length : Int)) = true := decide_eq_true c19
            clear c19
            by_cases c20 : ([] : List Int).length + (l0.take (x6_1 : Int).toNat).length < 17592186044416
            · rw [if_pos c20] at H
              have LMc20 := Aside0.mk c20
              clear c20
              obtain ⟨y114, hy114⟩ : ∃ y_ : List Int, y_ = (([] : List Int) ++ (l0.take (x6_1 : Int).toNat)) := ⟨_, rfl⟩
              replace H : (if y114.length < 17592186044416 then ((some (y114 ++ [a1] : List Int)).bind fun y117 => (if y117.length + (l0.drop (x6_1 : Int).toNat).length < 17592186044416 then (some (y117 ++ (l0.drop (x6_1 : Int).toNat))) else (none))) else (none)) = some r := by first | (rw [hy114]; with_reducible exact H) | (have H2_ := (Option.bind_some _ _).symm.trans H; rw [hy114]; with_reducible exact H2_) | (have H2_ := (Option.bind_some _ _).symm.trans H; with_reducible exact H2_) | with_reducible exact H | (rw [hy114]; exact H) | exact H
              have Ny114 := Aside0.mk hy114
              clear hy114
              by_cases c21 : y114.length < 17592186044416
              · rw [if_pos c21] at H
                have LMc21 := Aside0.mk c21
                clear c21
                obtain ⟨y117, hy117⟩ : ∃ y_ : List Int, y_ = (y114 ++ [a1]) := ⟨_, rfl⟩
                replace H : (if y117.length + (l0.drop (x6_1 : Int).toNat).length < 17592186044416 then (some (y117 ++ (l0.drop (x6_1 : Int).toNat))) else (none)) = some r := by first | (rw [hy117]; with_reducible exact H) | (have H2_ := (Option.bind_some _ _).symm.trans H; rw [hy117]; with_reducible exact H2_) | (have H2_ := (Option.bind_some _ _).symm.trans H; with_reducible exact H2_) | with_reducible exact H | (rw [hy117]; exact H) | exact H
                have Ny117 := Aside0.mk hy117
                clear hy117
                have c22b0 := eq_true (of_decide_eq_true (by first | (with_reducible assumption) | assumption) : 0 ≤ x6_1)
                have c23b0 := eq_true (of_decide_eq_true (by first | (with_reducible assumption) | assumption) : x6_1 ≤ (l0.length : Int))
                by_cases c24 : y117.length + (l0.drop (x6_1 : Int).toNat).length < 17592186044416
                · rw [if_pos c24] at H
                  have LMc24 := Aside0.mk c24
                  clear c24
                  obtain ⟨y121, hy121⟩ : ∃ y_ : List Int, y_ = (y117 ++ (l0.drop (x6_1 : Int).toNat)) := ⟨_, rfl⟩
                  replace H : (some y121) = some r := by first | (rw [hy121]; with_reducible exact H) | (have H2_ := (Option.bind_some _ _).symm.trans H; rw [hy121]; with_reducible exact H2_) | (have H2_ := (Option.bind_some _ _).symm.trans H; with_reducible exact H2_) | with_reducible exact H | (rw [hy121]; exact H) | exact H
                  have Ny121 := Aside0.mk hy121
                  clear hy121
                  obtain rfl := Option.some.inj H
                  obtain ⟨i025, hi025, _, hsz25, _⟩ := info_parts info3
                  obtain ⟨hcut25, hA25, hC25⟩ := print_take_of (P := Try.prog) (Value.int .i64) 0 28 3 .i64 Try.underlying28 hi025 hsz25 A0 c0 l0 x6_1 (of_decide_eq_true (by first | (with_reducible assumption) | assumption)) (of_decide_eq_true (by first | (with_reducible assumption) | assumption)) HC0.out
                  have HR113 := Aside0.mk (Kd.C_of_reads (h1 := fun _ => rfl) (hA25 _ (Kd.reads_of_C HR0.out)))
                  have HC113 := Aside0.mk hC25
                  clear hA25 hC25 hi025 hsz25
                  go_wp2_with (first | ((with_reducible refine gate_builtin (b := .append) (xs := #[.tmp 21, .tmp 24]) rfl ?_); at_builtin; refine Kd.R_append_rows (Kd.int .i64) (w0 := w) w.heap.size rfl (.tmp 21) (.tmp 24) 28 3 (.int .i64 0) 8 rfl Try.underlying28 info3 rfl (by decide) (by omega) (.slice none 0 0) ([] : List Int) (l0.take (x6_1 : Int).toNat) _ _ _ (fun _ => True) (fun _ => False) rfl rfl ?aO ?aR (fun _ _ h => h) (fun _ h => h.elim) ?aF ?aB ?aS ?aL ?_; (case aR => first | (have hq_ := (Kd.C_below HR113.out HB.out); rw [show (l0.take (x6_1 : Int).toNat).length = x6_1.toNat from (by rw [List.length_take]; have h_ : (x6_1 : Int) ≤ (l0.length : Int) := of_decide_eq_true (by first | (with_reducible assumption) | assumption); omega)] at hq_; exact hq_) | (rw [← show (l0.take (x6_1 : Int).toNat).length = x6_1.toNat from (by rw [List.length_take]; have h_ : (x6_1 : Int) ≤ (l0.length : Int) := of_decide_eq_true (by first | (with_reducible assumption) | assumption); omega)]; repeat (first | exact (Kd.C_below HR113.out HB.out) | (with_reducible refine Kd.C_alloc ?_ _) | (with_reducible refine Kd.C_drewN ?_ _) | (with_reducible refine Kd.C_drew ?_))) | (repeat (first | exact (Kd.C_below HR113.out HB.out) | (with_reducible refine Kd.C_alloc ?_ _) | (with_reducible refine Kd.C_drewN ?_ _) | (with_reducible refine Kd.C_drew ?_)))); (case aB => exact (by repeat (first | (with_reducible first | exact HB.out | apply below_alloc | apply pw_below_drewN | apply below_drew1) | exact HB.out))); (case aF => exact (fun _ _ => trivial)); (case aO => exact ((Kd.R_nil _ _ _ _ (fun _ => True)))); (case aS => exact (below_size (by repeat (first | (with_reducible first | exact HB.out | apply below_alloc | apply pw_below_drewN | apply below_drew1) | exact HB.out)))); (case aL => have := LMc20.out; have hlx_ := (show (l0.take (x6_1 : Int).toNat).length = x6_1.toNat from (by rw [List.length_take]; have h_ : (x6_1 : Int) ≤ (l0.length : Int) := of_decide_eq_true (by first | (with_reducible assumption) | assumption); omega)); omega); intro v115 w26 ho hb hg hat; rw [← Ny114.out] at ho; have n0_ := Aside0.mk (hb); have n1_ := Aside0.mk (ho); clear HB; have HB := n0_; have HO116 := n1_; clear n0_ n1_; clear ho hb hg hat) | ((with_reducible refine gate_builtin (b := .append) (xs := #[.tmp 26, .tmp 28]) rfl ?_); at_builtin; refine Kd.R_append (Kd.int .i64) (w0 := w) w.heap.size rfl (.tmp 26) (.tmp 28) 28 3 (.int .i64 0) 8 rfl Try.underlying28 info3 rfl (by decide) (by omega) v115 y114 a1 [.int .i64 a1] (fun _ => True) (fun _ => False) rfl rfl ?aP (fun _ hk => hk.elim) ?aF ?aO ?aB ?aS ?aL ?_; (case aP => exact rfl); (case aB => exact (by repeat (first | (with_reducible first | exact HB.out | apply below_alloc | apply pw_below_drewN | apply below_drew1) | exact HB.out))); (case aF => exact (fun _ _ => trivial)); (case aO => exact (by (with_reducible repeat (first | apply Kd.R_alloc | apply Kd.R_drewN | apply Kd.R_drew)); exact HO116.out)); (case aS => exact (below_size (by repeat (first | (with_reducible first | exact HB.out | apply below_alloc | apply pw_below_drewN | apply below_drew1) | exact HB.out)))); (case aL => have := LMc21.out; omega); intro v118 w27 ho hb hg hat; rw [← Ny117.out] at ho; have n0_ := Aside0.mk (hb); have n1_ := Aside0.mk (ho); clear HB; clear HO116; have HB := n0_; have HO119 := n1_; clear n0_ n1_; clear ho hb hg hat; obtain ⟨i028, hi028, _, hsz28, _⟩ := info_parts info3; obtain ⟨A28, hcut28, hA28, hC28⟩ := print_drop_of (P := Try.prog) (Value.int .i64) 0 28 3 .i64 Try.underlying28 hi028 hsz28 A0 c0 l0 x6_1 (of_decide_eq_true (by first | (with_reducible assumption) | assumption)) (of_decide_eq_true (by first | (with_reducible assumption) | assumption)) HC0.out; have HR120 := Aside0.mk (Kd.C_of_reads (h1 := fun _ => rfl) (hA28 _ (Kd.reads_of_C HR0.out))); have HC120 := Aside0.mk hC28; clear hA28 hC28 hi028 hsz28) | ((with_reducible refine gate_builtin (b := .append) (xs := #[.tmp 30, .tmp 33]) rfl ?_); at_builtin; refine Kd.R_append_rows (Kd.int .i64) (w0 := w) w.heap.size rfl (.tmp 30) (.tmp 33) 28 3 (.int .i64 0) 8 rfl Try.underlying28 info3 rfl (by decide) (by omega) v118 y117 (l0.drop (x6_1 : Int).toNat) _ _ _ (fun _ => True) (fun _ => False) rfl rfl ?aO ?aR (fun _ _ h => h) (fun _ h => h.elim) ?aF ?aB ?aS ?aL ?_; (case aR => first | (have hq_ := (Kd.C_below HR120.out HB.out); rw [show (l0.drop (x6_1 : Int).toNat).length = (l0.length - x6_1.toNat) from List.length_drop] at hq_; exact hq_) | (rw [← show (l0.drop (x6_1 : Int).toNat).length = (l0.length - x6_1.toNat) from List.length_drop]; repeat (first | exact (Kd.C_below HR120.out HB.out) | (with_reducible refine Kd.C_alloc ?_ _) | (with_reducible refine Kd.C_drewN ?_ _) | (with_reducible refine Kd.C_drew ?_))) | (repeat (first | exact (Kd.C_below HR120.out HB.out) | (with_reducible refine Kd.C_alloc ?_ _) | (with_reducible refine Kd.C_drewN ?_ _) | (with_reducible refine Kd.C_drew ?_)))); (case aB => exact (by repeat (first | (with_reducible first | exact HB.out | apply below_alloc | apply pw_below_drewN | apply below_drew1) | exact HB.out))); (case aF => exact (fun _ _ => trivial)); (case aO => exact (by (with_reducible repeat (first | apply Kd.R_alloc | apply Kd.R_drewN | apply Kd.R_drew)); exact HO119.out)); (case aS => exact (below_size (by repeat (first | (with_reducible first | exact HB.out | apply below_alloc | apply pw_below_drewN | apply below_drew1) | exact HB.out)))); (case aL => have := LMc24.out; have hlx_ := (show (l0.drop (x6_1 : Int).toNat).length = (l0.length - x6_1.toNat) from List.length_drop); omega); intro v122 w29 ho hb hg hat; rw [← Ny121.out] at ho; have n0_ := Aside0.mk (hb); have n1_ := Aside0.mk (ho); clear HB; clear HO119; have HB := n0_; have HO123 := n1_; clear n0_ n1_; clear ho hb hg hat))
                  go_ret
                  exact ⟨_, by first | rfl | (simp [errW_none, errW_some] <;> rfl) | (simp [*, errW_none, errW_some] <;> rfl), by (with_reducible repeat (first | apply Kd.R_alloc | apply Kd.R_drewN | apply Kd.R_drew)); exact HO123.out, by repeat (first | (with_reducible first | exact HB.out | apply below_alloc | apply pw_below_drewN | apply below_drew1) | exact HB.out)⟩
                · rw [if_neg c24] at H
                  exact absurd H (by simp)
              · rw [if_neg c21] at H
                exact absurd H (by simp)
            · rw [if_neg c20] at H
              exact absurd H (by simp)
          · rw [if_neg c19] at H
            exact absurd H (by simp)
        · rw [if_neg c18] at H
          exact absurd H (by simp)
end Go.Proofs.Ytpmadffgdfholaa.B
namespace Go.Proofs.Ytpmadffgdfholaa.B
open Go.RowKit Go.Proofs.YtpmadffgdfholaaW.PrintWords Go.Proofs.YtpmadffgdfholaaW.PrintLast Go.Proofs.YtpmadffgdfholaaW.PrintMore
set_option linter.unusedVariables false
set_option linter.unusedSimpArgs false
/-- What was found: how many, the least cost, its first list (none yet: empty). -/
abbrev FoundS := Int × Int × List Int
mutual
def refB.f : Nat → Int → List S30 → Int → Int → List Int → FoundS → Option FoundS
  | 0, _, _, _, _, _, _ => none
  | k + 1, n, l, sign, corner, now, s => if corner = n then
      (trishawref03_reached.f k l now).bind fun t => if 0 ≤ n then (if t = wrap64 ((shl .i64 1 n) - 1) then
        (trishawref03_cost.f k l now).bind fun u => if now.length = 0 then none else
          if s.2.2.length = 0 then some (wrap64 (s.1 + 1), wrap64 (sign * u), now) else
          if wrap64 (sign * u) < s.2.1 then some (wrap64 (s.1 + 1), wrap64 (sign * u), now) else
          if wrap64 (sign * u) = s.2.1 then (trishawref03_Less.f k now s.2.2).bind fun b => if b = true then some (wrap64 (s.1 + 1), wrap64 (sign * u), now) else some (wrap64 (s.1 + 1), s.2.1, s.2.2)
          else some (wrap64 (s.1 + 1), s.2.1, s.2.2)
        else some s) else none
    else refB.l0 k n l sign corner now s 0
def refB.l0 : Nat → Int → List S30 → Int → Int → List Int → FoundS → Int → Option FoundS
  | 0, _, _, _, _, _, _, _ => none
  | k + 1, n, l, sign, corner, now, s, i => if i < (l.length : Int) then (if 0 ≤ i then (if (rd_T30 l i).f1 = corner then
      (trishawref03_put.f k now i).bind fun t => (refB.f k n l sign (wrap64 (corner + 1)) t s).bind fun s2 => refB.l0 k n l sign corner now s2 (wrap64 (i + 1))
      else refB.l0 k n l sign corner now s (wrap64 (i + 1))) else none) else some s
end
theorem refB.mono_l : ∀ k, (∀ n l sign corner now s, LeO (refB.f k n l sign corner now s) (refB.f (k + 1) n l sign corner now s)) ∧ (∀ n l sign corner now s i, LeO (refB.l0 k n l sign corner now s i) (refB.l0 (k + 1) n l sign corner now s i))
  | 0 => ⟨fun _ _ _ _ _ _ r h => by simp [refB.f] at h, fun _ _ _ _ _ _ _ r h => by simp [refB.l0] at h⟩
  | k + 1 => by
    obtain ⟨ih0, ih1⟩ := refB.mono_l k
    refine ⟨fun n l sign corner now s => ?_, fun n l sign corner now s i => ?_⟩
    · unfold refB.f
      refine LeO.ite (LeO.bind (trishawref03_reached.mono _ _ k) fun t => LeO.ite (LeO.ite (LeO.bind (trishawref03_cost.mono _ _ k) fun u => ?_) (LeO.refl _)) (LeO.refl _)) (ih1 _ _ _ _ _ _ _)
      refine LeO.ite (LeO.refl _) (LeO.ite (LeO.refl _) (LeO.ite (LeO.refl _) (LeO.ite (LeO.bind (trishawref03_Less.mono _ _ k) fun b => LeO.refl _) (LeO.refl _))))
    · unfold refB.l0
      refine LeO.ite (LeO.ite (LeO.ite (LeO.bind (trishawref03_put.mono _ _ k) fun t => LeO.bind (ih0 _ _ _ _ _ _) fun s2 => ih1 _ _ _ _ _ _ _) (ih1 _ _ _ _ _ _ _)) (LeO.refl _)) (LeO.refl _)
/-- A world that has changed in one block alone, and in what is new. -/
structure KB (g : Nat) (w w' : World) : Prop where
  os : w'.os = w.os
  tape : w'.tape = w.tape
  output : w'.output = w.output
  keep : KeepBut w w' g none
theorem KB.refl (g : Nat) (w : World) : KB g w w := ⟨rfl, rfl, rfl, KeepBut.refl w g none⟩
theorem KB.trans {g : Nat} {w w1 w2 : World} (h : KB g w w1) (k : KB g w1 w2) : KB g w w2 := ⟨k.os.trans h.os, k.tape.trans h.tape, k.output.trans h.output, h.keep.trans k.keep (.inl rfl)⟩
theorem KB.of_below {g : Nat} {w w1 : World} (h : Below w.heap.size w w1) : KB g w w1 := ⟨h.os, h.tape, h.output, KeepBut.of_below h g none⟩
theorem KB.set {g : Nat} {w w1 : World} (h : KB g w w1) (j : Nat) (u : Value) : KB g w (w1.setCell ⟨g, j, none⟩ u) := ⟨h.os, h.tape, h.output, h.keep.set_ j u⟩
theorem KB.below {g : Nat} {w0 w w1 : World} (hb : Below w0.heap.size w0 w) (hg : w0.heap.size ≤ g) (h : KB g w w1) : Below w0.heap.size w0 w1 := by
  refine ⟨h.os.trans hb.os, h.tape.trans hb.tape, h.output.trans hb.output, Nat.le_trans hb.size h.keep.1, fun k hk => ?_⟩
  rw [h.keep.2 k (Nat.lt_of_lt_of_le hk hb.size) (by omega) (by simp)]
  exact hb.block k hk
theorem KB.step {g : Nat} {w w1 w2 : World} (h : KB g w w1) (hb : Below w1.heap.size w1 w2) : KB g w w2 := h.trans (KB.of_below hb)
/-- The block of what was found. -/
structure FoundE (g B0 : Nat) (W : World) (s : FoundS) (AB : Option Addr) (cB : Nat) : Prop where
  blk : W.heap[g]? = some (.cells #[.int .i64 s.1, .int .i64 s.2.1, .slice AB s.2.2.length cB] 81 (0, 0))
  own : Kd.R (Kd.int .i64) 3 W B0 (fun k => k ≠ g) (.slice AB s.2.2.length cB) s.2.2
  nil : s.2.2.length = 0 → AB = Option.none ∧ cB = 0
theorem FoundE.rd {g B0 : Nat} {W : World} {s : FoundS} {AB : Option Addr} {cB : Nat} (h : FoundE g B0 W s AB cB) : ∀ W', KeepBut W W' g none → Kd.C (Kd.int .i64) W' AB s.2.2.length s.2.2 := Kd.C_foot_own h.own (fun _ hk => hk)
theorem FoundE.len {g B0 : Nat} {W : World} {s : FoundS} {AB : Option Addr} {cB : Nat} (h : FoundE g B0 W s AB cB) : s.2.2.length ≤ cB := (Kd.R_reads' h.own).2.1
theorem FoundE.keep {g B0 : Nat} {W W1 : World} {s : FoundS} {AB : Option Addr} {cB : Nat} (h : FoundE g B0 W s AB cB) (hb : Below W.heap.size W W1) : FoundE g B0 W1 s AB cB :=
  ⟨blk_below h.blk hb, Kd.R_below h.own hb, h.nil⟩
theorem FoundE.put0 {g B0 : Nat} {W : World} {s : FoundS} {AB : Option Addr} {cB : Nat} (h : FoundE g B0 W s AB cB) (x : Int) : FoundE g B0 (W.setCell ⟨g, 0, none⟩ (.int .i64 x)) (x, s.2.1, s.2.2) AB cB :=
  ⟨blk_put h.blk 0 _ rfl, Kd.R_far h.own (fun _ hk => hk) _, h.nil⟩
theorem FoundE.put21 {g B0 : Nat} {W : World} {s : FoundS} {AB AN : Option Addr} {cB cN : Nat} (h : FoundE g B0 W s AB cB) {now : List Int} (hr : Kd.R (Kd.int .i64) 3 W B0 (fun k => k ≠ g) (.slice AN now.length cN) now) (h0 : now.length ≠ 0) (x : Int) : FoundE g B0 ((W.setCell ⟨g, 2, none⟩ (.slice AN now.length cN)).setCell ⟨g, 1, none⟩ (.int .i64 x)) (s.1, x, now) AN cN :=
  ⟨blk_put (blk_put h.blk 2 _ rfl) 1 _ rfl, Kd.R_far (Kd.R_far hr (fun _ hk => hk) _) (fun _ hk => hk) _, fun e => absurd e h0⟩
theorem eql_nil28 (w : World) (a : Option Addr) (n c : Nat) : (binOp .eql 28 (.slice a n c) (.slice none 0 0)).run Try.prog w = .ok (.bool a.isNone) w := by
  unfold binOp
  simp [Op.equal, Op.maxDepth, Lib.run_equalIn_slice_nil w 9999 28 3 a n c 0 0 Try.underlying28, Result.andThen]
theorem foot_step {α : Type} {d : Kd α} {g : Nat} {W W1 : World} {A : Option Addr} {n : Nat} {xs : List α} (h : ∀ W', KeepBut W W' g none → d.C W' A n xs) (hk : KeepBut W W1 g none) : ∀ W', KeepBut W1 W' g none → d.C W' A n xs := fun W' h2 => h W' (hk.trans h2 (.inl rfl))
def refB.T1 : Bool × List (List Nat × List Nat) := (true, [([], []), ([], []), ([0, 1], [0, 1]), ([], []), ([3], [3]), ([4], [4]), ([2, 5], [2, 5])])
def refB.B1 : List Nat := [0, 0, 3, 0, 8, 24, 63]
theorem refB.tab1 : rtab .any (opsOf Try.f52 1) = refB.T1 := by kernel_rfl
theorem refB.bits1 : waitsOk refB.T1.2 refB.B1 = true := by kernel_rfl
set_option maxHeartbeats 8000000 in
set_option maxRecDepth 100000 in
theorem refB.calls (k : Nat) : ∀ (g B0 : Nat) (n : Int) (A1 : Option Addr) (c1 : Nat) (l : List S30) (sign corner : Int) (AN : Option Addr) (cN : Nat) (now : List Int) (s r : FoundS) (AB : Option Addr) (cB : Nat) (w : World) (hB0 : B0 ≤ w.heap.size) (hS : FoundE g B0 w s AB cB) (hr1 : ∀ W', KeepBut w W' g none → Kd.C k30 W' A1 l.length l) (hc1 : l.length ≤ c1) (hN : Kd.R (Kd.int .i64) 3 w B0 (fun k => k ≠ g) (.slice AN now.length cN) now) (h : refB.f k n l sign corner now s = some r),
    Calls Try.prog 52 #[.pointer (some ⟨g, 0, none⟩), .int .i64 n, .slice A1 l.length c1, .int .i64 sign, .int .i64 corner, .slice AN now.length cN] w fun e w' => e = .returned (.tuple #[]) ∧ KB g w w' ∧ ∃ AB' cB', FoundE g B0 w' r AB' cB' := by
  induction k using Nat.strongRecOn with
  | _ k ih =>
  intro g B0 n A1 c1 l sign corner AN cN now s r AB cB w hB0 hS hr1 hc1 hN h
  have hrN := Kd.C_foot_own hN (g := g) (fun _ hk => hk)
  have hcN := (Kd.R_reads' hN).2.1
  have HNO := Aside0.mk hN
  have HB0 := Aside0.mk hB0
  clear hN hB0
  cases k with
  | zero => exact absurd h (by simp [refB.f])
  | succ k =>
  simp only [refB.f] at h
  have hu81 := Try.underlying81
  have hu79 := Try.underlying79
  have HS := Aside0.mk hS
  have HR1 := Aside0.mk hr1
  have HC1 := Aside0.mk hc1
  have HRN := Aside0.mk hrN
  have HCN := Aside0.mk hcN
  have IH := Aside0.mk ih
  clear hS hr1 hc1 hrN hcN ih
  have HK := Aside0.mk (KB.refl g w)
  by_cases c3 : corner = n
  case pos =>
    rw [if_pos c3] at h
    have c3b : (corner == n) = true := beq_iff_eq.mpr c3
    have c3c : decide (corner = n) = true := decide_eq_true c3
    obtain ⟨t, ht, h⟩ := Option.bind_eq_some_iff.1 h
    have HT := Aside0.mk ht
    clear ht
    by_cases c4 : 0 ≤ n
    case neg => rw [if_neg c4] at h; exact absurd h (by simp)
    rw [if_pos c4] at h
    have c4b := eq_true c4
    obtain ⟨ji, hji⟩ : ∃ j_ : Int, shl .i64 1 n = j_ := ⟨_, rfl⟩
    have hji_ := hji
    unfold shl at hji_
    rw [hji] at h
    have hji24z : n ≤ 64 → (IntKind.i64.wrap (1 * 2 ^ n.toNat)) = ji := shl_small hji
    have hji24_ : (IntKind.i64.wrap (1 * 2 ^ min n.toNat 64)) = ji := hji
    have hji24u : (IntKind.i64.wrap (2 ^ min n.toNat 64)) = ji := by have h_ := hji24_; rw [Int.one_mul] at h_; exact h_
    have hji24v : n ≤ 64 → (IntKind.i64.wrap (2 ^ n.toNat)) = ji := fun hle_ => by have h_ := hji24z hle_; rw [Int.one_mul] at h_; exact h_
    have hji24y : (wrap64 (1 * 2 ^ min n.toNat 64)) = ji := (i64_w _).symm.trans hji24_
    have hji24x : n ≤ 64 → (wrap64 (1 * 2 ^ n.toNat)) = ji := fun h_ => (i64_w _).symm.trans (hji24z h_)
    by_cases c5 : t = wrap64 (ji - 1)
    case neg =>
      rw [if_neg c5] at h
      obtain rfl := Option.some.inj h
      have c5b : (t == wrap64 (ji - 1)) = false := beq_eq_false_iff_ne.mpr c5
      have c5c : (t != wrap64 (ji - 1)) = true := bne_iff_ne.mpr c5
      have c5d : decide (t = wrap64 (ji - 1)) = false := decide_eq_false c5
      clear c5 h c3 c4
      go_enter Try.func52, Try.ntmps52
      go_wp2
      have n0_ := Aside0.mk (HS.out.keep (below_drew1 (Below.refl _ _)))
      have n1_ := Aside0.mk (HK.out.step (below_drew1 (Below.refl _ _)))
      clear HS HK
      have HS := n0_; have HK := n1_
      clear n0_ n1_
      refine start_ (n := 7) (S := fun w' => True) (ds := []) #[false, false, false, false, false, false, false] (by kernel_rfl) rfl rfl trivial (fun hHeld => ?_); refine with_tabW refB.tab1 refB.bits1 (fun HT_ HW_ => ?_)
      generalize w.drew = w0 at HS HK hHeld ⊢
      refine pure_ (i := 0) (N := some 17) (v := ?_) (a' := ?_) #[true, false, false, false, false, false, false] rfl rfl (any_of HT_.out (by kernel_rfl)) (fun _ _ _ h => h) (Or.inl ⟨by rfl, ?_⟩) ?_ ?_
      rotate_left
      · intro w'
        go_simp
        first | with_reducible rfl | rfl
      rotate_left
      · simp only [Act.put, List.setIfInBounds_toArray, List.set_cons_zero, List.set_cons_succ, i64_w, i32_w]
        rfl
      refine pure_ (i := 1) (N := some 18) (v := ?_) (a' := ?_) #[true, true, false, false, false, false, false] rfl rfl (any_of HT_.out (by kernel_rfl)) (fun _ _ _ h => h) (Or.inl ⟨by rfl, ?_⟩) ?_ ?_
      rotate_left
      · intro w'
        go_simp
        first | with_reducible rfl | rfl
      rotate_left
      · simp only [Act.put, List.setIfInBounds_toArray, List.set_cons_zero, List.set_cons_succ, i64_w, i32_w]
        rfl
      refine pure_ (i := 3) (N := some 20) (v := ?_) (a' := ?_) #[true, true, false, true, false, false, false] rfl rfl (any_of HT_.out (by kernel_rfl)) (fun _ _ _ h => h) (Or.inl ⟨by rfl, ?_⟩) ?_ ?_
      rotate_left
      · intro w'
        go_simp
        first | with_reducible rfl | rfl
      rotate_left
      · simp only [Act.put, List.setIfInBounds_toArray, List.set_cons_zero, List.set_cons_succ, i64_w, i32_w]
        rfl
      refine pure_ (i := 4) (N := some 21) (v := ?_) (a' := ?_) #[true, true, false, true, true, false, false] rfl rfl (any_of HT_.out (by kernel_rfl)) (fun _ _ _ h => h) (Or.inl ⟨by rfl, ?_⟩) ?_ ?_
      rotate_left
      · intro w'
        go_simp
        first | with_reducible rfl | rfl
      rotate_left
      · simp only [Act.put, List.setIfInBounds_toArray, List.set_cons_zero, List.set_cons_succ, i64_w, i32_w]
        rfl
      refine pure_ (i := 5) (N := some 22) (v := ?_) (a' := ?_) #[true, true, false, true, true, true, false] rfl rfl (any_of HT_.out (by kernel_rfl)) (fun _ _ _ h => h) (Or.inl ⟨by rfl, ?_⟩) ?_ ?_
      rotate_left
      · intro w'
        go_simp
        first | with_reducible rfl | rfl
      rotate_left
      · simp only [Act.put, List.setIfInBounds_toArray, List.set_cons_zero, List.set_cons_succ, i64_w, i32_w]
        rfl
      refine one_ (i := 2) (N := some 19) #[true, true, true, true, true, true, false] rfl rfl (one_of HT_.out (by kernel_rfl)) (by decide) (fun K hK => ?_)
      refine goes_ Try.func56 (by kernel_rfl) rfl #[.slice A1 l.length c1, .slice AN now.length cN] (by rfl) rfl rfl (by (try simp only [List.map_toArray, List.map_cons, List.map_nil]); first | done | rfl) ?_
      with_reducible refine (trishawref03_reached.calls k A1 c1 l AN cN now t _ (HR1.out _ HK.out.keep) HC1.out (HRN.out _ HK.out.keep) HCN.out HT.out).mono ?_
      rintro e w1 ⟨rfl, hb⟩
      refine ⟨_, rfl, ?_⟩
      have n0_ := Aside0.mk (HS.out.keep hb)
      have n1_ := Aside0.mk (HK.out.step hb)
      clear HS HK hb
      have HS := n0_; have HK := n1_
      clear n0_ n1_
      refine hK.out _ _ trivial (fun hHeld => ?_)
      clear hK K
      refine norm_ (a' := ?_) ?_ ?_
      rotate_left
      · show Act.put _ (some 19) _ = _
        simp only [Act.put, List.setIfInBounds_toArray, List.set_cons_zero, List.set_cons_succ, i64_w, i32_w]
        rfl
      refine pure_ (i := 6) (N := some 23) (v := ?_) (a' := ?_) #[true, true, true, true, true, true, true] rfl rfl (any_of HT_.out (by kernel_rfl)) (fun _ _ _ h => h) (Or.inl ⟨by rfl, ?_⟩) ?_ ?_
      rotate_left
      · intro w'
        go_simp
        first | with_reducible rfl | rfl
      rotate_left
      · simp only [Act.put, List.setIfInBounds_toArray, List.set_cons_zero, List.set_cons_succ, i64_w, i32_w]
        rfl
      refine done_ (done_of HT_.out (by kernel_rfl)) ?_
      go_wp2
      refine bodyPost_ret (results_none rfl _ _ _) rfl ?_
      exact ⟨rfl, HK.out, _, _, HS.out⟩
    rw [if_pos c5] at h
    have c5b : (t == wrap64 (ji - 1)) = true := beq_iff_eq.mpr c5
    have c5c : (t != wrap64 (ji - 1)) = false := bne_eq_false_iff_eq.mpr c5
    have c5d : decide (t = wrap64 (ji - 1)) = true := decide_eq_true c5
    obtain ⟨u, hu, h⟩ := Option.bind_eq_some_iff.1 h
    have HU := Aside0.mk hu
    clear c5 hu c3 c4
    by_cases c6 : now.length = 0
    case pos => rw [if_pos c6] at h; exact absurd h (by simp)
    rw [if_neg c6] at h
    obtain ⟨x, hx⟩ : ∃ x, wrap64 (s.1 + 1) = x := ⟨_, rfl⟩
    have hxw : (IntKind.i64.wrap (s.1 + 1)) = x := (i64_w _).trans hx
    obtain ⟨cc, hcc⟩ : ∃ cc, wrap64 (sign * u) = cc := ⟨_, rfl⟩
    have hccw : (IntKind.i64.wrap (sign * u)) = cc := (i64_w _).trans hcc
    rw [hx, hcc] at h
    have HH := Aside0.mk h
    have C6 := Aside0.mk c6
    clear h c6
    go_enter Try.func52, Try.ntmps52
    go_wp2
    have n0_ := Aside0.mk (HS.out.keep (below_drew1 (Below.refl _ _)))
    have n1_ := Aside0.mk (HK.out.step (below_drew1 (Below.refl _ _)))
    clear HS HK
    have HS := n0_; have HK := n1_
    clear n0_ n1_
    refine start_ (n := 7) (S := fun w' => True) (ds := []) #[false, false, false, false, false, false, false] (by kernel_rfl) rfl rfl trivial (fun hHeld => ?_); refine with_tabW refB.tab1 refB.bits1 (fun HT_ HW_ => ?_)
    generalize w.drew = w0 at HS HK hHeld ⊢
    refine pure_ (i := 0) (N := some 17) (v := ?_) (a' := ?_) #[true, false, false, false, false, false, false] rfl rfl (any_of HT_.out (by kernel_rfl)) (fun _ _ _ h => h) (Or.inl ⟨by rfl, ?_⟩) ?_ ?_
    rotate_left
    · intro w'
      go_simp
      first | with_reducible rfl | rfl
    rotate_left
    · simp only [Act.put, List.setIfInBounds_toArray, List.set_cons_zero, List.set_cons_succ, i64_w, i32_w]
      rfl
    refine pure_ (i := 1) (N := some 18) (v := ?_) (a' := ?_) #[true, true, false, false, false, false, false] rfl rfl (any_of HT_.out (by kernel_rfl)) (fun _ _ _ h => h) (Or.inl ⟨by rfl, ?_⟩) ?_ ?_
    rotate_left
    · intro w'
      go_simp
      first | with_reducible rfl | rfl
    rotate_left
    · simp only [Act.put, List.setIfInBounds_toArray, List.set_cons_zero, List.set_cons_succ, i64_w, i32_w]
      rfl
    refine pure_ (i := 3) (N := some 20) (v := ?_) (a' := ?_) #[true, true, false, true, false, false, false] rfl rfl (any_of HT_.out (by kernel_rfl)) (fun _ _ _ h => h) (Or.inl ⟨by rfl, ?_⟩) ?_ ?_
    rotate_left
    · intro w'
      go_simp
      first | with_reducible rfl | rfl
    rotate_left
    · simp only [Act.put, List.setIfInBounds_toArray, List.set_cons_zero, List.set_cons_succ, i64_w, i32_w]
      rfl
    refine pure_ (i := 4) (N := some 21) (v := ?_) (a' := ?_) #[true, true, false, true, true, false, false] rfl rfl (any_of HT_.out (by kernel_rfl)) (fun _ _ _ h => h) (Or.inl ⟨by rfl, ?_⟩) ?_ ?_
    rotate_left
    · intro w'
      go_simp
      first | with_reducible rfl | rfl
    rotate_left
    · simp only [Act.put, List.setIfInBounds_toArray, List.set_cons_zero, List.set_cons_succ, i64_w, i32_w]
      rfl
    refine pure_ (i := 5) (N := some 22) (v := ?_) (a' := ?_) #[true, true, false, true, true, true, false] rfl rfl (any_of HT_.out (by kernel_rfl)) (fun _ _ _ h => h) (Or.inl ⟨by rfl, ?_⟩) ?_ ?_
    rotate_left
    · intro w'
      go_simp
      first | with_reducible rfl | rfl
    rotate_left
    · simp only [Act.put, List.setIfInBounds_toArray, List.set_cons_zero, List.set_cons_succ, i64_w, i32_w]
      rfl
    refine one_ (i := 2) (N := some 19) #[true, true, true, true, true, true, false] rfl rfl (one_of HT_.out (by kernel_rfl)) (by decide) (fun K hK => ?_)
    refine goes_ Try.func56 (by kernel_rfl) rfl #[.slice A1 l.length c1, .slice AN now.length cN] (by rfl) rfl rfl (by (try simp only [List.map_toArray, List.map_cons, List.map_nil]); first | done | rfl) ?_
    with_reducible refine (trishawref03_reached.calls k A1 c1 l AN cN now t _ (HR1.out _ HK.out.keep) HC1.out (HRN.out _ HK.out.keep) HCN.out HT.out).mono ?_
    rintro e w1 ⟨rfl, hb⟩
    refine ⟨_, rfl, ?_⟩
    have n0_ := Aside0.mk (HS.out.keep hb)
    have n1_ := Aside0.mk (HK.out.step hb)
    clear HS HK hb
    have HS := n0_; have HK := n1_
    clear n0_ n1_
    refine hK.out _ _ trivial (fun hHeld => ?_)
    clear hK K
    refine norm_ (a' := ?_) ?_ ?_
    rotate_left
    · show Act.put _ (some 19) _ = _
      simp only [Act.put, List.setIfInBounds_toArray, List.set_cons_zero, List.set_cons_succ, i64_w, i32_w]
      rfl
    refine pure_ (i := 6) (N := some 23) (v := ?_) (a' := ?_) #[true, true, true, true, true, true, true] rfl rfl (any_of HT_.out (by kernel_rfl)) (fun _ _ _ h => h) (Or.inl ⟨by rfl, ?_⟩) ?_ ?_
    rotate_left
    · intro w'
      go_simp
      first | with_reducible rfl | rfl
    rotate_left
    · simp only [Act.put, List.setIfInBounds_toArray, List.set_cons_zero, List.set_cons_succ, i64_w, i32_w]
      rfl
    refine done_ (done_of HT_.out (by kernel_rfl)) ?_
    by_cases c7 : s.2.2.length = 0
    case pos =>
      obtain ⟨rfl, rfl⟩ := HS.out.nil c7
      have h := HH.out
      rw [if_pos c7] at h
      obtain rfl := Option.some.inj h
      have C7 := Aside0.mk c7
      clear h HH c7
      have hx0 : w1.cell? ⟨g, 0, none⟩ = some (.int .i64 s.1) := (blk_cell HS.out.blk 0).trans rfl
      have hx1 : w1.cell? ⟨g, 1, none⟩ = some (.int .i64 s.2.1) := (blk_cell HS.out.blk 1).trans rfl
      have hx2 : w1.cell? ⟨g, 2, none⟩ = some (.slice none 0 0) := (blk_cell HS.out.blk 2).trans (by rw [C7.out]; rfl)
      have hf0 := blk_frozen HS.out.blk 0
      have hf1 := blk_frozen HS.out.blk 1
      have hf2 := blk_frozen HS.out.blk 2
      have heq0 : ∀ w, (binOp .eql 28 (.slice none 0 0) (.slice none 0 0)).run Try.prog w = .ok (.bool true) w := fun w => eql_nil28 w none 0 0
      go_wp2_with (first | (go_at_call 63; (refine (trishawref03_cost.calls k A1 c1 l AN cN now u _ (HR1.out _ (HK.out.set 0 _).keep) HC1.out (HRN.out _ (HK.out.set 0 _).keep) HCN.out HU.out).mono ?_); rintro e w2 ⟨rfl, hd⟩; have hb := hd.below; have n0_ := Aside0.mk ((HS.out.put0 x).keep hb); have n1_ := Aside0.mk ((HK.out.set 0 (.int .i64 x)).step hb); clear HS HK hb hd hx0 hx1 hx2 hf0 hf1 hf2; have HS := n0_; have HK := n1_; clear n0_ n1_; have hx1 : w2.cell? ⟨g, 1, none⟩ = some (.int .i64 s.2.1) := (blk_cell HS.out.blk 1).trans rfl; have hx2 : w2.cell? ⟨g, 2, none⟩ = some (.slice none 0 0) := (blk_cell HS.out.blk 2).trans (by rw [C7.out]; rfl); have hf1 := blk_frozen HS.out.blk 1; have hf2 := blk_frozen HS.out.blk 2))
      refine bodyPost_ret (results_none rfl _ _ _) rfl ?_
      exact ⟨rfl, (HK.out.set 2 _).set 1 _, _, _, HS.out.put21 (Kd.R_keep HNO.out HK.out.keep (fun _ hk => hk)) C6.out cc⟩
    have C7 := Aside0.mk c7
    obtain ⟨ad, hAB⟩ : ∃ ad, AB = some ad := by obtain ⟨x_, hx_, _⟩ := (HS.out.rd _ (KeepBut.refl _ _ _)).2.2 (by omega); exact ⟨x_, hx_⟩
    subst hAB
    have h := HH.out
    rw [if_neg c7] at h
    clear HH c7
    have hx0 : w1.cell? ⟨g, 0, none⟩ = some (.int .i64 s.1) := (blk_cell HS.out.blk 0).trans rfl
    have hx1 : w1.cell? ⟨g, 1, none⟩ = some (.int .i64 s.2.1) := (blk_cell HS.out.blk 1).trans rfl
    have hx2 : w1.cell? ⟨g, 2, none⟩ = some (.slice (some ad) s.2.2.length cB) := (blk_cell HS.out.blk 2).trans (by rfl)
    have hf0 := blk_frozen HS.out.blk 0
    have hf1 := blk_frozen HS.out.blk 1
    have hf2 := blk_frozen HS.out.blk 2
    have heq0 : ∀ w, (binOp .eql 28 (.slice (some ad) s.2.2.length cB) (.slice none 0 0)).run Try.prog w = .ok (.bool false) w := fun w => eql_nil28 w (some ad) _ _
    by_cases c8 : cc < s.2.1
    case pos =>
      rw [if_pos c8] at h
      obtain rfl := Option.some.inj h
      have c8b : decide (cc < s.2.1) = true := decide_eq_true c8
      clear h c8
      go_wp2_with (first | (go_at_call 63; (refine (trishawref03_cost.calls k A1 c1 l AN cN now u _ (HR1.out _ (HK.out.set 0 _).keep) HC1.out (HRN.out _ (HK.out.set 0 _).keep) HCN.out HU.out).mono ?_); rintro e w2 ⟨rfl, hd⟩; have hb := hd.below; have n0_ := Aside0.mk ((HS.out.put0 x).keep hb); have n1_ := Aside0.mk ((HK.out.set 0 (.int .i64 x)).step hb); clear HS HK hb hd hx0 hx1 hx2 hf0 hf1 hf2; have HS := n0_; have HK := n1_; clear n0_ n1_; have hx1 : w2.cell? ⟨g, 1, none⟩ = some (.int .i64 s.2.1) := (blk_cell HS.out.blk 1).trans rfl; have hx2 : w2.cell? ⟨g, 2, none⟩ = some (.slice (some ad) s.2.2.length cB) := (blk_cell HS.out.blk 2).trans (by rfl); have hf1 := blk_frozen HS.out.blk 1; have hf2 := blk_frozen HS.out.blk 2))
      refine bodyPost_ret (results_none rfl _ _ _) rfl ?_
      exact ⟨rfl, (HK.out.set 2 _).set 1 _, _, _, HS.out.put21 (Kd.R_keep HNO.out HK.out.keep (fun _ hk => hk)) C6.out cc⟩
    rw [if_neg c8] at h
    have c8b : decide (cc < s.2.1) = false := decide_eq_false c8
    clear c8
    by_cases c9 : cc = s.2.1
    case neg =>
      rw [if_neg c9] at h
      obtain rfl := Option.some.inj h
      have c9b : (cc == s.2.1) = false := beq_eq_false_iff_ne.mpr c9
      clear h c9
      go_wp2_with (first | (go_at_call 63; (refine (trishawref03_cost.calls k A1 c1 l AN cN now u _ (HR1.out _ (HK.out.set 0 _).keep) HC1.out (HRN.out _ (HK.out.set 0 _).keep) HCN.out HU.out).mono ?_); rintro e w2 ⟨rfl, hd⟩; have hb := hd.below; have n0_ := Aside0.mk ((HS.out.put0 x).keep hb); have n1_ := Aside0.mk ((HK.out.set 0 (.int .i64 x)).step hb); clear HS HK hb hd hx0 hx1 hx2 hf0 hf1 hf2; have HS := n0_; have HK := n1_; clear n0_ n1_; have hx1 : w2.cell? ⟨g, 1, none⟩ = some (.int .i64 s.2.1) := (blk_cell HS.out.blk 1).trans rfl; have hx2 : w2.cell? ⟨g, 2, none⟩ = some (.slice (some ad) s.2.2.length cB) := (blk_cell HS.out.blk 2).trans (by rfl); have hf1 := blk_frozen HS.out.blk 1; have hf2 := blk_frozen HS.out.blk 2))
      refine bodyPost_ret (results_none rfl _ _ _) rfl ?_
      exact ⟨rfl, HK.out, _, _, HS.out⟩
    rw [if_pos c9] at h
    have c9b : (cc == s.2.1) = true := beq_iff_eq.mpr c9
    clear c9
    obtain ⟨bb, hbb, h⟩ := Option.bind_eq_some_iff.1 h
    have HL := Aside0.mk hbb
    clear hbb
    cases bb with
    | true =>
      rw [if_pos rfl] at h
      obtain rfl := Option.some.inj h
      clear h
      go_wp2_with (first | (go_at_call 63; (refine (trishawref03_cost.calls k A1 c1 l AN cN now u _ (HR1.out _ (HK.out.set 0 _).keep) HC1.out (HRN.out _ (HK.out.set 0 _).keep) HCN.out HU.out).mono ?_); rintro e w2 ⟨rfl, hd⟩; have hb := hd.below; have n0_ := Aside0.mk ((HS.out.put0 x).keep hb); have n1_ := Aside0.mk ((HK.out.set 0 (.int .i64 x)).step hb); clear HS HK hb hd hx0 hx1 hx2 hf0 hf1 hf2; have HS := n0_; have HK := n1_; clear n0_ n1_; have hx1 : w2.cell? ⟨g, 1, none⟩ = some (.int .i64 s.2.1) := (blk_cell HS.out.blk 1).trans rfl; have hx2 : w2.cell? ⟨g, 2, none⟩ = some (.slice (some ad) s.2.2.length cB) := (blk_cell HS.out.blk 2).trans (by rfl); have hf1 := blk_frozen HS.out.blk 1; have hf2 := blk_frozen HS.out.blk 2) | (go_at_call 38; (refine (trishawref03_Less.calls k AN cN now (some ad) cB s.2.2 true _ (HRN.out _ HK.out.keep) HCN.out (HS.out.rd _ (KeepBut.refl _ _ _)) HS.out.len HL.out).mono ?_); rintro e w3 ⟨rfl, hd⟩; have hb := hd.below; have n0_ := Aside0.mk (HS.out.keep hb); have n1_ := Aside0.mk (HK.out.step hb); clear HS HK hb hd hx1 hx2 hf1 hf2; have HS := n0_; have HK := n1_; clear n0_ n1_; have hf1 := blk_frozen HS.out.blk 1; have hf2 := blk_frozen HS.out.blk 2; have hx1 : w3.cell? ⟨g, 1, none⟩ = some (.int .i64 s.2.1) := (blk_cell HS.out.blk 1).trans rfl; have hx2 : w3.cell? ⟨g, 2, none⟩ = some (.slice (some ad) s.2.2.length cB) := (blk_cell HS.out.blk 2).trans rfl))
      refine bodyPost_ret (results_none rfl _ _ _) rfl ?_
      exact ⟨rfl, (HK.out.set 2 _).set 1 _, _, _, HS.out.put21 (Kd.R_keep HNO.out HK.out.keep (fun _ hk => hk)) C6.out cc⟩
    | false =>
      rw [if_neg (by decide)] at h
      obtain rfl := Option.some.inj h
      clear h
      go_wp2_with (first | (go_at_call 63; (refine (trishawref03_cost.calls k A1 c1 l AN cN now u _ (HR1.out _ (HK.out.set 0 _).keep) HC1.out (HRN.out _ (HK.out.set 0 _).keep) HCN.out HU.out).mono ?_); rintro e w2 ⟨rfl, hd⟩; have hb := hd.below; have n0_ := Aside0.mk ((HS.out.put0 x).keep hb); have n1_ := Aside0.mk ((HK.out.set 0 (.int .i64 x)).step hb); clear HS HK hb hd hx0 hx1 hx2 hf0 hf1 hf2; have HS := n0_; have HK := n1_; clear n0_ n1_; have hx1 : w2.cell? ⟨g, 1, none⟩ = some (.int .i64 s.2.1) := (blk_cell HS.out.blk 1).trans rfl; have hx2 : w2.cell? ⟨g, 2, none⟩ = some (.slice (some ad) s.2.2.length cB) := (blk_cell HS.out.blk 2).trans (by rfl); have hf1 := blk_frozen HS.out.blk 1; have hf2 := blk_frozen HS.out.blk 2) | (go_at_call 38; (refine (trishawref03_Less.calls k AN cN now (some ad) cB s.2.2 false _ (HRN.out _ HK.out.keep) HCN.out (HS.out.rd _ (KeepBut.refl _ _ _)) HS.out.len HL.out).mono ?_); rintro e w3 ⟨rfl, hd⟩; have hb := hd.below; have n0_ := Aside0.mk (HS.out.keep hb); have n1_ := Aside0.mk (HK.out.step hb); clear HS HK hb hd hx1 hx2 hf1 hf2; have HS := n0_; have HK := n1_; clear n0_ n1_; have hf1 := blk_frozen HS.out.blk 1; have hf2 := blk_frozen HS.out.blk 2; have hx1 : w3.cell? ⟨g, 1, none⟩ = some (.int .i64 s.2.1) := (blk_cell HS.out.blk 1).trans rfl; have hx2 : w3.cell? ⟨g, 2, none⟩ = some (.slice (some ad) s.2.2.length cB) := (blk_cell HS.out.blk 2).trans rfl))
      refine bodyPost_ret (results_none rfl _ _ _) rfl ?_
      exact ⟨rfl, HK.out, _, _, HS.out⟩
  case neg =>
    rw [if_neg c3] at h
    have c3b : (corner == n) = false := beq_eq_false_iff_ne.mpr c3
    have c3c : decide (corner = n) = false := decide_eq_false c3
    clear c3
    have HH := Aside0.mk h
    clear h
    go_enter Try.func52, Try.ntmps52
    go_wp2
    go_loopg [13] k (fun kq v13 w' => ∃ (i : Int) (s' : FoundS) (AB' : Option Addr) (cB' : Nat), v13 = .int .i64 i ∧ Aside0 (refB.l0 kq n l sign corner now s' i = some r) ∧ Aside0 (kq ≤ k) ∧ Aside0 (KB g w w') ∧ Aside0 (FoundE g B0 w' s' AB' cB'))
    case atStart => exact ⟨0, s, AB, cB, rfl, HH, ⟨Nat.le_refl _⟩, HK, HS⟩
    case round =>
      clear HH HK HS
      obtain ⟨i, s', AB', cB', rfl, HH, HQ, HK, HS⟩ := hrel
      cases gk with
      | zero => exact absurd HH.out (by simp [refB.l0])
      | succ k1 =>
        have h := HH.out
        clear HH
        simp only [refB.l0] at h
        by_cases c4 : i < (l.length : Int)
        case neg =>
          rw [if_neg c4] at h
          obtain rfl := Option.some.inj h
          have c4b : decide (i < (l.length : Int)) = false := decide_eq_false c4
          clear h c4
          go_wp2
          refine bodyPost_end (results_none rfl _ _ _) rfl ?_
          exact ⟨rfl, HK.out, _, _, HS.out⟩
        rw [if_pos c4] at h
        have c4b : decide (i < (l.length : Int)) = true := decide_eq_true c4
        by_cases c5 : 0 ≤ i
        case neg => rw [if_neg c5] at h; exact absurd h (by simp)
        rw [if_pos c5] at h
        have c5b := eq_true c5
        have c4c := eq_true c4
        obtain ⟨ad1, e1, hy_0, hy_1, hy_2⟩ := at_T30 (HR1.out _ HK.out.keep) i c5 c4
        cases e1
        clear hy_0 hy_2 c4 c5
        by_cases c6 : (rd_T30 l i).f1 = corner
        case neg =>
          rw [if_neg c6] at h
          have c6b : ((rd_T30 l i).f1 == corner) = false := beq_eq_false_iff_ne.mpr c6
          clear c6
          have HH := Aside0.mk h
          clear h
          go_wp2
          go_roundg k1
          case measure => omega
          case rel => exact ⟨_, s', AB', cB', by first | rfl | (simp only [i64_w]; rfl), HH, ⟨by have := HQ.out; omega⟩, HK, HS⟩
        rw [if_pos c6] at h
        have c6b : ((rd_T30 l i).f1 == corner) = true := beq_iff_eq.mpr c6
        clear c6
        obtain ⟨t, ht, h⟩ := Option.bind_eq_some_iff.1 h
        obtain ⟨s2, hs2, h⟩ := Option.bind_eq_some_iff.1 h
        have HT := Aside0.mk ht
        have HS2 := Aside0.mk hs2
        have HH := Aside0.mk h
        clear h ht hs2
        go_wp2_with (first | (go_at_call 73; (refine (trishawref03_put.calls k1 AN cN now i t _ (HRN.out _ HK.out.keep) HCN.out HT.out).mono ?_); rintro e w2 ⟨vt, rfl, ho, hb⟩; obtain ⟨At, ct, hvt⟩ := Kd.R_slice ho; subst hvt; have hlt := blk_lt HS.out.blk; have HN := Aside0.mk (Kd.R_lower (Kd.R_mono (Kd.R_bound ho) (fun k_ hk_ => (by have := hk_.2.1; omega : k_ ≠ g))) (Nat.le_trans HB0.out HK.out.keep.1)); have n0_ := Aside0.mk (HS.out.keep hb); have n1_ := Aside0.mk (HK.out.step hb); clear HS HK hb ho hlt hy_1; have HS := n0_; have HK := n1_; clear n0_ n1_) | (go_at_call 52; (refine (IH.out k1 (by have := HQ.out; omega) g B0 n (some ad1) c1 l sign (wrap64 (corner + 1)) At ct t s' s2 AB' cB' _ (Nat.le_trans HB0.out HK.out.keep.1) HS.out (foot_step HR1.out HK.out.keep) HC1.out HN.out HS2.out).mono ?_); rintro e w3 ⟨rfl, hk, AB2, cB2, hs⟩; have n1_ := Aside0.mk (HK.out.trans hk); clear HS HK hk; have HS := Aside0.mk hs; have HK := n1_; clear n1_ hs))
        go_roundg k1
        case measure => omega
        case rel => exact ⟨_, s2, AB2, cB2, by first | rfl | (simp only [i64_w]; rfl), HH, ⟨by have := HQ.out; omega⟩, HK, HS⟩
end Go.Proofs.Ytpmadffgdfholaa.B
namespace Go.Proofs.Ytpmadffgdfholaa.B
open Go.RowKit Go.Proofs.YtpmadffgdfholaaW.PrintWords Go.Proofs.YtpmadffgdfholaaW.PrintLast Go.Proofs.YtpmadffgdfholaaW.PrintMore
set_option linter.unusedVariables false
set_option linter.unusedSimpArgs false
def trishawref03_search.f (k : Nat) (n : Int) (l : List S30) (sign : Int) : Option (List Int × Int × Int) :=
  (trishawref03_Town.f k n l).bind fun e => if e = 0 then (refB.f k n l sign 1 [] (0, 0, [])).bind fun s => if s.1 = 0 then some ([], 0, 10) else some (s.2.2, wrap64 (sign * s.2.1), 0) else some ([], 0, e)
def trishawref03_Count.f (k : Nat) (n : Int) (l : List S30) : Option (Int × Int) :=
  (trishawref03_Town.f k n l).bind fun e => if e = 0 then (refB.f k n l 1 1 [] (0, 0, [])).bind fun s => some (s.1, 0) else some (0, e)
theorem came_foot {g : Nat} {w W : World} {A : Option Addr} {n : Nat} {xs : List S30} (h : Kd.C k30 w A n xs) (hb : Below w.heap.size w W) (hg : w.heap.size ≤ g) : ∀ W', KeepBut W W' g none → Kd.C k30 W' A n xs := Kd.C_foot_came k30_heap h hb hg
set_option maxHeartbeats 8000000 in
set_option maxRecDepth 100000 in
theorem trishawref03_search.calls (k : Nat) (n : Int) (A1 : Option Addr) (c1 : Nat) (l : List S30) (sign : Int) (r1 : List Int) (r2 r3 : Int) (w : World) (hr1 : Kd.C k30 w A1 l.length l) (hc1 : l.length ≤ c1) (h : trishawref03_search.f k n l sign = some (r1, r2, r3)) :
    Calls Try.prog 49 #[.int .i64 n, .slice A1 l.length c1, .int .i64 sign] w fun e w' => ∃ v0_ : Value, e = .returned (.tuple #[v0_, .int .i64 r2, .int .i64 r3]) ∧ Kd.R (Kd.int .i64) 3 w' w.heap.size (fun _ => True) v0_ r1 ∧ Below w.heap.size w w' := by
  have hu81 := Try.underlying81
  have hu79 := Try.underlying79
  have HR1 := Aside0.mk hr1
  have HC1 := Aside0.mk hc1
  clear hr1 hc1
  have HB := Aside0.mk (Below.refl w.heap.size w)
  unfold trishawref03_search.f at h
  obtain ⟨t, ht, h⟩ := Option.bind_eq_some_iff.1 h
  have HT0 := Aside0.mk ht
  clear ht
  by_cases c3 : t = 0
  case neg =>
    rw [if_neg c3] at h
    have c3b : (t == 0) = false := beq_eq_false_iff_ne.mpr c3
    have c3c : (t != 0) = true := bne_iff_ne.mpr c3
    simp only [Option.some.injEq, Prod.mk.injEq] at h
    obtain ⟨rfl, rfl, rfl⟩ := h
    clear c3
    go_enter Try.func49, Try.ntmps49
    go_wp2_with (first | (go_at_call 16; (refine (trishawref03_Town.calls k n A1 c1 l t _ HR1.out HC1.out HT0.out).mono ?_); rintro e w1 ⟨rfl, hb⟩; clear HB; have HB := Aside0.mk hb; clear hb))
    go_ret3
    exact ⟨_, by first | rfl | (simp; done), Kd.R_nil _ _ _ _ _, HB.out⟩
  rw [if_pos c3] at h
  have c3b : (t == 0) = true := beq_iff_eq.mpr c3
  have c3c : (t != 0) = false := bne_eq_false_iff_eq.mpr c3
  clear c3
  obtain ⟨s, hs, h⟩ := Option.bind_eq_some_iff.1 h
  have HS0 := Aside0.mk hs
  have HH := Aside0.mk h
  clear h hs
  go_enter Try.func49, Try.ntmps49
  by_cases c4 : s.1 = 0
  case pos =>
    have h := HH.out
    rw [if_pos c4] at h
    simp only [Option.some.injEq, Prod.mk.injEq] at h
    obtain ⟨rfl, rfl, rfl⟩ := h
    have c4b : (s.1 == 0) = true := beq_iff_eq.mpr c4
    clear c4
    go_wp2_with (first | (go_at_call 16; (refine (trishawref03_Town.calls k n A1 c1 l t _ HR1.out HC1.out HT0.out).mono ?_); rintro e w1 ⟨rfl, hb⟩; clear HB; have HB := Aside0.mk hb; clear hb) | ((with_reducible refine gate_dst (N := 18) rfl ?_); refine box_event ?hg (N := 18) ?hd (cs := #[.int .i64 0, .int .i64 0, .slice none 0 0]) (t := 81) ?hr ?_; (case hd => rfl); (case hg => rfl); (case hr => first | (go_simp; done) | (go_simp; rfl)); intro g hg w2 hbox hb; have GE := Aside0.mk (show w.heap.size ≤ g by rw [hg]; exact below_size HB.out); have HS := Aside0.mk (show FoundE g w.heap.size w2 (0, 0, []) none 0 from ⟨hbox, Kd.R_nil _ _ _ _ _, fun _ => ⟨rfl, rfl⟩⟩); have n0_ := Aside0.mk (below_step HB.out hb); clear HB; have HB := n0_; clear n0_ hg hbox hb) | (go_at_call 52; (refine (refB.calls k g w.heap.size n A1 c1 l sign 1 none 0 [] (0, 0, []) s none 0 _ (below_size HB.out) HS.out (came_foot HR1.out HB.out GE.out) HC1.out (Kd.R_nil _ _ _ _ _) HS0.out).mono ?_); rintro e w3 ⟨rfl, hk, AB, cB, hs⟩; have n0_ := Aside0.mk (hk.below HB.out GE.out); clear HB HS hk; have HB := n0_; have HS := Aside0.mk hs; clear n0_ hs; have hx0 : w3.cell? ⟨g, 0, none⟩ = some (.int .i64 s.1) := (blk_cell HS.out.blk 0).trans rfl; have hx1 : w3.cell? ⟨g, 1, none⟩ = some (.int .i64 s.2.1) := (blk_cell HS.out.blk 1).trans rfl; have hx2 : w3.cell? ⟨g, 2, none⟩ = some (.slice AB s.2.2.length cB) := (blk_cell HS.out.blk 2).trans rfl))
    go_ret3
    exact ⟨_, by first | rfl | (simp; done), Kd.R_nil _ _ _ _ _, HB.out⟩
  have h := HH.out
  rw [if_neg c4] at h
  simp only [Option.some.injEq, Prod.mk.injEq] at h
  obtain ⟨rfl, hr2, rfl⟩ := h
  have c4b : (s.1 == 0) = false := beq_eq_false_iff_ne.mpr c4
  clear c4
  obtain ⟨cc, hcc⟩ : ∃ cc, wrap64 (sign * s.2.1) = cc := ⟨_, rfl⟩
  have hccw : (IntKind.i64.wrap (sign * s.2.1)) = cc := (i64_w _).trans hcc
  have HR2 := Aside0.mk (hcc.symm.trans hr2)
  clear hr2
  go_wp2_with (first | (go_at_call 16; (refine (trishawref03_Town.calls k n A1 c1 l t _ HR1.out HC1.out HT0.out).mono ?_); rintro e w1 ⟨rfl, hb⟩; clear HB; have HB := Aside0.mk hb; clear hb) | ((with_reducible refine gate_dst (N := 18) rfl ?_); refine box_event ?hg (N := 18) ?hd (cs := #[.int .i64 0, .int .i64 0, .slice none 0 0]) (t := 81) ?hr ?_; (case hd => rfl); (case hg => rfl); (case hr => first | (go_simp; done) | (go_simp; rfl)); intro g hg w2 hbox hb; have GE := Aside0.mk (show w.heap.size ≤ g by rw [hg]; exact below_size HB.out); have HS := Aside0.mk (show FoundE g w.heap.size w2 (0, 0, []) none 0 from ⟨hbox, Kd.R_nil _ _ _ _ _, fun _ => ⟨rfl, rfl⟩⟩); have n0_ := Aside0.mk (below_step HB.out hb); clear HB; have HB := n0_; clear n0_ hg hbox hb) | (go_at_call 52; (refine (refB.calls k g w.heap.size n A1 c1 l sign 1 none 0 [] (0, 0, []) s none 0 _ (below_size HB.out) HS.out (came_foot HR1.out HB.out GE.out) HC1.out (Kd.R_nil _ _ _ _ _) HS0.out).mono ?_); rintro e w3 ⟨rfl, hk, AB, cB, hs⟩; have n0_ := Aside0.mk (hk.below HB.out GE.out); clear HB HS hk; have HB := n0_; have HS := Aside0.mk hs; clear n0_ hs; have hx0 : w3.cell? ⟨g, 0, none⟩ = some (.int .i64 s.1) := (blk_cell HS.out.blk 0).trans rfl; have hx1 : w3.cell? ⟨g, 1, none⟩ = some (.int .i64 s.2.1) := (blk_cell HS.out.blk 1).trans rfl; have hx2 : w3.cell? ⟨g, 2, none⟩ = some (.slice AB s.2.2.length cB) := (blk_cell HS.out.blk 2).trans rfl))
  go_region_held3 (fun w' => w'.cell? ⟨g, 1, none⟩ = some (.int .i64 s.2.1) ∧ w'.cell? ⟨g, 2, none⟩ = some (.slice AB s.2.2.length cB)) (go_keep) (fail)
  go_wp2
  go_ret3
  exact ⟨_, by first | (rw [← HR2.out]; rfl) | rfl | (simp; done), by (with_reducible repeat (first | apply Kd.R_alloc | apply Kd.R_drewN | apply Kd.R_drew)); exact Kd.R_mono HS.out.own (fun _ _ => trivial), by repeat (first | (with_reducible first | exact HB.out | apply below_alloc | apply pw_below_drewN | apply below_drew1) | exact HB.out)⟩
set_option maxHeartbeats 8000000 in
set_option maxRecDepth 100000 in
theorem trishawref03_Count.calls (k : Nat) (n : Int) (A1 : Option Addr) (c1 : Nat) (l : List S30) (r1 r2 : Int) (w : World) (hr1 : Kd.C k30 w A1 l.length l) (hc1 : l.length ≤ c1) (h : trishawref03_Count.f k n l = some (r1, r2)) :
    Calls Try.prog 28 #[.int .i64 n, .slice A1 l.length c1] w fun e w' => e = .returned (.tuple #[.int .i64 r1, .int .i64 r2]) ∧ Below w.heap.size w w' := by
  have hu81 := Try.underlying81
  have hu79 := Try.underlying79
  have HR1 := Aside0.mk hr1
  have HC1 := Aside0.mk hc1
  clear hr1 hc1
  have HB := Aside0.mk (Below.refl w.heap.size w)
  unfold trishawref03_Count.f at h
  obtain ⟨t, ht, h⟩ := Option.bind_eq_some_iff.1 h
  have HT0 := Aside0.mk ht
  clear ht
  by_cases c3 : t = 0
  case neg =>
    rw [if_neg c3] at h
    have c3b : (t == 0) = false := beq_eq_false_iff_ne.mpr c3
    have c3c : (t != 0) = true := bne_iff_ne.mpr c3
    simp only [Option.some.injEq, Prod.mk.injEq] at h
    obtain ⟨rfl, rfl⟩ := h
    clear c3
    go_enter Try.func28, Try.ntmps28
    go_wp2_with (first | (go_at_call 16; (refine (trishawref03_Town.calls k n A1 c1 l t _ HR1.out HC1.out HT0.out).mono ?_); rintro e w1 ⟨rfl, hb⟩; clear HB; have HB := Aside0.mk hb; clear hb))
    go_ret2
    exact ⟨by first | rfl | (simp; done), HB.out⟩
  rw [if_pos c3] at h
  have c3b : (t == 0) = true := beq_iff_eq.mpr c3
  have c3c : (t != 0) = false := bne_eq_false_iff_eq.mpr c3
  clear c3
  obtain ⟨s, hs, h⟩ := Option.bind_eq_some_iff.1 h
  have HS0 := Aside0.mk hs
  simp only [Option.some.injEq, Prod.mk.injEq] at h
  obtain ⟨rfl, rfl⟩ := h
  clear hs
  go_enter Try.func28, Try.ntmps28
  go_wp2_with (first | (go_at_call 16; (refine (trishawref03_Town.calls k n A1 c1 l t _ HR1.out HC1.out HT0.out).mono ?_); rintro e w1 ⟨rfl, hb⟩; clear HB; have HB := Aside0.mk hb; clear hb) | ((with_reducible refine gate_dst (N := 15) rfl ?_); refine box_event ?hg (N := 15) ?hd (cs := #[.int .i64 0, .int .i64 0, .slice none 0 0]) (t := 81) ?hr ?_; (case hd => rfl); (case hg => rfl); (case hr => first | (go_simp; done) | (go_simp; rfl)); intro g hg w2 hbox hb; have GE := Aside0.mk (show w.heap.size ≤ g by rw [hg]; exact below_size HB.out); have HS := Aside0.mk (show FoundE g w.heap.size w2 (0, 0, []) none 0 from ⟨hbox, Kd.R_nil _ _ _ _ _, fun _ => ⟨rfl, rfl⟩⟩); have n0_ := Aside0.mk (below_step HB.out hb); clear HB; have HB := n0_; clear n0_ hg hbox hb) | (go_at_call 52; (refine (refB.calls k g w.heap.size n A1 c1 l 1 1 none 0 [] (0, 0, []) s none 0 _ (below_size HB.out) HS.out (came_foot HR1.out HB.out GE.out) HC1.out (Kd.R_nil _ _ _ _ _) HS0.out).mono ?_); rintro e w3 ⟨rfl, hk, AB, cB, hs⟩; have n0_ := Aside0.mk (hk.below HB.out GE.out); clear HB HS hk; have HB := n0_; have HS := Aside0.mk hs; clear n0_ hs; have hx0 : w3.cell? ⟨g, 0, none⟩ = some (.int .i64 s.1) := (blk_cell HS.out.blk 0).trans rfl; have hx1 : w3.cell? ⟨g, 1, none⟩ = some (.int .i64 s.2.1) := (blk_cell HS.out.blk 1).trans rfl; have hx2 : w3.cell? ⟨g, 2, none⟩ = some (.slice AB s.2.2.length cB) := (blk_cell HS.out.blk 2).trans rfl))
  go_ret2
  exact ⟨by first | rfl | (simp; done), by repeat (first | (with_reducible first | exact HB.out | apply below_alloc | apply pw_below_drewN | apply below_drew1) | exact HB.out)⟩
end Go.Proofs.Ytpmadffgdfholaa.B
namespace Go.Proofs.Ytpmadffgdfholaa.B
open Go.RowKit Go.Proofs.YtpmadffgdfholaaW.PrintWords Go.Proofs.YtpmadffgdfholaaW.PrintLast Go.Proofs.YtpmadffgdfholaaW.PrintMore
attribute [local go_sem] max2_int min2_int max_two min_two max_three min_three max_four min_four   -- for this text's walks alone
set_option linter.unusedVariables false
set_option linter.unusedSimpArgs false
def trishawref03_Branching.f (k : Nat) (a0 : Int) (l1 : List (S30)) : Option (List Int × Int × Int) := (trishawref03_search.f k a0 l1 1).bind fun bt101 => (some (bt101.1, bt101.2.1, bt101.2.2))
set_option maxHeartbeats 8000000 in
set_option maxRecDepth 100000 in
theorem trishawref03_Branching.calls (k : Nat) (a0 : Int) (A1 : Option Addr) (c1 : Nat) (l1 : List (S30)) (r1 : List Int) (r2 : Int) (r3 : Int) (w : World) (hr1 : Kd.C k30 w A1 l1.length l1) (hc1 : l1.length ≤ c1) (h : trishawref03_Branching.f k a0 l1 = some (r1, r2, r3)) :
    Calls Try.prog 22 #[.int .i64 a0, .slice A1 l1.length c1] w fun e w' => ∃ v0_ : Value, e = .returned (.tuple #[v0_, .int .i64 r2, .int .i64 r3]) ∧ Kd.R (Kd.int .i64) 3 w' w.heap.size (fun _ => True) v0_ r1 ∧ Below w.heap.size w w' := by
  have HR1 := Aside0.mk hr1
  have HC1 := Aside0.mk hc1
  clear hr1 hc1
  have HB := Aside0.mk (Below.refl w.heap.size w)
  have H : ((trishawref03_search.f k a0 l1 1).bind fun bt101 => (some (bt101.1, bt101.2.1, bt101.2.2))) = some (r1, r2, r3) := h
  clear h
  replace H := Option.bind_eq_some_iff.mp H
  obtain ⟨⟨t101, t102, t103⟩, A30, H⟩ := H
  replace H : (some (t101, t102, t103)) = some (r1, r2, r3) := H
  have A3 := Aside0.mk A30
  clear A30
  simp only [Option.some.injEq, Prod.mk.injEq] at H
  obtain ⟨rfl, rfl, rfl⟩ := H
  go_enter Try.func22, Try.ntmps22
  go_wp2_with (first | ((with_reducible refine gate_callee (f := 49) rfl ?_); refine goesL_ (some 9) rfl rfl Try.func49 (by kernel_rfl) rfl #[.int .i64 a0, .slice A1 l1.length c1, .int .i64 1] rfl (by (try simp only [List.map_toArray, List.map_cons, List.map_nil]); first | done | rfl | (simp only [List.length_drop, List.length_take]; rfl)) ?_; (with_reducible refine (trishawref03_search.calls k a0 _ _ l1 1 t101 t102 t103 _ ?side1 ?side2 A3.out).mono ?_); (case side1 => repeat (first | exact HR1.out | (with_reducible refine Kd.C_alloc ?_ _) | (with_reducible refine Kd.C_drewN ?_ _) | (with_reducible refine Kd.C_drew ?_))); (case side2 => exact HC1.out); rintro e w4 ⟨v104, rfl, ho0, hb⟩; refine ⟨_, rfl, ?_⟩; have n0_ := Aside0.mk (Kd.R_lower ho0 (below_size (by repeat (first | (with_reducible first | exact HB.out | apply below_alloc | apply pw_below_drewN | apply below_drew1) | exact HB.out)))); have n1_ := Aside0.mk (below_step (by repeat (first | (with_reducible first | exact HB.out | apply below_alloc | apply pw_below_drewN | apply below_drew1) | exact HB.out)) hb); clear HB; have HO105 := n0_; have HB := n1_; clear n0_ n1_; (try clear hb); (try clear hb2); (try clear hk); (try clear hi); (try clear ho0)))
  go_ret3
  exact ⟨_, by first | rfl | (simp [errW_none, errW_some] <;> rfl) | (simp [*, errW_none, errW_some] <;> rfl), by (with_reducible repeat (first | apply Kd.R_alloc | apply Kd.R_drewN | apply Kd.R_drew)); exact HO105.out, by repeat (first | (with_reducible first | exact HB.out | apply below_alloc | apply pw_below_drewN | apply below_drew1) | exact HB.out)⟩
def trishawref03_Dear.f (k : Nat) (a0 : Int) (l1 : List (S30)) : Option (List Int × Int × Int) := (trishawref03_search.f k a0 l1 (-1)).bind fun bt106 => (some (bt106.1, bt106.2.1, bt106.2.2))
set_option maxHeartbeats 8000000 in
set_option maxRecDepth 100000 in
theorem trishawref03_Dear.calls (k : Nat) (a0 : Int) (A1 : Option Addr) (c1 : Nat) (l1 : List (S30)) (r1 : List Int) (r2 : Int) (r3 : Int) (w : World) (hr1 : Kd.C k30 w A1 l1.length l1) (hc1 : l1.length ≤ c1) (h : trishawref03_Dear.f k a0 l1 = some (r1, r2, r3)) :
    Calls Try.prog 27 #[.int .i64 a0, .slice A1 l1.length c1] w fun e w' => ∃ v0_ : Value, e = .returned (.tuple #[v0_, .int .i64 r2, .int .i64 r3]) ∧ Kd.R (Kd.int .i64) 3 w' w.heap.size (fun _ => True) v0_ r1 ∧ Below w.heap.size w w' := by
  have HR1 := Aside0.mk hr1
  have HC1 := Aside0.mk hc1
  clear hr1 hc1
  have HB := Aside0.mk (Below.refl w.heap.size w)
  have H : ((trishawref03_search.f k a0 l1 (-1)).bind fun bt106 => (some (bt106.1, bt106.2.1, bt106.2.2))) = some (r1, r2, r3) := h
  clear h
  replace H := Option.bind_eq_some_iff.mp H
  obtain ⟨⟨t106, t107, t108⟩, A30, H⟩ := H
  replace H : (some (t106, t107, t108)) = some (r1, r2, r3) := H
  have A3 := Aside0.mk A30
  clear A30
  simp only [Option.some.injEq, Prod.mk.injEq] at H
  obtain ⟨rfl, rfl, rfl⟩ := H
  go_enter Try.func27, Try.ntmps27
  go_wp2_with (first | ((with_reducible refine gate_callee (f := 49) rfl ?_); refine goesL_ (some 9) rfl rfl Try.func49 (by kernel_rfl) rfl #[.int .i64 a0, .slice A1 l1.length c1, .int .i64 (-1)] rfl (by (try simp only [List.map_toArray, List.map_cons, List.map_nil]); first | done | rfl | (simp only [List.length_drop, List.length_take]; rfl)) ?_; (with_reducible refine (trishawref03_search.calls k a0 _ _ l1 (-1) t106 t107 t108 _ ?side1 ?side2 A3.out).mono ?_); (case side1 => repeat (first | exact HR1.out | (with_reducible refine Kd.C_alloc ?_ _) | (with_reducible refine Kd.C_drewN ?_ _) | (with_reducible refine Kd.C_drew ?_))); (case side2 => exact HC1.out); rintro e w4 ⟨v109, rfl, ho0, hb⟩; refine ⟨_, rfl, ?_⟩; have n0_ := Aside0.mk (Kd.R_lower ho0 (below_size (by repeat (first | (with_reducible first | exact HB.out | apply below_alloc | apply pw_below_drewN | apply below_drew1) | exact HB.out)))); have n1_ := Aside0.mk (below_step (by repeat (first | (with_reducible first | exact HB.out | apply below_alloc | apply pw_below_drewN | apply below_drew1) | exact HB.out)) hb); clear HB; have HO110 := n0_; have HB := n1_; clear n0_ n1_; (try clear hb); (try clear hb2); (try clear hk); (try clear hi); (try clear ho0)))
  go_ret3
  exact ⟨_, by first | rfl | (simp [errW_none, errW_some] <;> rfl) | (simp [*, errW_none, errW_some] <;> rfl), by (with_reducible repeat (first | apply Kd.R_alloc | apply Kd.R_drewN | apply Kd.R_drew)); exact HO110.out, by repeat (first | (with_reducible first | exact HB.out | apply below_alloc | apply pw_below_drewN | apply below_drew1) | exact HB.out)⟩
end Go.Proofs.Ytpmadffgdfholaa.B
namespace Go.Proofs.Ytpmadffgdfholaa.B
open Go.RowKit Go.Proofs.YtpmadffgdfholaaW.PrintWords Go.Proofs.YtpmadffgdfholaaW.PrintLast Go.Proofs.YtpmadffgdfholaaW.PrintMore
attribute [local go_sem] max2_int min2_int max_two min_two max_three min_three max_four min_four   -- for this text's walks alone
set_option linter.unusedVariables false
set_option linter.unusedSimpArgs false
mutual
def branch_town_narrow.l0 : Nat → (Int → Option Bool) → Int → Int → Int → Int → List (S30) → Option (Int × Int)
  | 0, _, _, _, _, _, _ => none
  | k + 1, x1, x6, x7, x8, x1000, x1001 => (branch_town_everybody.f x1000 x1001).bind fun t101 => (if x8 ≤ t101 then ((branch_town_entering.f k x1000 x1001 x8).bind fun t102 => (branch_town_narrow.l1 k x1 x6 x7 x8 0 t102 (t102.length : Int) 0 x1000 x1001)) else (some (x6, x7)))
def branch_town_narrow.l1 : Nat → (Int → Option Bool) → Int → Int → Int → Int → List Int → Int → Int → Int → List (S30) → Option (Int × Int)
  | 0, _, _, _, _, _, _, _, _, _, _ => none
  | k + 1, x1, x6, x7, x8, x9, x20, x21, x22, x1000, x1001 => if x22 < x21 then (if 0 ≤ x22 then (if x22 < (x20.length : Int) then ((x1 (rd x20 x22)).bind fun t106 => (if t106 = true then (branch_town_narrow.l1 k x1 x6 x7 x8 x9 x20 x21 (wrap64 (x22 + 1)) x1000 x1001) else (branch_town_narrow.l1 k x1 x6 x7 x8 (wrap64 (x9 + 1)) x20 x21 (wrap64 (x22 + 1)) x1000 x1001))) else (none)) else (none)) else (if x6 < 0 then (branch_town_narrow.l0 k x1 x9 x8 (wrap64 (x8 + 2)) x1000 x1001) else (if x9 < x6 then (branch_town_narrow.l0 k x1 x9 x8 (wrap64 (x8 + 2)) x1000 x1001) else (branch_town_narrow.l0 k x1 x6 x7 (wrap64 (x8 + 2)) x1000 x1001)))
end
def branch_town_narrow.f (k : Nat) (a0_0 : Int) (l0_1 : List (S30)) (a1 : (Int → Option Bool)) : Option (Int × Int) := branch_town_narrow.l0 k a1 (-1) 0 2 a0_0 l0_1
theorem branch_town_narrow.mono_l : ∀ k, (∀ y0 y1 y2 y3 y4 y5, LeO (branch_town_narrow.l0 k y0 y1 y2 y3 y4 y5) (branch_town_narrow.l0 (k + 1) y0 y1 y2 y3 y4 y5)) ∧ (∀ y0 y1 y2 y3 y4 y5 y6 y7 y8 y9, LeO (branch_town_narrow.l1 k y0 y1 y2 y3 y4 y5 y6 y7 y8 y9) (branch_town_narrow.l1 (k + 1) y0 y1 y2 y3 y4 y5 y6 y7 y8 y9))
  | 0 => ⟨fun _ _ _ _ _ _ r h => by simp [branch_town_narrow.l0] at h, fun _ _ _ _ _ _ _ _ _ _ r h => by simp [branch_town_narrow.l1] at h⟩
  | k + 1 => by
    obtain ⟨ih0, ih1⟩ := branch_town_narrow.mono_l k
    refine ⟨?_, ?_⟩
    · intro y0 y1 y2 y3 y4 y5
      unfold branch_town_narrow.l0
      repeat' first
      | (with_reducible exact ih0 _ _ _ _ _ _)
      | (with_reducible exact ih1 _ _ _ _ _ _ _ _ _ _)
      | (with_reducible exact branch_town_entering.mono _ _ _ _)
      | (with_reducible exact LeO.refl _)
      | (with_reducible exact LeO.none _)
      | (with_reducible refine LeO.ite ?_ ?_)
      | (with_reducible refine LeO.bind ?_ (fun _ => ?_))
      | exact ih0 _ _ _ _ _ _
      | exact ih1 _ _ _ _ _ _ _ _ _ _
      | exact branch_town_entering.mono _ _ _ _
      | exact LeO.none _
      | refine LeO.ite ?_ ?_
      | refine LeO.bind ?_ (fun _ => ?_)
    · intro y0 y1 y2 y3 y4 y5 y6 y7 y8 y9
      unfold branch_town_narrow.l1
      repeat' first
      | (with_reducible exact ih0 _ _ _ _ _ _)
      | (with_reducible exact ih1 _ _ _ _ _ _ _ _ _ _)
      | (with_reducible exact branch_town_entering.mono _ _ _ _)
      | (with_reducible exact LeO.refl _)
      | (with_reducible exact LeO.none _)
      | (with_reducible refine LeO.ite ?_ ?_)
      | (with_reducible refine LeO.bind ?_ (fun _ => ?_))
      | exact ih0 _ _ _ _ _ _
      | exact ih1 _ _ _ _ _ _ _ _ _ _
      | exact branch_town_entering.mono _ _ _ _
      | exact LeO.none _
      | refine LeO.ite ?_ ?_
      | refine LeO.bind ?_ (fun _ => ?_)
theorem branch_town_narrow.mono : ∀ a0 a1 a2 k, LeO (branch_town_narrow.f k a0 a1 a2) (branch_town_narrow.f (k + 1) a0 a1 a2) := by
  intro a0 a1 a2 k
  obtain ⟨ih0, ih1⟩ := branch_town_narrow.mono_l k
  unfold branch_town_narrow.f
  repeat' first
      | (with_reducible exact ih0 _ _ _ _ _ _)
      | (with_reducible exact ih1 _ _ _ _ _ _ _ _ _ _)
      | (with_reducible exact branch_town_entering.mono _ _ _ _)
      | (with_reducible exact LeO.refl _)
      | (with_reducible exact LeO.none _)
      | (with_reducible refine LeO.ite ?_ ?_)
      | (with_reducible refine LeO.bind ?_ (fun _ => ?_))
      | exact ih0 _ _ _ _ _ _
      | exact ih1 _ _ _ _ _ _ _ _ _ _
      | exact branch_town_entering.mono _ _ _ _
      | exact LeO.none _
      | refine LeO.ite ?_ ?_
      | refine LeO.bind ?_ (fun _ => ?_)
set_option maxHeartbeats 8000000 in
set_option maxRecDepth 100000 in
theorem branch_town_narrow.calls (k : Nat) (g0 : Nat) (a0_0 : Int) (A0_1 : Option Addr) (c0_1 : Nat) (l0_1 : List (S30)) (a0_2 : Option Nat) (vf1 : Value) (a1 : (Int → Option Bool)) (r1 : Int) (r2 : Int) (w : World) (hP0 : w.heap[g0]? = some (.cells #[.int .i64 a0_0, .slice A0_1 l0_1.length c0_1, .map a0_2] 70 (0, 0))) (hr0_1 : Kd.C k30 w A0_1 l0_1.length l0_1) (hc0_1 : l0_1.length ≤ c0_1) (hF1 : IsLook Try.prog 92 w vf1 a1) (h : branch_town_narrow.f k a0_0 l0_1 a1 = some (r1, r2)) :
    Calls Try.prog 53 #[.pointer (some ⟨g0, 0, none⟩), vf1] w fun e w' => e = .returned (.tuple #[.int .i64 r1, .int .i64 r2]) ∧ Below w.heap.size w w' := by
  have HP0 := Aside0.mk hP0
  clear hP0
  have HR0_1 := Aside0.mk hr0_1
  have HC0_1 := Aside0.mk hc0_1
  clear hr0_1 hc0_1
  have HF1 := Aside0.mk hF1
  clear hF1
  have HB := Aside0.mk (Below.refl w.heap.size w)
  have H : (branch_town_narrow.l0 k a1 (-1) 0 2 a0_0 l0_1) = some (r1, r2) := h
  clear h
  have H' := Aside0.mk H
  clear H
  go_enter Try.func53, Try.ntmps53
  go_wp2
  go_loopg [6, 7, 8] k (fun kq v6 v7 v8 w' => ∃ (x6_1 : Int) (x7_1 : Int) (x8_1 : Int), v6 = .int .i64 x6_1 ∧ v7 = .int .i64 x7_1 ∧ v8 = .int .i64 x8_1 ∧ Aside0 (branch_town_narrow.l0 kq a1 x6_1 x7_1 x8_1 a0_0 l0_1 = some (r1, r2)) ∧ Aside0 (kq ≤ k) ∧ Aside0 (Below w.heap.size w w'))
  case atStart => exact ⟨((-1)), (0), (2), (by first | rfl | (simp; done) | (simp [*]; done)), (by first | rfl | (simp; done) | (simp [*]; done)), (by first | rfl | (simp; done) | (simp [*]; done)), H', ⟨Nat.le_refl _⟩, ⟨by repeat (first | (with_reducible first | exact HB.out | apply below_alloc | apply pw_below_drewN | apply below_drew1) | exact HB.out)⟩⟩
  case round =>
    clear H'
    try clear p2
    obtain ⟨x6_1, x7_1, x8_1, rfl, rfl, rfl, HA, HK1, HB⟩ := hrel
    cases gk with
    | zero => exact absurd HA.out (by simp [branch_town_narrow.l0])
    | succ k1 =>
      have H := HA.out
      clear HA
      simp only [branch_town_narrow.l0] at H
      replace H := Option.bind_eq_some_iff.mp H
      obtain ⟨t101, A30, H⟩ := H
      replace H : (if x8_1 ≤ t101 then ((branch_town_entering.f k1 a0_0 l0_1 x8_1).bind fun t102 => (branch_town_narrow.l1 k1 a1 x6_1 x7_1 x8_1 0 t102 (t102.length : Int) 0 a0_0 l0_1)) else (some (x6_1, x7_1))) = some (r1, r2) := H
      have A3 := Aside0.mk A30
      clear A30
      by_cases c4 : x8_1 ≤ t101
      · rw [if_pos c4] at H
        have c4b0 : decide (x8_1 ≤ t101) = true := decide_eq_true c4
        clear c4
        replace H := Option.bind_eq_some_iff.mp H
        obtain ⟨t102, A50, H⟩ := H
        replace H : (branch_town_narrow.l1 k1 a1 x6_1 x7_1 x8_1 0 t102 (t102.length : Int) 0 a0_0 l0_1) = some (r1, r2) := H
        have A5 := Aside0.mk A50
        clear A50
        have H' := Aside0.mk H
        clear H
        go_wp2_with (first | ((with_reducible refine gate_callee (f := 74) rfl ?_); refine goesL_ (some 14) rfl rfl Try.func74 (by kernel_rfl) rfl #[.pointer (some ⟨g0, 0, none⟩)] rfl (by (try simp only [List.map_toArray, List.map_cons, List.map_nil]); first | done | rfl | (simp only [List.length_drop, List.length_take]; rfl)) ?_; (with_reducible refine (branch_town_everybody.calls g0 a0_0 A0_1 c0_1 l0_1 a0_2 t101 _ ?side1 ?side2 ?side3 A3.out).mono ?_); (case side1 => exact ((show Below _ _ _ from by repeat (first | (with_reducible first | exact HB.out | apply below_alloc | apply pw_below_drewN | apply below_drew1) | exact HB.out)).block _ (blk_lt HP0.out)).trans HP0.out); (case side2 => repeat (first | exact (Kd.C_below HR0_1.out HB.out) | (with_reducible refine Kd.C_alloc ?_ _) | (with_reducible refine Kd.C_drewN ?_ _) | (with_reducible refine Kd.C_drew ?_))); (case side3 => exact HC0_1.out); rintro e w' ⟨rfl, ⟨nd, rfl⟩⟩; refine ⟨_, rfl, ?_⟩) | ((with_reducible refine gate_callee (f := 59) rfl ?_); refine goesL_ (some 20) rfl rfl Try.func59 (by kernel_rfl) rfl #[.pointer (some ⟨g0, 0, none⟩), .int .i64 x8_1] rfl (by (try simp only [List.map_toArray, List.map_cons, List.map_nil]); first | done | rfl | (simp only [List.length_drop, List.length_take]; rfl)) ?_; (with_reducible refine (branch_town_entering.calls k1 g0 a0_0 A0_1 c0_1 l0_1 a0_2 x8_1 t102 _ ?side1 ?side2 ?side3 A5.out).mono ?_); (case side1 => exact ((show Below _ _ _ from by repeat (first | (with_reducible first | exact HB.out | apply below_alloc | apply pw_below_drewN | apply below_drew1) | exact HB.out)).block _ (blk_lt HP0.out)).trans HP0.out); (case side2 => repeat (first | exact (Kd.C_below HR0_1.out (by repeat (first | (with_reducible first | exact HB.out | apply below_alloc | apply pw_below_drewN | apply below_drew1) | exact HB.out))) | (with_reducible refine Kd.C_alloc ?_ _) | (with_reducible refine Kd.C_drewN ?_ _) | (with_reducible refine Kd.C_drew ?_))); (case side3 => exact HC0_1.out); rintro e w6 ⟨v103, rfl, ho0, hb⟩; refine ⟨_, rfl, ?_⟩; have n0_ := Aside0.mk (Kd.R_lower ho0 (below_size (by repeat (first | (with_reducible first | exact HB.out | apply below_alloc | apply pw_below_drewN | apply below_drew1) | exact HB.out)))); have n1_ := Aside0.mk (below_step (by repeat (first | (with_reducible first | exact HB.out | apply below_alloc | apply pw_below_drewN | apply below_drew1) | exact HB.out)) hb); clear HB; have HO104 := n0_; have HB := n1_; clear n0_ n1_; (try clear hb); (try clear hb2); (try clear hk); (try clear hi); (try clear ho0); obtain ⟨Ao7, co7, eo7⟩ := Kd.R_slice HO104.out; subst eo7))
        go_loopg [9, 22] k1 (fun kq v9 v22 w' => ∃ (x9_2 : Int) (x22_2 : Int), v9 = .int .i64 x9_2 ∧ v22 = .int .i64 x22_2 ∧ Aside0 (branch_town_narrow.l1 kq a1 x6_1 x7_1 x8_1 x9_2 t102 (t102.length : Int) x22_2 a0_0 l0_1 = some (r1, r2)) ∧ Aside0 (kq ≤ k1) ∧ Aside0 (Kd.R (Kd.int .i64) 3 w' w.heap.size (fun _ => True) (.slice Ao7 t102.length co7) t102) ∧ Aside0 (Below w.heap.size w w'))
        case atStart => exact ⟨(0), (0), (by first | rfl | (simp; done) | (simp [*]; done)), (by first | rfl | (simp; done) | (simp [*]; done)), H', ⟨Nat.le_refl _⟩, ⟨by (with_reducible repeat (first | apply Kd.R_alloc | apply Kd.R_drewN | apply Kd.R_drew)); exact HO104.out⟩, ⟨by repeat (first | (with_reducible first | exact HB.out | apply below_alloc | apply pw_below_drewN | apply below_drew1) | exact HB.out)⟩⟩
        case round =>
          clear H'
          try clear p2
          try clear c4
          try clear c4b0
          try clear c5
          try clear c7
          try clear p2
          obtain ⟨x9_2, x22_2, rfl, rfl, HA, HK2, HO_20, HB⟩ := hrel
          cases gk with
          | zero => exact absurd HA.out (by simp [branch_town_narrow.l1])
          | succ k2 =>
            have H := HA.out
            clear HA
            simp only [branch_town_narrow.l1] at H
            by_cases c8 : x22_2 < (t102.length : Int)
            · rw [if_pos c8] at H
              have c8b0 : decide (x22_2 < (t102.length : Int)) = true := decide_eq_true c8
              clear c8
              by_cases c9 : 0 ≤ x22_2
              · rw [if_pos c9] at H
                have c9b0 : decide (0 ≤ x22_2) = true := decide_eq_true c9
                clear c9
                by_cases c10 : x22_2 < (t102.length : Int)
                · rw [if_pos c10] at H
                  have c10b0 : decide (x22_2 < (t102.length : Int)) = true := decide_eq_true c10
                  clear c10
                  replace H := Option.bind_eq_some_iff.mp H
                  obtain ⟨t106, A110, H⟩ := H
                  replace H : (if t106 = true then (branch_town_narrow.l1 k2 a1 x6_1 x7_1 x8_1 x9_2 t102 (t102.length : Int) (wrap64 (x22_2 + 1)) a0_0 l0_1) else (branch_town_narrow.l1 k2 a1 x6_1 x7_1 x8_1 (wrap64 (x9_2 + 1)) t102 (t102.length : Int) (wrap64 (x22_2 + 1)) a0_0 l0_1)) = some (r1, r2) := H
                  have A11 := Aside0.mk A110
                  clear A110
                  by_cases c12 : t106 = true
                  · subst c12
                    have H1 : (branch_town_narrow.l1 k2 a1 x6_1 x7_1 x8_1 x9_2 t102 (t102.length : Int) (wrap64 (x22_2 + 1)) a0_0 l0_1) = some (r1, r2) := by rw [if_pos rfl] at H; exact H
                    clear H
                    have H := H1
                    clear H1
                    have H' := Aside0.mk H
                    clear H
                    have p105 : 0 ≤ (x22_2 : Int) := of_decide_eq_true (by first | (with_reducible assumption) | assumption)
                    have q105 : x22_2 < (t102.length : Int) := of_decide_eq_true (by first | (with_reducible assumption) | assumption)
                    obtain ⟨ad105, e105, hx105_0⟩ := Kd.at_int (Kd.R_reads' HO_20.out).2.2 x22_2 p105 q105
                    cases e105
                    replace p105 := eq_true p105
                    replace q105 := eq_true q105
                    go_wp2_with (first | ((with_reducible refine gate_dst (N := 28) rfl ?_); refine goesK_ (some 28) rfl rfl HF1.out rfl rfl (i := (rd t102 x22_2)) rfl ?sideB A11.out ?_; (case sideB => exact by repeat (first | (with_reducible first | exact HB.out | apply below_alloc | apply pw_below_drewN | apply below_drew1) | exact HB.out)); intro w13 hb; have n0_ := Aside0.mk (Kd.R_below (by (with_reducible repeat (first | apply Kd.R_alloc | apply Kd.R_drewN | apply Kd.R_drew)); exact HO_20.out) hb); have n1_ := Aside0.mk (below_step (by repeat (first | (with_reducible first | exact HB.out | apply below_alloc | apply pw_below_drewN | apply below_drew1) | exact HB.out)) hb); clear HO_20; clear HB; have HO_20 := n0_; have HB := n1_; clear n0_ n1_; (try clear hb); (try clear hb2); (try clear hk); (try clear hi)))
                    go_roundg k2
                    case measure => have := HK1.out; have := HK2.out; omega
                    case rel => exact ⟨(x9_2), (wrap64 (x22_2 + 1)), (by first | rfl | (simp; done) | (simp [*]; done)), (by first | rfl | (simp; done) | (simp [*]; done)), H', ⟨by have := HK1.out; have := HK2.out; omega⟩, ⟨by (with_reducible repeat (first | apply Kd.R_alloc | apply Kd.R_drewN | apply Kd.R_drew)); exact HO_20.out⟩, ⟨by repeat (first | (with_reducible first | exact HB.out | apply below_alloc | apply pw_below_drewN | apply below_drew1) | exact HB.out)⟩⟩
                  · replace c12 := Bool.eq_false_iff.mpr c12
                    subst c12
                    have H1 : (branch_town_narrow.l1 k2 a1 x6_1 x7_1 x8_1 (wrap64 (x9_2 + 1)) t102 (t102.length : Int) (wrap64 (x22_2 + 1)) a0_0 l0_1) = some (r1, r2) := by rw [if_neg (show ¬ (false = true) by decide)] at H; exact H
                    clear H
                    have H := H1
                    clear H1
                    have H' := Aside0.mk H
                    clear H
                    have p105 : 0 ≤ (x22_2 : Int) := of_decide_eq_true (by first | (with_reducible assumption) | assumption)
                    have q105 : x22_2 < (t102.length : Int) := of_decide_eq_true (by first | (with_reducible assumption) | assumption)
                    obtain ⟨ad105, e105, hx105_0⟩ := Kd.at_int (Kd.R_reads' HO_20.out).2.2 x22_2 p105 q105
                    cases e105
                    replace p105 := eq_true p105
                    replace q105 := eq_true q105
                    go_wp2_with (first | ((with_reducible refine gate_dst (N := 28) rfl ?_); refine goesK_ (some 28) rfl rfl HF1.out rfl rfl (i := (rd t102 x22_2)) rfl ?sideB A11.out ?_; (case sideB => exact by repeat (first | (with_reducible first | exact HB.out | apply below_alloc | apply pw_below_drewN | apply below_drew1) | exact HB.out)); intro w14 hb; have n0_ := Aside0.mk (Kd.R_below (by (with_reducible repeat (first | apply Kd.R_alloc | apply Kd.R_drewN | apply Kd.R_drew)); exact HO_20.out) hb); have n1_ := Aside0.mk (below_step (by repeat (first | (with_reducible first | exact HB.out | apply below_alloc | apply pw_below_drewN | apply below_drew1) | exact HB.out)) hb); clear HO_20; clear HB; have HO_20 := n0_; have HB := n1_; clear n0_ n1_; (try clear hb); (try clear hb2); (try clear hk); (try clear hi)))
                    go_roundg k2
                    case measure => have := HK1.out; have := HK2.out; omega
                    case rel => exact ⟨(wrap64 (x9_2 + 1)), (wrap64 (x22_2 + 1)), (by first | rfl | (simp; done) | (simp [*]; done)), (by first | rfl | (simp; done) | (simp [*]; done)), H', ⟨by have := HK1.out; have := HK2.out; omega⟩, ⟨by (with_reducible repeat (first | apply Kd.R_alloc | apply Kd.R_drewN | apply Kd.R_drew)); exact HO_20.out⟩, ⟨by repeat (first | (with_reducible first | exact HB.out | apply below_alloc | apply pw_below_drewN | apply below_drew1) | exact HB.out)⟩⟩
                · rw [if_neg c10] at H
                  exact absurd H (by simp)
              · rw [if_neg c9] at H
                exact absurd H (by simp)
            · rw [if_neg c8] at H
              have c8b0 : decide (x22_2 < (t102.length : Int)) = false := decide_eq_false c8
              clear c8
              by_cases c15 : x6_1 < 0
              · rw [if_pos c15] at H
                have c15b0 : decide (x6_1 < 0) = true := decide_eq_true c15
                clear c15
                have H' := Aside0.mk H
                clear H
                go_wp2
                go_roundg k2
                case measure => have := HK1.out; have := HK2.out; omega
                case rel => exact ⟨(x9_2), (x8_1), (wrap64 (x8_1 + 2)), (by first | rfl | (simp; done) | (simp [*]; done)), (by first | rfl | (simp; done) | (simp [*]; done)), (by first | rfl | (simp; done) | (simp [*]; done)), H', ⟨by have := HK1.out; have := HK2.out; omega⟩, ⟨by repeat (first | (with_reducible first | exact HB.out | apply below_alloc | apply pw_below_drewN | apply below_drew1) | exact HB.out)⟩⟩
              · rw [if_neg c15] at H
                have c15b0 : decide (x6_1 < 0) = false := decide_eq_false c15
                clear c15
                by_cases c16 : x9_2 < x6_1
                · rw [if_pos c16] at H
                  have c16b0 : decide (x9_2 < x6_1) = true := decide_eq_true c16
                  clear c16
                  have H' := Aside0.mk H
                  clear H
                  go_wp2
                  go_roundg k2
                  case measure => have := HK1.out; have := HK2.out; omega
                  case rel => exact ⟨(x9_2), (x8_1), (wrap64 (x8_1 + 2)), (by first | rfl | (simp; done) | (simp [*]; done)), (by first | rfl | (simp; done) | (simp [*]; done)), (by first | rfl | (simp; done) | (simp [*]; done)), H', ⟨by have := HK1.out; have := HK2.out; omega⟩, ⟨by repeat (first | (with_reducible first | exact HB.out | apply below_alloc | apply pw_below_drewN | apply below_drew1) | exact HB.out)⟩⟩
                · rw [if_neg c16] at H
                  have c16b0 : decide (x9_2 < x6_1) = false := decide_eq_false c16
                  clear c16
                  have H' := Aside0.mk H
                  clear H
                  go_wp2
                  go_roundg k2
                  case measure => have := HK1.out; have := HK2.out; omega
                  case rel => exact ⟨(x6_1), (x7_1), (wrap64 (x8_1 + 2)), (by first | rfl | (simp; done) | (simp [*]; done)), (by first | rfl | (simp; done) | (simp [*]; done)), (by first | rfl | (simp; done) | (simp [*]; done)), H', ⟨by have := HK1.out; have := HK2.out; omega⟩, ⟨by repeat (first | (with_reducible first | exact HB.out | apply below_alloc | apply pw_below_drewN | apply below_drew1) | exact HB.out)⟩⟩
      · rw [if_neg c4] at H
        have c4b0 : decide (x8_1 ≤ t101) = false := decide_eq_false c4
        clear c4
        simp only [Option.some.injEq, Prod.mk.injEq] at H
        obtain ⟨rfl, rfl⟩ := H
        go_wp2_with (first | ((with_reducible refine gate_callee (f := 74) rfl ?_); refine goesL_ (some 14) rfl rfl Try.func74 (by kernel_rfl) rfl #[.pointer (some ⟨g0, 0, none⟩)] rfl (by (try simp only [List.map_toArray, List.map_cons, List.map_nil]); first | done | rfl | (simp only [List.length_drop, List.length_take]; rfl)) ?_; (with_reducible refine (branch_town_everybody.calls g0 a0_0 A0_1 c0_1 l0_1 a0_2 t101 _ ?side1 ?side2 ?side3 A3.out).mono ?_); (case side1 => exact ((show Below _ _ _ from by repeat (first | (with_reducible first | exact HB.out | apply below_alloc | apply pw_below_drewN | apply below_drew1) | exact HB.out)).block _ (blk_lt HP0.out)).trans HP0.out); (case side2 => repeat (first | exact (Kd.C_below HR0_1.out HB.out) | (with_reducible refine Kd.C_alloc ?_ _) | (with_reducible refine Kd.C_drewN ?_ _) | (with_reducible refine Kd.C_drew ?_))); (case side3 => exact HC0_1.out); rintro e w' ⟨rfl, ⟨nd, rfl⟩⟩; refine ⟨_, rfl, ?_⟩))
        go_ret2
        exact ⟨by first | rfl | (simp [errW_none, errW_some] <;> rfl) | (simp [*, errW_none, errW_some] <;> rfl), by repeat (first | (with_reducible first | exact HB.out | apply below_alloc | apply pw_below_drewN | apply below_drew1) | exact HB.out)⟩
def branch_Narrow.f (k : Nat) (a0 : Int) (l1 : List (S30)) : Option (Int × Int × Int) := (branch_read.f a0 l1).bind fun t107 => (if t107 = 0 then ((branch_town_narrow.f k a0 l1 (fun _ => some false)).bind fun bt109 => (some (bt109.1, bt109.2, 0))) else (some (0, 0, t107)))
theorem branch_Narrow.mono : ∀ a0 a1 k, LeO (branch_Narrow.f k a0 a1) (branch_Narrow.f (k + 1) a0 a1) := by
  intro a0 a1 k
  unfold branch_Narrow.f
  repeat' first
      | (with_reducible exact branch_town_narrow.mono _ _ _ _)
      | (with_reducible exact LeO.refl _)
      | (with_reducible exact LeO.none _)
      | (with_reducible refine LeO.ite ?_ ?_)
      | (with_reducible refine LeO.bind ?_ (fun _ => ?_))
      | exact branch_town_narrow.mono _ _ _ _
      | exact LeO.none _
      | refine LeO.ite ?_ ?_
      | refine LeO.bind ?_ (fun _ => ?_)
set_option maxHeartbeats 8000000 in
set_option maxRecDepth 100000 in
theorem branch_Narrow.calls (k : Nat) (a0 : Int) (A1 : Option Addr) (c1 : Nat) (l1 : List (S30)) (r1 : Int) (r2 : Int) (r3 : Int) (w : World) (hr1 : Kd.C k30 w A1 l1.length l1) (hc1 : l1.length ≤ c1) (h : branch_Narrow.f k a0 l1 = some (r1, r2, r3)) :
    Calls Try.prog 30 #[.int .i64 a0, .slice A1 l1.length c1] w fun e w' => e = .returned (.tuple #[.int .i64 r1, .int .i64 r2, .int .i64 r3]) ∧ Below w.heap.size w w' := by
  have HR1 := Aside0.mk hr1
  have HC1 := Aside0.mk hc1
  clear hr1 hc1
  have HB := Aside0.mk (Below.refl w.heap.size w)
  have H : ((branch_read.f a0 l1).bind fun t107 => (if t107 = 0 then ((branch_town_narrow.f k a0 l1 (fun _ => some false)).bind fun bt109 => (some (bt109.1, bt109.2, 0))) else (some (0, 0, t107)))) = some (r1, r2, r3) := h
  clear h
  replace H := Option.bind_eq_some_iff.mp H
  obtain ⟨t107, A30, H⟩ := H
  replace H : (if t107 = 0 then ((branch_town_narrow.f k a0 l1 (fun _ => some false)).bind fun bt109 => (some (bt109.1, bt109.2, 0))) else (some (0, 0, t107))) = some (r1, r2, r3) := H
  have A3 := Aside0.mk A30
  clear A30
  by_cases c4 : t107 = 0
  · rw [if_pos c4] at H
    have c4b0 : (t107 == 0) = true := beq_iff_eq.mpr c4
    have c4b1 : (t107 != 0) = false := bne_eq_false_iff_eq.mpr c4
    clear c4
    replace H := Option.bind_eq_some_iff.mp H
    obtain ⟨⟨t109, t110⟩, A50, H⟩ := H
    replace H : (some (t109, t110, 0)) = some (r1, r2, r3) := H
    have A5 := Aside0.mk A50
    clear A50
    simp only [Option.some.injEq, Prod.mk.injEq] at H
    obtain ⟨rfl, rfl, rfl⟩ := H
    go_enter Try.func30, Try.ntmps30
    go_wp2_with (first | (go_at_call 44; (with_reducible refine (branch_read.calls_ok a0 A1 c1 l1 t107 _ ?side1 ?side2 A3.out (by first | (with_reducible assumption) | assumption)).mono ?_); (case side1 => repeat (first | exact HR1.out | (with_reducible refine Kd.C_alloc ?_ _) | (with_reducible refine Kd.C_drewN ?_ _) | (with_reducible refine Kd.C_drew ?_))); (case side2 => exact HC1.out); rintro e w6 ⟨gb108, mr108, rfl, hg, hbox, hb⟩; have n0_ := Aside0.mk (below_step (by repeat (first | (with_reducible first | exact HB.out | apply below_alloc | apply pw_below_drewN | apply below_drew1) | exact HB.out)) hb); have n1_ := Aside0.mk (hbox); have n2_ := Aside0.mk ((Nat.le_trans (below_size (by repeat (first | (with_reducible first | exact HB.out | apply below_alloc | apply pw_below_drewN | apply below_drew1) | exact HB.out))) hg : w.heap.size ≤ gb108)); have n3_ := Aside0.mk ((Nat.le_trans (below_size (by repeat (first | (with_reducible first | exact HB.out | apply below_alloc | apply pw_below_drewN | apply below_drew1) | exact HB.out))) hg : w.heap.size ≤ gb108)); clear HB; have HB := n0_; have BK108 := n1_; have GW108 := n2_; have GE108 := n3_; clear n0_ n1_ n2_ n3_; clear hb hbox hg) | ((with_reducible refine gate_callee (f := 53) rfl ?_); refine goesL_ (some 22) rfl rfl Try.func53 (by kernel_rfl) rfl #[.pointer (some ⟨gb108, 0, none⟩), (.map none)] rfl (by (try simp only [List.map_toArray, List.map_cons, List.map_nil]); first | done | rfl | (simp only [List.length_drop, List.length_take]; rfl)) ?_; (with_reducible refine (branch_town_narrow.calls k gb108 a0 A1 c1 l1 mr108 (.map none) (fun _ => some false) t109 t110 _ ?side1 ?side2 ?side3 ?side4 A5.out).mono ?_); (case side1 => exact by (with_reducible repeat (first | refine blk_drewN ?_ _ | refine blk_drew ?_ | refine blk_alloc ?_ _)); exact BK108.out); (case side2 => repeat (first | exact (Kd.C_below HR1.out HB.out) | (with_reducible refine Kd.C_alloc ?_ _) | (with_reducible refine Kd.C_drewN ?_ _) | (with_reducible refine Kd.C_drew ?_))); (case side3 => exact HC1.out); (case side4 => exact IsLook.nil rfl rfl (fun _ => by first | rfl | (go_simp; done)) _); rintro e w7 ⟨rfl, hb⟩; refine ⟨_, rfl, ?_⟩; have n0_ := Aside0.mk (blk_below (g := gb108) (o := .cells #[.int .i64 a0, .slice A1 l1.length c1, .map mr108] 70 (0, 0)) (by (with_reducible repeat (first | refine blk_drewN ?_ _ | refine blk_drew ?_ | refine blk_alloc ?_ _)); exact BK108.out) hb); have n1_ := Aside0.mk (below_step (by repeat (first | (with_reducible first | exact HB.out | apply below_alloc | apply pw_below_drewN | apply below_drew1 | refine below_set ?_ GE108.out) | exact HB.out)) hb); clear BK108; clear HB; have BK108 := n0_; have HB := n1_; clear n0_ n1_; (try clear hb); (try clear hb2); (try clear hk); (try clear hi)))
    go_ret3
    exact ⟨by first | rfl | (simp [errW_none, errW_some] <;> rfl) | (simp [*, errW_none, errW_some] <;> rfl), by repeat (first | (with_reducible first | exact HB.out | apply below_alloc | apply pw_below_drewN | apply below_drew1 | refine below_set ?_ GE108.out) | exact HB.out)⟩
  · rw [if_neg c4] at H
    have c4b0 : (t107 == 0) = false := beq_eq_false_iff_ne.mpr c4
    have c4b1 : (t107 != 0) = true := bne_iff_ne.mpr c4
    simp only [Option.some.injEq, Prod.mk.injEq] at H
    obtain ⟨rfl, rfl, rfl⟩ := H
    go_enter Try.func30, Try.ntmps30
    go_wp2_with (first | (go_at_call 44; (with_reducible refine (branch_read.calls_err a0 A1 c1 l1 t107 _ ?side1 ?side2 A3.out (by first | (with_reducible assumption) | assumption)).mono ?_); (case side1 => repeat (first | exact HR1.out | (with_reducible refine Kd.C_alloc ?_ _) | (with_reducible refine Kd.C_drewN ?_ _) | (with_reducible refine Kd.C_drew ?_))); (case side2 => exact HC1.out); rintro e w8 ⟨rfl, hb⟩; have n0_ := Aside0.mk (below_step (by repeat (first | (with_reducible first | exact HB.out | apply below_alloc | apply pw_below_drewN | apply below_drew1) | exact HB.out)) hb); clear HB; have HB := n0_; clear n0_; (try clear hb)))
    go_ret3
    exact ⟨by first | rfl | (simp [errW_none, errW_some] <;> rfl) | (simp [*, errW_none, errW_some] <;> rfl), by repeat (first | (with_reducible first | exact HB.out | apply below_alloc | apply pw_below_drewN | apply below_drew1) | exact HB.out)⟩
end Go.Proofs.Ytpmadffgdfholaa.B
namespace Go.Proofs.Ytpmadffgdfholaa.B
open Go.RowKit Go.Proofs.YtpmadffgdfholaaW.PrintWords Go.Proofs.YtpmadffgdfholaaW.PrintLast Go.Proofs.YtpmadffgdfholaaW.PrintMore
attribute [local go_sem] max2_int min2_int max_two min_two max_three min_three max_four min_four   -- for this text's walks alone
set_option linter.unusedVariables false
set_option linter.unusedSimpArgs false
def trishawlaw03_alive.f (k : Nat)  : Option (Bool) := (trishawlaw03_three.f).bind fun t101 => ((branch_Branching.f k 3 t101).bind fun bt104 => ((trishawlaw03_three.f).bind fun t109 => ((branch_Proves.f k 3 t109 (([(⟨4, 1⟩ : S41), (⟨2, 2⟩ : S41)] : List (S41)))).bind fun bt115 => ((trishawlaw03_three.f).bind fun t118 => ((branch_Count.f k 3 t118).bind fun bt121 => ((trishawlaw03_three.f).bind fun t123 => ((branch_Narrow.f k 3 t123).bind fun bt126 => (if bt104.2.2 = 0 then ((trishawlaw03_same.f k bt104.1 (([1, 2] : List Int))).bind fun t132 => (if t132 = true then (if bt104.2.1 = 3 then (if bt115.2.2 = 0 then (if bt115.2.1 = true then (if bt115.1 = 3 then (if bt121.2 = 0 then (if bt121.1 = 2 then (if bt126.2.2 = 0 then (if bt126.1 = 1 then (some (bt126.2.1 == 4)) else (some false)) else (some false)) else (some false)) else (some false)) else (some false)) else (some false)) else (some false)) else (some false)) else (some false))) else (some false)))))))))
theorem trishawlaw03_alive.mono : ∀ k, LeO (trishawlaw03_alive.f k ) (trishawlaw03_alive.f (k + 1) ) := by
  intro  k
  unfold trishawlaw03_alive.f
  repeat' first
      | (with_reducible exact branch_Branching.mono _ _ _)
      | (with_reducible exact branch_Count.mono _ _ _)
      | (with_reducible exact branch_Narrow.mono _ _ _)
      | (with_reducible exact branch_Proves.mono _ _ _ _)
      | (with_reducible exact trishawlaw03_same.mono _ _ _)
      | (with_reducible exact LeO.refl _)
      | (with_reducible exact LeO.none _)
      | (with_reducible refine LeO.ite ?_ ?_)
      | (with_reducible refine LeO.bind ?_ (fun _ => ?_))
      | exact branch_Branching.mono _ _ _
      | exact branch_Count.mono _ _ _
      | exact branch_Narrow.mono _ _ _
      | exact branch_Proves.mono _ _ _ _
      | exact trishawlaw03_same.mono _ _ _
      | exact LeO.none _
      | refine LeO.ite ?_ ?_
      | refine LeO.bind ?_ (fun _ => ?_)
theorem alive_true : trishawlaw03_alive.f 60 = some true := by kernel_rfl
theorem alive_from (k : Nat) (h : 60 ≤ k) : trishawlaw03_alive.f k = some true := by
  obtain ⟨d, rfl⟩ : ∃ d, k = 60 + d := ⟨k - 60, by omega⟩
  induction d with
  | zero => exact alive_true
  | succ d ih => exact trishawlaw03_alive.mono (60 + d) true (ih (by omega))
theorem alive_up (k : Nat) (r : Bool) (h : trishawlaw03_alive.f k = some r) (d : Nat) : trishawlaw03_alive.f (k + d) = some r := by
  induction d with
  | zero => exact h
  | succ d ih => exact trishawlaw03_alive.mono (k + d) r ih
theorem alive_only (k : Nat) (r : Bool) (h : trishawlaw03_alive.f k = some r) : r = true := by
  have h1 := alive_up k r h 60
  rw [alive_from (k + 60) (by omega)] at h1
  exact (Option.some.inj h1).symm
set_option maxHeartbeats 8000000 in
set_option maxRecDepth 100000 in
theorem trishawlaw03_alive.calls (k : Nat)  (r : Bool) (w : World) (h : trishawlaw03_alive.f k  = some r) :
    Calls Try.prog 17 #[] w fun e w' => e = .returned (.bool r) ∧ Below w.heap.size w w' := by
  have hu41 := Try.underlying41
  have HB := Aside0.mk (Below.refl w.heap.size w)
  have H : ((trishawlaw03_three.f).bind fun t101 => ((branch_Branching.f k 3 t101).bind fun bt104 => ((trishawlaw03_three.f).bind fun t109 => ((branch_Proves.f k 3 t109 (([(⟨4, 1⟩ : S41), (⟨2, 2⟩ : S41)] : List (S41)))).bind fun bt115 => ((trishawlaw03_three.f).bind fun t118 => ((branch_Count.f k 3 t118).bind fun bt121 => ((trishawlaw03_three.f).bind fun t123 => ((branch_Narrow.f k 3 t123).bind fun bt126 => (if bt104.2.2 = 0 then ((trishawlaw03_same.f k bt104.1 (([1, 2] : List Int))).bind fun t132 => (if t132 = true then (if bt104.2.1 = 3 then (if bt115.2.2 = 0 then (if bt115.2.1 = true then (if bt115.1 = 3 then (if bt121.2 = 0 then (if bt121.1 = 2 then (if bt126.2.2 = 0 then (if bt126.1 = 1 then (some (bt126.2.1 == 4)) else (some false)) else (some false)) else (some false)) else (some false)) else (some false)) else (some false)) else (some false)) else (some false)) else (some false))) else (some false)))))))))) = some r := h
  have HRT := Aside0.mk (alive_only k r h)
  clear h
  replace H := Option.bind_eq_some_iff.mp H
  obtain ⟨t101, A10, H⟩ := H
  replace H : ((branch_Branching.f k 3 t101).bind fun bt104 => ((trishawlaw03_three.f).bind fun t109 => ((branch_Proves.f k 3 t109 (([(⟨4, 1⟩ : S41), (⟨2, 2⟩ : S41)] : List (S41)))).bind fun bt115 => ((trishawlaw03_three.f).bind fun t118 => ((branch_Count.f k 3 t118).bind fun bt121 => ((trishawlaw03_three.f).bind fun t123 => ((branch_Narrow.f k 3 t123).bind fun bt126 => (if bt104.2.2 = 0 then ((trishawlaw03_same.f k bt104.1 (([1, 2] : List Int))).bind fun t132 => (if t132 = true then (if bt104.2.1 = 3 then (if bt115.2.2 = 0 then (if bt115.2.1 = true then (if bt115.1 = 3 then (if bt121.2 = 0 then (if bt121.1 = 2 then (if bt126.2.2 = 0 then (if bt126.1 = 1 then (some (bt126.2.1 == 4)) else (some false)) else (some false)) else (some false)) else (some false)) else (some false)) else (some false)) else (some false)) else (some false)) else (some false))) else (some false))))))))) = some r := H
  have A1 := Aside0.mk A10
  clear A10
  replace H := Option.bind_eq_some_iff.mp H
  obtain ⟨⟨t104, t105, t106⟩, A20, H⟩ := H
  replace H : ((trishawlaw03_three.f).bind fun t109 => ((branch_Proves.f k 3 t109 (([(⟨4, 1⟩ : S41), (⟨2, 2⟩ : S41)] : List (S41)))).bind fun bt115 => ((trishawlaw03_three.f).bind fun t118 => ((branch_Count.f k 3 t118).bind fun bt121 => ((trishawlaw03_three.f).bind fun t123 => ((branch_Narrow.f k 3 t123).bind fun bt126 => (if t106 = 0 then ((trishawlaw03_same.f k t104 (([1, 2] : List Int))).bind fun t132 => (if t132 = true then (if t105 = 3 then (if bt115.2.2 = 0 then (if bt115.2.1 = true then (if bt115.1 = 3 then (if bt121.2 = 0 then (if bt121.1 = 2 then (if bt126.2.2 = 0 then (if bt126.1 = 1 then (some (bt126.2.1 == 4)) else (some false)) else (some false)) else (some false)) else (some false)) else (some false)) else (some false)) else (some false)) else (some false)) else (some false))) else (some false)))))))) = some r := H
  have A2 := Aside0.mk A20
  clear A20
  replace H := Option.bind_eq_some_iff.mp H
  obtain ⟨t109, A30, H⟩ := H
  replace H : ((branch_Proves.f k 3 t109 (([(⟨4, 1⟩ : S41), (⟨2, 2⟩ : S41)] : List (S41)))).bind fun bt115 => ((trishawlaw03_three.f).bind fun t118 => ((branch_Count.f k 3 t118).bind fun bt121 => ((trishawlaw03_three.f).bind fun t123 => ((branch_Narrow.f k 3 t123).bind fun bt126 => (if t106 = 0 then ((trishawlaw03_same.f k t104 (([1, 2] : List Int))).bind fun t132 => (if t132 = true then (if t105 = 3 then (if bt115.2.2 = 0 then (if bt115.2.1 = true then (if bt115.1 = 3 then (if bt121.2 = 0 then (if bt121.1 = 2 then (if bt126.2.2 = 0 then (if bt126.1 = 1 then (some (bt126.2.1 == 4)) else (some false)) else (some false)) else (some false)) else (some false)) else (some false)) else (some false)) else (some false)) else (some false)) else (some false))) else (some false))))))) = some r := H
  have A3 := Aside0.mk A30
  clear A30
  obtain ⟨y112, hy112⟩ : ∃ y_ : List (S41), y_ = (([(⟨4, 1⟩ : S41), (⟨2, 2⟩ : S41)] : List (S41))) := ⟨_, rfl⟩
  replace H : ((branch_Proves.f k 3 t109 y112).bind fun bt115 => ((trishawlaw03_three.f).bind fun t118 => ((branch_Count.f k 3 t118).bind fun bt121 => ((trishawlaw03_three.f).bind fun t123 => ((branch_Narrow.f k 3 t123).bind fun bt126 => (if t106 = 0 then ((trishawlaw03_same.f k t104 (([1, 2] : List Int))).bind fun t132 => (if t132 = true then (if t105 = 3 then (if bt115.2.2 = 0 then (if bt115.2.1 = true then (if bt115.1 = 3 then (if bt121.2 = 0 then (if bt121.1 = 2 then (if bt126.2.2 = 0 then (if bt126.1 = 1 then (some (bt126.2.1 == 4)) else (some false)) else (some false)) else (some false)) else (some false)) else (some false)) else (some false)) else (some false)) else (some false)) else (some false))) else (some false))))))) = some r := by first | (rw [hy112]; with_reducible exact H) | (have H2_ := (Option.bind_some _ _).symm.trans H; rw [hy112]; with_reducible exact H2_) | (have H2_ := (Option.bind_some _ _).symm.trans H; with_reducible exact H2_) | with_reducible exact H | (rw [hy112]; exact H) | exact H
  have Ny112 := Aside0.mk hy112
  clear hy112
  replace H := Option.bind_eq_some_iff.mp H
  obtain ⟨⟨t115, t116, t117⟩, A40, H⟩ := H
  replace H : ((trishawlaw03_three.f).bind fun t118 => ((branch_Count.f k 3 t118).bind fun bt121 => ((trishawlaw03_three.f).bind fun t123 => ((branch_Narrow.f k 3 t123).bind fun bt126 => (if t106 = 0 then ((trishawlaw03_same.f k t104 (([1, 2] : List Int))).bind fun t132 => (if t132 = true then (if t105 = 3 then (if t117 = 0 then (if t116 = true then (if t115 = 3 then (if bt121.2 = 0 then (if bt121.1 = 2 then (if bt126.2.2 = 0 then (if bt126.1 = 1 then (some (bt126.2.1 == 4)) else (some false)) else (some false)) else (some false)) else (some false)) else (some false)) else (some false)) else (some false)) else (some false)) else (some false))) else (some false)))))) = some r := H
  have A4 := Aside0.mk A40
  clear A40
  replace H := Option.bind_eq_some_iff.mp H
  obtain ⟨t118, A50, H⟩ := H
  replace H : ((branch_Count.f k 3 t118).bind fun bt121 => ((trishawlaw03_three.f).bind fun t123 => ((branch_Narrow.f k 3 t123).bind fun bt126 => (if t106 = 0 then ((trishawlaw03_same.f k t104 (([1, 2] : List Int))).bind fun t132 => (if t132 = true then (if t105 = 3 then (if t117 = 0 then (if t116 = true then (if t115 = 3 then (if bt121.2 = 0 then (if bt121.1 = 2 then (if bt126.2.2 = 0 then (if bt126.1 = 1 then (some (bt126.2.1 == 4)) else (some false)) else (some false)) else (some false)) else (some false)) else (some false)) else (some false)) else (some false)) else (some false)) else (some false))) else (some false))))) = some r := H
  have A5 := Aside0.mk A50
  clear A50
  replace H := Option.bind_eq_some_iff.mp H
  obtain ⟨⟨t121, t122⟩, A60, H⟩ := H
  replace H : ((trishawlaw03_three.f).bind fun t123 => ((branch_Narrow.f k 3 t123).bind fun bt126 => (if t106 = 0 then ((trishawlaw03_same.f k t104 (([1, 2] : List Int))).bind fun t132 => (if t132 = true then (if t105 = 3 then (if t117 = 0 then (if t116 = true then (if t115 = 3 then (if t122 = 0 then (if t121 = 2 then (if bt126.2.2 = 0 then (if bt126.1 = 1 then (some (bt126.2.1 == 4)) else (some false)) else (some false)) else (some false)) else (some false)) else (some false)) else (some false)) else (some false)) else (some false)) else (some false))) else (some false)))) = some r := H
  have A6 := Aside0.mk A60
  clear A60
  replace H := Option.bind_eq_some_iff.mp H
  obtain ⟨t123, A70, H⟩ := H
  replace H : ((branch_Narrow.f k 3 t123).bind fun bt126 => (if t106 = 0 then ((trishawlaw03_same.f k t104 (([1, 2] : List Int))).bind fun t132 => (if t132 = true then (if t105 = 3 then (if t117 = 0 then (if t116 = true then (if t115 = 3 then (if t122 = 0 then (if t121 = 2 then (if bt126.2.2 = 0 then (if bt126.1 = 1 then (some (bt126.2.1 == 4)) else (some false)) else (some false)) else (some false)) else (some false)) else (some false)) else (some false)) else (some false)) else (some false)) else (some false))) else (some false))) = some r := H
  have A7 := Aside0.mk A70
  clear A70
  replace H := Option.bind_eq_some_iff.mp H
  obtain ⟨⟨t126, t127, t128⟩, A80, H⟩ := H
  replace H : (if t106 = 0 then ((trishawlaw03_same.f k t104 (([1, 2] : List Int))).bind fun t132 => (if t132 = true then (if t105 = 3 then (if t117 = 0 then (if t116 = true then (if t115 = 3 then (if t122 = 0 then (if t121 = 2 then (if t128 = 0 then (if t126 = 1 then (some (t127 == 4)) else (some false)) else (some false)) else (some false)) else (some false)) else (some false)) else (some false)) else (some false)) else (some false)) else (some false))) else (some false)) = some r := H
  have A8 := Aside0.mk A80
  clear A80
  by_cases c9 : t106 = 0
  · rw [if_pos c9] at H
    have c9b0 : (t106 == 0) = true := beq_iff_eq.mpr c9
    have c9b1 : (t106 != 0) = false := bne_eq_false_iff_eq.mpr c9
    clear c9
    obtain ⟨y129, hy129⟩ : ∃ y_ : List Int, y_ = (([1, 2] : List Int)) := ⟨_, rfl⟩
    replace H : ((trishawlaw03_same.f k t104 y129).bind fun t132 => (if t132 = true then (if t105 = 3 then (if t117 = 0 then (if t116 = true then (if t115 = 3 then (if t122 = 0 then (if t121 = 2 then (if t128 = 0 then (if t126 = 1 then (some (t127 == 4)) else (some false)) else (some false)) else (some false)) else (some false)) else (some false)) else (some false)) else (some false)) else (some false)) else (some false))) = some r := by first | (rw [hy129]; with_reducible exact H) | (have H2_ := (Option.bind_some _ _).symm.trans H; rw [hy129]; with_reducible exact H2_) | (have H2_ := (Option.bind_some _ _).symm.trans H; with_reducible exact H2_) | with_reducible exact H | (rw [hy129]; exact H) | exact H
    have Ny129 := Aside0.mk hy129
    clear hy129
    replace H := Option.bind_eq_some_iff.mp H
    obtain ⟨t132, A100, H⟩ := H
    replace H : (if t132 = true then (if t105 = 3 then (if t117 = 0 then (if t116 = true then (if t115 = 3 then (if t122 = 0 then (if t121 = 2 then (if t128 = 0 then (if t126 = 1 then (some (t127 == 4)) else (some false)) else (some false)) else (some false)) else (some false)) else (some false)) else (some false)) else (some false)) else (some false)) else (some false)) = some r := H
    have A10 := Aside0.mk A100
    clear A100
    by_cases c11 : t132 = true
    · subst c11
      have H1 : (if t105 = 3 then (if t117 = 0 then (if t116 = true then (if t115 = 3 then (if t122 = 0 then (if t121 = 2 then (if t128 = 0 then (if t126 = 1 then (some (t127 == 4)) else (some false)) else (some false)) else (some false)) else (some false)) else (some false)) else (some false)) else (some false)) else (some false)) = some r := by rw [if_pos rfl] at H; exact H
      clear H
      have H := H1
      clear H1
      by_cases c12 : t105 = 3
      · rw [if_pos c12] at H
        have c12b0 : (t105 == 3) = true := beq_iff_eq.mpr c12
        have c12b1 : (t105 != 3) = false := bne_eq_false_iff_eq.mpr c12
        clear c12
        by_cases c13 : t117 = 0
        · rw [if_pos c13] at H
          have c13b0 : (t117 == 0) = true := beq_iff_eq.mpr c13
          have c13b1 : (t117 != 0) = false := bne_eq_false_iff_eq.mpr c13
          clear c13
          by_cases c14 : t116 = true
          · subst c14
            have H1 : (if t115 = 3 then (if t122 = 0 then (if t121 = 2 then (if t128 = 0 then (if t126 = 1 then (some (t127 == 4)) else (some false)) else (some false)) else (some false)) else (some false)) else (some false)) = some r := by rw [if_pos rfl] at H; exact H
            clear H
            have H := H1
            clear H1
            by_cases c15 : t115 = 3
            · rw [if_pos c15] at H
              have c15b0 : (t115 == 3) = true := beq_iff_eq.mpr c15
              have c15b1 : (t115 != 3) = false := bne_eq_false_iff_eq.mpr c15
              clear c15
              by_cases c16 : t122 = 0
              · rw [if_pos c16] at H
                have c16b0 : (t122 == 0) = true := beq_iff_eq.mpr c16
                have c16b1 : (t122 != 0) = false := bne_eq_false_iff_eq.mpr c16
                clear c16
                by_cases c17 : t121 = 2
                · rw [if_pos c17] at H
                  have c17b0 : (t121 == 2) = true := beq_iff_eq.mpr c17
                  have c17b1 : (t121 != 2) = false := bne_eq_false_iff_eq.mpr c17
                  clear c17
                  by_cases c18 : t128 = 0
                  · rw [if_pos c18] at H
                    have c18b0 : (t128 == 0) = true := beq_iff_eq.mpr c18
                    have c18b1 : (t128 != 0) = false := bne_eq_false_iff_eq.mpr c18
                    clear c18
                    by_cases c19 : t126 = 1
                    · rw [if_pos c19] at H
                      have c19b0 : (t126 == 1) = true := beq_iff_eq.mpr c19
                      have c19b1 : (t126 != 1) = false := bne_eq_false_iff_eq.mpr c19
                      clear c19
                      obtain rfl := Option.some.inj H
                      go_enter Try.func17, Try.ntmps17
                      go_wp2_with (first | ((with_reducible refine gate_callee (f := 43) rfl ?_); refine goesL_ (some 13) rfl rfl Try.func43 (by kernel_rfl) rfl #[] rfl (by (try simp only [List.map_toArray, List.map_cons, List.map_nil]); first | done | rfl | (simp only [List.length_drop, List.length_take]; rfl)) ?_; (with_reducible refine (trishawlaw03_three.calls  t101 _ A1.out).mono ?_); rintro e w20 ⟨v102, rfl, ho0, hb⟩; refine ⟨_, rfl, ?_⟩; have n0_ := Aside0.mk (Kd.R_lower ho0 (below_size (by repeat (first | (with_reducible first | exact HB.out | apply below_alloc | apply pw_below_drewN | apply below_drew1) | exact HB.out)))); have n1_ := Aside0.mk (below_step (by repeat (first | (with_reducible first | exact HB.out | apply below_alloc | apply pw_below_drewN | apply below_drew1) | exact HB.out)) hb); clear HB; have HO103 := n0_; have HB := n1_; clear n0_ n1_; (try clear hb); (try clear hb2); (try clear hk); (try clear hi); (try clear ho0); obtain ⟨Ao21, co21, eo21⟩ := Kd.R_slice HO103.out; subst eo21) | ((with_reducible refine gate_callee (f := 24) rfl ?_); refine goesL_ (some 14) rfl rfl Try.func24 (by kernel_rfl) rfl #[.int .i64 3, .slice Ao21 t101.length co21] rfl (by (try simp only [List.map_toArray, List.map_cons, List.map_nil]); first | done | rfl | (simp only [List.length_drop, List.length_take]; rfl)) ?_; (with_reducible refine (branch_Branching.calls k 3 _ _ t101 t104 t105 t106 _ ?side1 ?side2 A2.out).mono ?_); (case side1 => repeat (first | exact (Kd.R_reads' HO103.out).2.2 | (with_reducible refine Kd.C_alloc ?_ _) | (with_reducible refine Kd.C_drewN ?_ _) | (with_reducible refine Kd.C_drew ?_))); (case side2 => exact (Kd.R_reads' HO103.out).2.1); rintro e w22 ⟨v107, rfl, ho0, hb⟩; refine ⟨_, rfl, ?_⟩; have n0_ := Aside0.mk (Kd.R_below (by (with_reducible repeat (first | apply Kd.R_alloc | apply Kd.R_drewN | apply Kd.R_drew)); exact HO103.out) hb); have n1_ := Aside0.mk (Kd.R_lower ho0 (below_size (by repeat (first | (with_reducible first | exact HB.out | apply below_alloc | apply pw_below_drewN | apply below_drew1) | exact HB.out)))); have n2_ := Aside0.mk (below_step (by repeat (first | (with_reducible first | exact HB.out | apply below_alloc | apply pw_below_drewN | apply below_drew1) | exact HB.out)) hb); clear HO103; clear HB; have HO103 := n0_; have HO108 := n1_; have HB := n2_; clear n0_ n1_ n2_; (try clear hb); (try clear hb2); (try clear hk); (try clear hi); (try clear ho0)) | ((with_reducible refine gate_callee (f := 43) rfl ?_); refine goesL_ (some 19) rfl rfl Try.func43 (by kernel_rfl) rfl #[] rfl (by (try simp only [List.map_toArray, List.map_cons, List.map_nil]); first | done | rfl | (simp only [List.length_drop, List.length_take]; rfl)) ?_; (with_reducible refine (trishawlaw03_three.calls  t109 _ A3.out).mono ?_); rintro e w23 ⟨v110, rfl, ho0, hb⟩; refine ⟨_, rfl, ?_⟩; have n0_ := Aside0.mk (Kd.R_elder' (by (with_reducible repeat (first | apply Kd.R_alloc | apply Kd.R_drewN | apply Kd.R_drew)); exact HO103.out) (Kd.R_base ho0) hb); have n1_ := Aside0.mk (Kd.R_below (by (with_reducible repeat (first | apply Kd.R_alloc | apply Kd.R_drewN | apply Kd.R_drew)); exact HO108.out) hb); have n2_ := Aside0.mk (Kd.R_lower (Kd.R_new' ho0 (Kd.R_lt (by (with_reducible repeat (first | apply Kd.R_alloc | apply Kd.R_drewN | apply Kd.R_drew)); exact HO103.out))) (below_size (by repeat (first | (with_reducible first | exact HB.out | apply below_alloc | apply pw_below_drewN | apply below_drew1) | exact HB.out)))); have n3_ := Aside0.mk (below_step (by repeat (first | (with_reducible first | exact HB.out | apply below_alloc | apply pw_below_drewN | apply below_drew1) | exact HB.out)) hb); clear HO103; clear HO108; clear HB; have HO103 := n0_; have HO108 := n1_; have HO111 := n2_; have HB := n3_; clear n0_ n1_ n2_ n3_; (try clear hb); (try clear hb2); (try clear hk); (try clear hi); (try clear ho0)) | ((with_reducible refine gate_dst (N := 22) rfl ?_); (try (refine gate_guard (by rfl) ?_; dsimp only)); refine Kd.R_lit k41 _ 41 ?hg (N := 22) ?hd (xs := ([(⟨4, 1⟩ : S41), (⟨2, 2⟩ : S41)] : List (S41))) (inner := [.int .i64 4, .int .i64 1, .int .i64 2, .int .i64 2]) (ok := fun _ => True) (okp := fun _ => True) ?hr ?hp (fun _ hk => hk) trivial (Below.refl _ _) (Nat.le_refl _) (by simp) ?_; (case hd => rfl); (case hg => rfl); (case hr => first | (go_simp; done) | (go_simp; rfl)); (case hp => exact (Reps.c2 (show Kd.M k41 _ _ _ (⟨4, 1⟩ : S41) [.int .i64 4, .int .i64 1] from (k41_mkM _ _ _ (⟨4, 1⟩ : S41) )) (Reps.c2 (show Kd.M k41 _ _ _ (⟨2, 2⟩ : S41) [.int .i64 2, .int .i64 2] from (k41_mkM _ _ _ (⟨2, 2⟩ : S41) )) (Reps.none _ _)))); intro v113 w24 ho25 hb hg_ hnew_; clear hg_ hnew_; (first | rw [← Ny112.out] at ho25 | (simp only [Int.reduceToNat] at ho25; rw [← Ny112.out] at ho25)); have n0_ := Aside0.mk (Kd.R_below (by (with_reducible repeat (first | apply Kd.R_alloc | apply Kd.R_drewN | apply Kd.R_drew)); exact HO103.out) hb); have n1_ := Aside0.mk (Kd.R_below (by (with_reducible repeat (first | apply Kd.R_alloc | apply Kd.R_drewN | apply Kd.R_drew)); exact HO108.out) hb); have n2_ := Aside0.mk (Kd.R_below (by (with_reducible repeat (first | apply Kd.R_alloc | apply Kd.R_drewN | apply Kd.R_drew)); exact HO111.out) hb); have n3_ := Aside0.mk (Kd.R_lower ho25 (below_size (by repeat (first | (with_reducible first | exact HB.out | apply below_alloc | apply pw_below_drewN | apply below_drew1) | exact HB.out)))); have n4_ := Aside0.mk (below_step (by repeat (first | (with_reducible first | exact HB.out | apply below_alloc | apply pw_below_drewN | apply below_drew1) | exact HB.out)) hb); clear HO103; clear HO108; clear HO111; clear HB; have HO103 := n0_; have HO108 := n1_; have HO111 := n2_; have HO114 := n3_; have HB := n4_; clear n0_ n1_ n2_ n3_ n4_; clear hb ho25; obtain ⟨Ao26, co26, eo26⟩ := Kd.R_slice HO111.out; subst eo26; obtain ⟨Ao27, co27, eo27⟩ := Kd.R_slice HO114.out; subst eo27) | ((with_reducible refine gate_callee (f := 37) rfl ?_); refine goesL_ (some 23) rfl rfl Try.func37 (by kernel_rfl) rfl #[.int .i64 3, .slice Ao26 t109.length co26, .slice Ao27 y112.length co27] rfl (by (try simp only [List.map_toArray, List.map_cons, List.map_nil]); first | done | rfl | (simp only [List.length_drop, List.length_take]; rfl)) ?_; (with_reducible refine (branch_Proves.calls k 3 _ _ t109 _ _ y112 t115 true t117 _ ?side1 ?side2 ?side3 ?side4 A4.out).mono ?_); (case side1 => repeat (first | exact (Kd.R_reads' HO111.out).2.2 | (with_reducible refine Kd.C_alloc ?_ _) | (with_reducible refine Kd.C_drewN ?_ _) | (with_reducible refine Kd.C_drew ?_))); (case side2 => exact (Kd.R_reads' HO111.out).2.1); (case side3 => repeat (first | exact (Kd.R_reads' HO114.out).2.2 | (with_reducible refine Kd.C_alloc ?_ _) | (with_reducible refine Kd.C_drewN ?_ _) | (with_reducible refine Kd.C_drew ?_))); (case side4 => exact (Kd.R_reads' HO114.out).2.1); rintro e w28 ⟨rfl, hb⟩; refine ⟨_, rfl, ?_⟩; have n0_ := Aside0.mk (Kd.R_below (by (with_reducible repeat (first | apply Kd.R_alloc | apply Kd.R_drewN | apply Kd.R_drew)); exact HO103.out) hb); have n1_ := Aside0.mk (Kd.R_below (by (with_reducible repeat (first | apply Kd.R_alloc | apply Kd.R_drewN | apply Kd.R_drew)); exact HO108.out) hb); have n2_ := Aside0.mk (Kd.R_below (by (with_reducible repeat (first | apply Kd.R_alloc | apply Kd.R_drewN | apply Kd.R_drew)); exact HO111.out) hb); have n3_ := Aside0.mk (Kd.R_below (by (with_reducible repeat (first | apply Kd.R_alloc | apply Kd.R_drewN | apply Kd.R_drew)); exact HO114.out) hb); have n4_ := Aside0.mk (below_step (by repeat (first | (with_reducible first | exact HB.out | apply below_alloc | apply pw_below_drewN | apply below_drew1) | exact HB.out)) hb); clear HO103; clear HO108; clear HO111; clear HO114; clear HB; have HO103 := n0_; have HO108 := n1_; have HO111 := n2_; have HO114 := n3_; have HB := n4_; clear n0_ n1_ n2_ n3_ n4_; (try clear hb); (try clear hb2); (try clear hk); (try clear hi)) | ((with_reducible refine gate_callee (f := 43) rfl ?_); refine goesL_ (some 28) rfl rfl Try.func43 (by kernel_rfl) rfl #[] rfl (by (try simp only [List.map_toArray, List.map_cons, List.map_nil]); first | done | rfl | (simp only [List.length_drop, List.length_take]; rfl)) ?_; (with_reducible refine (trishawlaw03_three.calls  t118 _ A5.out).mono ?_); rintro e w29 ⟨v119, rfl, ho0, hb⟩; refine ⟨_, rfl, ?_⟩; have n0_ := Aside0.mk (Kd.R_elder' (by (with_reducible repeat (first | apply Kd.R_alloc | apply Kd.R_drewN | apply Kd.R_drew)); exact HO103.out) (Kd.R_base ho0) hb); have n1_ := Aside0.mk (Kd.R_below (by (with_reducible repeat (first | apply Kd.R_alloc | apply Kd.R_drewN | apply Kd.R_drew)); exact HO108.out) hb); have n2_ := Aside0.mk (Kd.R_elder' (by (with_reducible repeat (first | apply Kd.R_alloc | apply Kd.R_drewN | apply Kd.R_drew)); exact HO111.out) (Kd.R_base ho0) hb); have n3_ := Aside0.mk (Kd.R_below (by (with_reducible repeat (first | apply Kd.R_alloc | apply Kd.R_drewN | apply Kd.R_drew)); exact HO114.out) hb); have n4_ := Aside0.mk (Kd.R_lower (Kd.R_new' (Kd.R_new' ho0 (Kd.R_lt (by (with_reducible repeat (first | apply Kd.R_alloc | apply Kd.R_drewN | apply Kd.R_drew)); exact HO103.out))) (Kd.R_lt (by (with_reducible repeat (first | apply Kd.R_alloc | apply Kd.R_drewN | apply Kd.R_drew)); exact HO111.out))) (below_size (by repeat (first | (with_reducible first | exact HB.out | apply below_alloc | apply pw_below_drewN | apply below_drew1) | exact HB.out)))); have n5_ := Aside0.mk (below_step (by repeat (first | (with_reducible first | exact HB.out | apply below_alloc | apply pw_below_drewN | apply below_drew1) | exact HB.out)) hb); clear HO103; clear HO108; clear HO111; clear HO114; clear HB; have HO103 := n0_; have HO108 := n1_; have HO111 := n2_; have HO114 := n3_; have HO120 := n4_; have HB := n5_; clear n0_ n1_ n2_ n3_ n4_ n5_; (try clear hb); (try clear hb2); (try clear hk); (try clear hi); (try clear ho0); obtain ⟨Ao30, co30, eo30⟩ := Kd.R_slice HO120.out; subst eo30) | ((with_reducible refine gate_callee (f := 18) rfl ?_); refine goesL_ (some 29) rfl rfl Try.func18 (by kernel_rfl) rfl #[.int .i64 3, .slice Ao30 t118.length co30] rfl (by (try simp only [List.map_toArray, List.map_cons, List.map_nil]); first | done | rfl | (simp only [List.length_drop, List.length_take]; rfl)) ?_; (with_reducible refine (branch_Count.calls k 3 _ _ t118 t121 t122 _ ?side1 ?side2 A6.out).mono ?_); (case side1 => repeat (first | exact (Kd.R_reads' HO120.out).2.2 | (with_reducible refine Kd.C_alloc ?_ _) | (with_reducible refine Kd.C_drewN ?_ _) | (with_reducible refine Kd.C_drew ?_))); (case side2 => exact (Kd.R_reads' HO120.out).2.1); rintro e w31 ⟨rfl, hb⟩; refine ⟨_, rfl, ?_⟩; have n0_ := Aside0.mk (Kd.R_below (by (with_reducible repeat (first | apply Kd.R_alloc | apply Kd.R_drewN | apply Kd.R_drew)); exact HO103.out) hb); have n1_ := Aside0.mk (Kd.R_below (by (with_reducible repeat (first | apply Kd.R_alloc | apply Kd.R_drewN | apply Kd.R_drew)); exact HO108.out) hb); have n2_ := Aside0.mk (Kd.R_below (by (with_reducible repeat (first | apply Kd.R_alloc | apply Kd.R_drewN | apply Kd.R_drew)); exact HO111.out) hb); have n3_ := Aside0.mk (Kd.R_below (by (with_reducible repeat (first | apply Kd.R_alloc | apply Kd.R_drewN | apply Kd.R_drew)); exact HO114.out) hb); have n4_ := Aside0.mk (Kd.R_below (by (with_reducible repeat (first | apply Kd.R_alloc | apply Kd.R_drewN | apply Kd.R_drew)); exact HO120.out) hb); have n5_ := Aside0.mk (below_step (by repeat (first | (with_reducible first | exact HB.out | apply below_alloc | apply pw_below_drewN | apply below_drew1) | exact HB.out)) hb); clear HO103; clear HO108; clear HO111; clear HO114; clear HO120; clear HB; have HO103 := n0_; have HO108 := n1_; have HO111 := n2_; have HO114 := n3_; have HO120 := n4_; have HB := n5_; clear n0_ n1_ n2_ n3_ n4_ n5_; (try clear hb); (try clear hb2); (try clear hk); (try clear hi)) | ((with_reducible refine gate_callee (f := 43) rfl ?_); refine goesL_ (some 33) rfl rfl Try.func43 (by kernel_rfl) rfl #[] rfl (by (try simp only [List.map_toArray, List.map_cons, List.map_nil]); first | done | rfl | (simp only [List.length_drop, List.length_take]; rfl)) ?_; (with_reducible refine (trishawlaw03_three.calls  t123 _ A7.out).mono ?_); rintro e w32 ⟨v124, rfl, ho0, hb⟩; refine ⟨_, rfl, ?_⟩; have n0_ := Aside0.mk (Kd.R_elder' (by (with_reducible repeat (first | apply Kd.R_alloc | apply Kd.R_drewN | apply Kd.R_drew)); exact HO103.out) (Kd.R_base ho0) hb); have n1_ := Aside0.mk (Kd.R_below (by (with_reducible repeat (first | apply Kd.R_alloc | apply Kd.R_drewN | apply Kd.R_drew)); exact HO108.out) hb); have n2_ := Aside0.mk (Kd.R_elder' (by (with_reducible repeat (first | apply Kd.R_alloc | apply Kd.R_drewN | apply Kd.R_drew)); exact HO111.out) (Kd.R_base ho0) hb); have n3_ := Aside0.mk (Kd.R_below (by (with_reducible repeat (first | apply Kd.R_alloc | apply Kd.R_drewN | apply Kd.R_drew)); exact HO114.out) hb); have n4_ := Aside0.mk (Kd.R_elder' (by (with_reducible repeat (first | apply Kd.R_alloc | apply Kd.R_drewN | apply Kd.R_drew)); exact HO120.out) (Kd.R_base ho0) hb); have n5_ := Aside0.mk (Kd.R_lower (Kd.R_new' (Kd.R_new' (Kd.R_new' ho0 (Kd.R_lt (by (with_reducible repeat (first | apply Kd.R_alloc | apply Kd.R_drewN | apply Kd.R_drew)); exact HO103.out))) (Kd.R_lt (by (with_reducible repeat (first | apply Kd.R_alloc | apply Kd.R_drewN | apply Kd.R_drew)); exact HO111.out))) (Kd.R_lt (by (with_reducible repeat (first | apply Kd.R_alloc | apply Kd.R_drewN | apply Kd.R_drew)); exact HO120.out))) (below_size (by repeat (first | (with_reducible first | exact HB.out | apply below_alloc | apply pw_below_drewN | apply below_drew1) | exact HB.out)))); have n6_ := Aside0.mk (below_step (by repeat (first | (with_reducible first | exact HB.out | apply below_alloc | apply pw_below_drewN | apply below_drew1) | exact HB.out)) hb); clear HO103; clear HO108; clear HO111; clear HO114; clear HO120; clear HB; have HO103 := n0_; have HO108 := n1_; have HO111 := n2_; have HO114 := n3_; have HO120 := n4_; have HO125 := n5_; have HB := n6_; clear n0_ n1_ n2_ n3_ n4_ n5_ n6_; (try clear hb); (try clear hb2); (try clear hk); (try clear hi); (try clear ho0); obtain ⟨Ao33, co33, eo33⟩ := Kd.R_slice HO125.out; subst eo33) | ((with_reducible refine gate_callee (f := 30) rfl ?_); refine goesL_ (some 34) rfl rfl Try.func30 (by kernel_rfl) rfl #[.int .i64 3, .slice Ao33 t123.length co33] rfl (by (try simp only [List.map_toArray, List.map_cons, List.map_nil]); first | done | rfl | (simp only [List.length_drop, List.length_take]; rfl)) ?_; (with_reducible refine (branch_Narrow.calls k 3 _ _ t123 t126 t127 t128 _ ?side1 ?side2 A8.out).mono ?_); (case side1 => repeat (first | exact (Kd.R_reads' HO125.out).2.2 | (with_reducible refine Kd.C_alloc ?_ _) | (with_reducible refine Kd.C_drewN ?_ _) | (with_reducible refine Kd.C_drew ?_))); (case side2 => exact (Kd.R_reads' HO125.out).2.1); rintro e w34 ⟨rfl, hb⟩; refine ⟨_, rfl, ?_⟩; have n0_ := Aside0.mk (Kd.R_below (by (with_reducible repeat (first | apply Kd.R_alloc | apply Kd.R_drewN | apply Kd.R_drew)); exact HO103.out) hb); have n1_ := Aside0.mk (Kd.R_below (by (with_reducible repeat (first | apply Kd.R_alloc | apply Kd.R_drewN | apply Kd.R_drew)); exact HO108.out) hb); have n2_ := Aside0.mk (Kd.R_below (by (with_reducible repeat (first | apply Kd.R_alloc | apply Kd.R_drewN | apply Kd.R_drew)); exact HO111.out) hb); have n3_ := Aside0.mk (Kd.R_below (by (with_reducible repeat (first | apply Kd.R_alloc | apply Kd.R_drewN | apply Kd.R_drew)); exact HO114.out) hb); have n4_ := Aside0.mk (Kd.R_below (by (with_reducible repeat (first | apply Kd.R_alloc | apply Kd.R_drewN | apply Kd.R_drew)); exact HO120.out) hb); have n5_ := Aside0.mk (Kd.R_below (by (with_reducible repeat (first | apply Kd.R_alloc | apply Kd.R_drewN | apply Kd.R_drew)); exact HO125.out) hb); have n6_ := Aside0.mk (below_step (by repeat (first | (with_reducible first | exact HB.out | apply below_alloc | apply pw_below_drewN | apply below_drew1) | exact HB.out)) hb); clear HO103; clear HO108; clear HO111; clear HO114; clear HO120; clear HO125; clear HB; have HO103 := n0_; have HO108 := n1_; have HO111 := n2_; have HO114 := n3_; have HO120 := n4_; have HO125 := n5_; have HB := n6_; clear n0_ n1_ n2_ n3_ n4_ n5_ n6_; (try clear hb); (try clear hb2); (try clear hk); (try clear hi)) | ((with_reducible refine gate_dst (N := 42) rfl ?_); (try (refine gate_guard (by rfl) ?_; dsimp only)); refine Kd.R_lit (Kd.int .i64) _ 3 ?hg (N := 42) ?hd (xs := ([1, 2] : List Int)) (inner := [.int .i64 1, .int .i64 2]) (ok := fun _ => True) (okp := fun _ => True) ?hr ?hp (fun _ hk => hk) trivial (Below.refl _ _) (Nat.le_refl _) (by simp) ?_; (case hd => rfl); (case hg => rfl); (case hr => first | (go_simp; done) | (go_simp; rfl)); (case hp => exact (Reps.one (show Kd.M (Kd.int .i64) _ _ _ 1 [.int .i64 1] from rfl) (Reps.one (show Kd.M (Kd.int .i64) _ _ _ 2 [.int .i64 2] from rfl) (Reps.none _ _)))); intro v130 w35 ho36 hb hg_ hnew_; clear hg_ hnew_; (first | rw [← Ny129.out] at ho36 | (simp only [Int.reduceToNat] at ho36; rw [← Ny129.out] at ho36)); have n0_ := Aside0.mk (Kd.R_below (by (with_reducible repeat (first | apply Kd.R_alloc | apply Kd.R_drewN | apply Kd.R_drew)); exact HO103.out) hb); have n1_ := Aside0.mk (Kd.R_elder' (by (with_reducible repeat (first | apply Kd.R_alloc | apply Kd.R_drewN | apply Kd.R_drew)); exact HO108.out) (Kd.R_base ho36) hb); have n2_ := Aside0.mk (Kd.R_below (by (with_reducible repeat (first | apply Kd.R_alloc | apply Kd.R_drewN | apply Kd.R_drew)); exact HO111.out) hb); have n3_ := Aside0.mk (Kd.R_below (by (with_reducible repeat (first | apply Kd.R_alloc | apply Kd.R_drewN | apply Kd.R_drew)); exact HO114.out) hb); have n4_ := Aside0.mk (Kd.R_below (by (with_reducible repeat (first | apply Kd.R_alloc | apply Kd.R_drewN | apply Kd.R_drew)); exact HO120.out) hb); have n5_ := Aside0.mk (Kd.R_below (by (with_reducible repeat (first | apply Kd.R_alloc | apply Kd.R_drewN | apply Kd.R_drew)); exact HO125.out) hb); have n6_ := Aside0.mk (Kd.R_lower (Kd.R_new' ho36 (Kd.R_lt (by (with_reducible repeat (first | apply Kd.R_alloc | apply Kd.R_drewN | apply Kd.R_drew)); exact HO108.out))) (below_size (by repeat (first | (with_reducible first | exact HB.out | apply below_alloc | apply pw_below_drewN | apply below_drew1) | exact HB.out)))); have n7_ := Aside0.mk (below_step (by repeat (first | (with_reducible first | exact HB.out | apply below_alloc | apply pw_below_drewN | apply below_drew1) | exact HB.out)) hb); clear HO103; clear HO108; clear HO111; clear HO114; clear HO120; clear HO125; clear HB; have HO103 := n0_; have HO108 := n1_; have HO111 := n2_; have HO114 := n3_; have HO120 := n4_; have HO125 := n5_; have HO131 := n6_; have HB := n7_; clear n0_ n1_ n2_ n3_ n4_ n5_ n6_ n7_; clear hb ho36; obtain ⟨Ao37, co37, eo37⟩ := Kd.R_slice HO108.out; subst eo37; obtain ⟨Ao38, co38, eo38⟩ := Kd.R_slice HO131.out; subst eo38) | (go_at_call 25; (with_reducible refine (trishawlaw03_same.calls k _ _ t104 _ _ y129 true _ ?side1 ?side2 ?side3 ?side4 A10.out).mono ?_); (case side1 => repeat (first | exact (Kd.R_reads' HO108.out).2.2 | (with_reducible refine Kd.C_alloc ?_ _) | (with_reducible refine Kd.C_drewN ?_ _) | (with_reducible refine Kd.C_drew ?_))); (case side2 => exact (Kd.R_reads' HO108.out).2.1); (case side3 => repeat (first | exact (Kd.R_reads' HO131.out).2.2 | (with_reducible refine Kd.C_alloc ?_ _) | (with_reducible refine Kd.C_drewN ?_ _) | (with_reducible refine Kd.C_drew ?_))); (case side4 => exact (Kd.R_reads' HO131.out).2.1); rintro e w' ⟨rfl, ⟨nd, rfl⟩⟩))
                      go_ret
                      exact ⟨by first | rfl | (simp [errW_none, errW_some] <;> rfl) | (simp [*, errW_none, errW_some] <;> rfl), by repeat (first | (with_reducible first | exact HB.out | apply below_alloc | apply pw_below_drewN | apply below_drew1) | exact HB.out)⟩
                    · rw [if_neg c19] at H
                      exact absurd ((Option.some.inj H).trans HRT.out) (by decide)
                  · rw [if_neg c18] at H
                    exact absurd ((Option.some.inj H).trans HRT.out) (by decide)
                · rw [if_neg c17] at H
                  exact absurd ((Option.some.inj H).trans HRT.out) (by decide)
              · rw [if_neg c16] at H
                exact absurd ((Option.some.inj H).trans HRT.out) (by decide)
            · rw [if_neg c15] at H
              exact absurd ((Option.some.inj H).trans HRT.out) (by decide)
          · replace c14 := Bool.eq_false_iff.mpr c14
            subst c14
            have H1 : (some false) = some r := by rw [if_neg (show ¬ (false = true) by decide)] at H; exact H
            exact absurd ((Option.some.inj H1).trans HRT.out) (by decide)
        · rw [if_neg c13] at H
          exact absurd ((Option.some.inj H).trans HRT.out) (by decide)
      · rw [if_neg c12] at H
        exact absurd ((Option.some.inj H).trans HRT.out) (by decide)
    · replace c11 := Bool.eq_false_iff.mpr c11
      subst c11
      have H1 : (some false) = some r := by rw [if_neg (show ¬ (false = true) by decide)] at H; exact H
      exact absurd ((Option.some.inj H1).trans HRT.out) (by decide)
  · rw [if_neg c9] at H
    exact absurd ((Option.some.inj H).trans HRT.out) (by decide)
end Go.Proofs.Ytpmadffgdfholaa.B
namespace Go.Proofs.Ytpmadffgdfholaa.B
open Go.RowKit Go.Proofs.YtpmadffgdfholaaW.PrintWords Go.Proofs.YtpmadffgdfholaaW.PrintLast Go.Proofs.YtpmadffgdfholaaW.PrintMore
attribute [local go_sem] max2_int min2_int max_two min_two max_three min_three max_four min_four   -- for this text's walks alone
set_option linter.unusedVariables false
set_option linter.unusedSimpArgs false
mutual
def trishawlaw03_BranchFinds.j0 : Nat → Int → List (S30) → Bool → Option (Bool)
  | 0, _, _, _ => none
  | k + 1, x0, x1, x19 => if x19 = true then ((trishawlaw03_alive.f k).bind fun t103 => (some t103)) else ((branch_Branching.f k x0 x1).bind fun bt104 => ((trishawref03_Branching.f k x0 x1).bind fun bt109 => ((trishawlaw03_same.f k bt104.1 bt109.1).bind fun t114 => (if t114 = true then (if bt104.2.1 = bt109.2.1 then (trishawlaw03_BranchFinds.j1 k x0 x1 (bt104.2.2 != bt109.2.2)) else (trishawlaw03_BranchFinds.j1 k x0 x1 true)) else (trishawlaw03_BranchFinds.j1 k x0 x1 true)))))
def trishawlaw03_BranchFinds.j1 : Nat → Int → List (S30) → Bool → Option (Bool)
  | 0, _, _, _ => none
  | k + 1, x0, x1, x48 => if x48 = true then (some false) else ((branch_Dear.f k x0 x1).bind fun bt115 => ((trishawref03_Dear.f k x0 x1).bind fun bt120 => ((trishawlaw03_same.f k bt115.1 bt120.1).bind fun t125 => (if t125 = true then (if bt115.2.1 = bt120.2.1 then (trishawlaw03_BranchFinds.j2 k x0 x1 (bt115.2.2 != bt120.2.2)) else (trishawlaw03_BranchFinds.j2 k x0 x1 true)) else (trishawlaw03_BranchFinds.j2 k x0 x1 true)))))
def trishawlaw03_BranchFinds.j2 : Nat → Int → List (S30) → Bool → Option (Bool)
  | 0, _, _, _ => none
  | k + 1, x0, x1, x76 => if x76 = true then (some false) else ((branch_Count.f k x0 x1).bind fun bt126 => ((trishawref03_Count.f k x0 x1).bind fun bt128 => (if bt126.1 = bt128.1 then (if bt126.2 = bt128.2 then ((trishawlaw03_alive.f k).bind fun t130 => (some t130)) else (some false)) else (some false))))
end
def trishawlaw03_BranchFinds.f (k : Nat) (a0 : Int) (l1 : List (S30)) : Option (Bool) := (trishawlaw03_few.f l1 ([] : List Int)).bind fun t101 => (if t101 = true then ((trishawlaw03_light.f k a0 l1).bind fun t102 => (trishawlaw03_BranchFinds.j0 k a0 l1 (!t102))) else (trishawlaw03_BranchFinds.j0 k a0 l1 true))
set_option maxHeartbeats 8000000 in
set_option maxRecDepth 100000 in
theorem trishawlaw03_BranchFinds.calls (k : Nat) (a0 : Int) (A1 : Option Addr) (c1 : Nat) (l1 : List (S30)) (r : Bool) (w : World) (hr1 : Kd.C k30 w A1 l1.length l1) (hc1 : l1.length ≤ c1) (h : trishawlaw03_BranchFinds.f k a0 l1 = some r) :
    Calls Try.prog 5 #[.int .i64 a0, .slice A1 l1.length c1] w fun e w' => e = .returned (.bool r) ∧ Below w.heap.size w w' := by
  have HR1 := Aside0.mk hr1
  have HC1 := Aside0.mk hc1
  clear hr1 hc1
  have HB := Aside0.mk (Below.refl w.heap.size w)
  have H : ((trishawlaw03_few.f l1 ([] : List Int)).bind fun t101 => (if t101 = true then ((trishawlaw03_light.f k a0 l1).bind fun t102 => (trishawlaw03_BranchFinds.j0 k a0 l1 (!t102))) else (trishawlaw03_BranchFinds.j0 k a0 l1 true))) = some r := h
  clear h
  have HC3 := Aside0.mk H
  clear H
  go_enter Try.func5, Try.ntmps5
  go_upto_region 1 with (fail)
  go_cut [19] (fun v19 wc => ∃ (kq : Nat) (x19_2 : Bool), v19 = .bool x19_2 ∧ Aside0 (trishawlaw03_BranchFinds.j0 kq a0 l1 x19_2 = some r) ∧ Aside0 (kq ≤ k) ∧ Aside0 (Below w.heap.size w wc))
  case first =>
    have H := HC3.out
    clear HC3
    replace H := Option.bind_eq_some_iff.mp H
    obtain ⟨t101, A40, H⟩ := H
    replace H : (if t101 = true then ((trishawlaw03_light.f k a0 l1).bind fun t102 => (trishawlaw03_BranchFinds.j0 k a0 l1 (!t102))) else (trishawlaw03_BranchFinds.j0 k a0 l1 true)) = some r := H
    have A4 := Aside0.mk A40
    clear A40
    by_cases c5 : t101 = true
    · subst c5
      have H1 : ((trishawlaw03_light.f k a0 l1).bind fun t102 => (trishawlaw03_BranchFinds.j0 k a0 l1 (!t102))) = some r := by rw [if_pos rfl] at H; exact H
      clear H
      have H := H1
      clear H1
      replace H := Option.bind_eq_some_iff.mp H
      obtain ⟨t102, A60, H⟩ := H
      replace H : (trishawlaw03_BranchFinds.j0 k a0 l1 (!t102)) = some r := H
      have A6 := Aside0.mk A60
      clear A60
      have H' := Aside0.mk H
      clear H
      go_wp2_with (first | ((with_reducible refine gate_callee (f := 15) rfl ?_); refine goesL_ (some 12) rfl rfl Try.func15 (by kernel_rfl) rfl #[.slice A1 l1.length c1, .slice none 0 0] rfl (by (try simp only [List.map_toArray, List.map_cons, List.map_nil]); first | done | rfl | (simp only [List.length_drop, List.length_take]; rfl)) ?_; (refine (trishawlaw03_few.calls _ _ l1 _ _ ([] : List Int) true _ ?side1 ?side2 ?side3 ?side4 A4.out).mono ?_); (case side1 => repeat (first | exact (Kd.C_below HR1.out HB.out) | (with_reducible refine Kd.C_alloc ?_ _) | (with_reducible refine Kd.C_drewN ?_ _) | (with_reducible refine Kd.C_drew ?_))); (case side2 => exact HC1.out); (case side3 => exact Kd.C_nil _ _); (case side4 => exact Nat.le_refl _); rintro e w' ⟨rfl, ⟨nd, rfl⟩⟩; refine ⟨_, rfl, ?_⟩) | (go_at_call 20; (with_reducible refine (trishawlaw03_light.calls k a0 _ _ l1 t102 _ ?side1 ?side2 A6.out).mono ?_); (case side1 => repeat (first | exact (Kd.C_below HR1.out (by repeat (first | (with_reducible first | exact HB.out | apply below_alloc | apply pw_below_drewN | apply below_drew1) | exact HB.out))) | (with_reducible refine Kd.C_alloc ?_ _) | (with_reducible refine Kd.C_drewN ?_ _) | (with_reducible refine Kd.C_drew ?_))); (case side2 => exact HC1.out); rintro e w7 ⟨rfl, hb⟩; have n0_ := Aside0.mk (below_step (by repeat (first | (with_reducible first | exact HB.out | apply below_alloc | apply pw_below_drewN | apply below_drew1) | exact HB.out)) hb); clear HB; have HB := n0_; clear n0_; (try clear hb); (try clear hb2); (try clear hk); (try clear hi)))
      go_meet
      case rel => exact ⟨_, (!t102), (by first | rfl | (simp; done) | (simp [*]; done)), H', ⟨by first | omega | exact Nat.le_refl _⟩, ⟨by repeat (first | (with_reducible first | exact HB.out | apply below_alloc | apply pw_below_drewN | apply below_drew1) | exact HB.out)⟩⟩
    · replace c5 := Bool.eq_false_iff.mpr c5
      subst c5
      have H1 : (trishawlaw03_BranchFinds.j0 k a0 l1 true) = some r := by rw [if_neg (show ¬ (false = true) by decide)] at H; exact H
      clear H
      have H := H1
      clear H1
      have H' := Aside0.mk H
      clear H
      go_wp2_with (first | ((with_reducible refine gate_callee (f := 15) rfl ?_); refine goesL_ (some 12) rfl rfl Try.func15 (by kernel_rfl) rfl #[.slice A1 l1.length c1, .slice none 0 0] rfl (by (try simp only [List.map_toArray, List.map_cons, List.map_nil]); first | done | rfl | (simp only [List.length_drop, List.length_take]; rfl)) ?_; (refine (trishawlaw03_few.calls _ _ l1 _ _ ([] : List Int) false _ ?side1 ?side2 ?side3 ?side4 A4.out).mono ?_); (case side1 => repeat (first | exact (Kd.C_below HR1.out HB.out) | (with_reducible refine Kd.C_alloc ?_ _) | (with_reducible refine Kd.C_drewN ?_ _) | (with_reducible refine Kd.C_drew ?_))); (case side2 => exact HC1.out); (case side3 => exact Kd.C_nil _ _); (case side4 => exact Nat.le_refl _); rintro e w' ⟨rfl, ⟨nd, rfl⟩⟩; refine ⟨_, rfl, ?_⟩))
      go_meet
      case rel => exact ⟨_, (true), (by first | rfl | (simp; done) | (simp [*]; done)), H', ⟨by first | omega | exact Nat.le_refl _⟩, ⟨by repeat (first | (with_reducible first | exact HB.out | apply below_alloc | apply pw_below_drewN | apply below_drew1) | exact HB.out)⟩⟩
  case rest =>
    clear HC3
    try clear c1
    try clear p2
    try clear c5
    obtain ⟨kq, x19_2, rfl, HA, HJ2, HB⟩ := hcut
    cases kq with
    | zero => exact absurd HA.out (by simp [trishawlaw03_BranchFinds.j0])
    | succ kj2 =>
      have H := HA.out
      clear HA
      simp only [trishawlaw03_BranchFinds.j0] at H
      by_cases c8 : x19_2 = true
      · subst c8
        have H1 : ((trishawlaw03_alive.f kj2).bind fun t103 => (some t103)) = some r := by rw [if_pos rfl] at H; exact H
        clear H
        have H := H1
        clear H1
        replace H := Option.bind_eq_some_iff.mp H
        obtain ⟨t103, A90, H⟩ := H
        replace H : (some t103) = some r := H
        have A9 := Aside0.mk A90
        clear A90
        obtain rfl := Option.some.inj H
        go_wp2_with (first | ((with_reducible refine gate_callee (f := 17) rfl ?_); refine goesL_ (some 20) rfl rfl Try.func17 (by kernel_rfl) rfl #[] rfl (by (try simp only [List.map_toArray, List.map_cons, List.map_nil]); first | done | rfl | (simp only [List.length_drop, List.length_take]; rfl)) ?_; (with_reducible refine (trishawlaw03_alive.calls kj2  t103 _ A9.out).mono ?_); rintro e w10 ⟨rfl, hb⟩; refine ⟨_, rfl, ?_⟩; have n0_ := Aside0.mk (below_step (by repeat (first | (with_reducible first | exact HB.out | apply below_alloc | apply pw_below_drewN | apply below_drew1) | exact HB.out)) hb); clear HB; have HB := n0_; clear n0_; (try clear hb); (try clear hb2); (try clear hk); (try clear hi)))
        go_ret
        exact ⟨by first | rfl | (simp [errW_none, errW_some] <;> rfl) | (simp [*, errW_none, errW_some] <;> rfl), by repeat (first | (with_reducible first | exact HB.out | apply below_alloc | apply pw_below_drewN | apply below_drew1) | exact HB.out)⟩
      · replace c8 := Bool.eq_false_iff.mpr c8
        subst c8
        have H1 : ((branch_Branching.f kj2 a0 l1).bind fun bt104 => ((trishawref03_Branching.f kj2 a0 l1).bind fun bt109 => ((trishawlaw03_same.f kj2 bt104.1 bt109.1).bind fun t114 => (if t114 = true then (if bt104.2.1 = bt109.2.1 then (trishawlaw03_BranchFinds.j1 kj2 a0 l1 (bt104.2.2 != bt109.2.2)) else (trishawlaw03_BranchFinds.j1 kj2 a0 l1 true)) else (trishawlaw03_BranchFinds.j1 kj2 a0 l1 true))))) = some r := by rw [if_neg (show ¬ (false = true) by decide)] at H; exact H
        clear H
        have H := H1
        clear H1
        replace H := Option.bind_eq_some_iff.mp H
        obtain ⟨⟨t104, t105, t106⟩, A110, H⟩ := H
        replace H : ((trishawref03_Branching.f kj2 a0 l1).bind fun bt109 => ((trishawlaw03_same.f kj2 t104 bt109.1).bind fun t114 => (if t114 = true then (if t105 = bt109.2.1 then (trishawlaw03_BranchFinds.j1 kj2 a0 l1 (t106 != bt109.2.2)) else (trishawlaw03_BranchFinds.j1 kj2 a0 l1 true)) else (trishawlaw03_BranchFinds.j1 kj2 a0 l1 true)))) = some r := H
        have A11 := Aside0.mk A110
        clear A110
        replace H := Option.bind_eq_some_iff.mp H
        obtain ⟨⟨t109, t110, t111⟩, A120, H⟩ := H
        replace H : ((trishawlaw03_same.f kj2 t104 t109).bind fun t114 => (if t114 = true then (if t105 = t110 then (trishawlaw03_BranchFinds.j1 kj2 a0 l1 (t106 != t111)) else (trishawlaw03_BranchFinds.j1 kj2 a0 l1 true)) else (trishawlaw03_BranchFinds.j1 kj2 a0 l1 true))) = some r := H
        have A12 := Aside0.mk A120
        clear A120
        have HC13 := Aside0.mk H
        clear H
        go_upto_region 5 with (first | ((with_reducible refine gate_callee (f := 24) rfl ?_); refine goesL_ (some 24) rfl rfl Try.func24 (by kernel_rfl) rfl #[.int .i64 a0, .slice A1 l1.length c1] rfl (by (try simp only [List.map_toArray, List.map_cons, List.map_nil]); first | done | rfl | (simp only [List.length_drop, List.length_take]; rfl)) ?_; (with_reducible refine (branch_Branching.calls kj2 a0 _ _ l1 t104 t105 t106 _ ?side1 ?side2 A11.out).mono ?_); (case side1 => repeat (first | exact (Kd.C_below HR1.out HB.out) | (with_reducible refine Kd.C_alloc ?_ _) | (with_reducible refine Kd.C_drewN ?_ _) | (with_reducible refine Kd.C_drew ?_))); (case side2 => exact HC1.out); rintro e w14 ⟨v107, rfl, ho0, hb⟩; refine ⟨_, rfl, ?_⟩; have n0_ := Aside0.mk (Kd.R_lower ho0 (below_size (by repeat (first | (with_reducible first | exact HB.out | apply below_alloc | apply pw_below_drewN | apply below_drew1) | exact HB.out)))); have n1_ := Aside0.mk (below_step (by repeat (first | (with_reducible first | exact HB.out | apply below_alloc | apply pw_below_drewN | apply below_drew1) | exact HB.out)) hb); clear HB; have HO108 := n0_; have HB := n1_; clear n0_ n1_; (try clear hb); (try clear hb2); (try clear hk); (try clear hi); (try clear ho0)) | ((with_reducible refine gate_callee (f := 22) rfl ?_); refine goesL_ (some 31) rfl rfl Try.func22 (by kernel_rfl) rfl #[.int .i64 a0, .slice A1 l1.length c1] rfl (by (try simp only [List.map_toArray, List.map_cons, List.map_nil]); first | done | rfl | (simp only [List.length_drop, List.length_take]; rfl)) ?_; (with_reducible refine (trishawref03_Branching.calls kj2 a0 _ _ l1 t109 t110 t111 _ ?side1 ?side2 A12.out).mono ?_); (case side1 => repeat (first | exact (Kd.C_below HR1.out HB.out) | (with_reducible refine Kd.C_alloc ?_ _) | (with_reducible refine Kd.C_drewN ?_ _) | (with_reducible refine Kd.C_drew ?_))); (case side2 => exact HC1.out); rintro e w15 ⟨v112, rfl, ho0, hb⟩; refine ⟨_, rfl, ?_⟩; have n0_ := Aside0.mk (Kd.R_elder' (by (with_reducible repeat (first | apply Kd.R_alloc | apply Kd.R_drewN | apply Kd.R_drew)); exact HO108.out) (Kd.R_base ho0) hb); have n1_ := Aside0.mk (Kd.R_lower (Kd.R_new' ho0 (Kd.R_lt (by (with_reducible repeat (first | apply Kd.R_alloc | apply Kd.R_drewN | apply Kd.R_drew)); exact HO108.out))) (below_size (by repeat (first | (with_reducible first | exact HB.out | apply below_alloc | apply pw_below_drewN | apply below_drew1) | exact HB.out)))); have n2_ := Aside0.mk (below_step (by repeat (first | (with_reducible first | exact HB.out | apply below_alloc | apply pw_below_drewN | apply below_drew1) | exact HB.out)) hb); clear HO108; clear HB; have HO108 := n0_; have HO113 := n1_; have HB := n2_; clear n0_ n1_ n2_; (try clear hb); (try clear hb2); (try clear hk); (try clear hi); (try clear ho0)))
        (try simp only [Act.put, List.setIfInBounds_toArray, List.set_cons_zero, List.set_cons_succ])
        go_cut [48] (fun v48 wc => ∃ (kq : Nat) (x48_12 : Bool), v48 = .bool x48_12 ∧ Aside0 (trishawlaw03_BranchFinds.j1 kq a0 l1 x48_12 = some r) ∧ Aside0 (kq ≤ kj2) ∧ Aside0 (Below w.heap.size w wc))
        case first =>
          have H := HC13.out
          clear HC13
          replace H := Option.bind_eq_some_iff.mp H
          obtain ⟨t114, A160, H⟩ := H
          replace H : (if t114 = true then (if t105 = t110 then (trishawlaw03_BranchFinds.j1 kj2 a0 l1 (t106 != t111)) else (trishawlaw03_BranchFinds.j1 kj2 a0 l1 true)) else (trishawlaw03_BranchFinds.j1 kj2 a0 l1 true)) = some r := H
          have A16 := Aside0.mk A160
          clear A160
          by_cases c17 : t114 = true
          · subst c17
            have H1 : (if t105 = t110 then (trishawlaw03_BranchFinds.j1 kj2 a0 l1 (t106 != t111)) else (trishawlaw03_BranchFinds.j1 kj2 a0 l1 true)) = some r := by rw [if_pos rfl] at H; exact H
            clear H
            have H := H1
            clear H1
            by_cases c18 : t105 = t110
            · rw [if_pos c18] at H
              have c18b0 : (t105 == t110) = true := beq_iff_eq.mpr c18
              have c18b1 : (t105 != t110) = false := bne_eq_false_iff_eq.mpr c18
              clear c18
              (first | rw [c18b0] | (simp only [i64_w, i32_w]; rw [c18b0]) | skip)
              have H' := Aside0.mk H
              clear H
              obtain ⟨Ao19, co19, eo19⟩ := Kd.R_slice HO108.out
              subst eo19
              obtain ⟨Ao20, co20, eo20⟩ := Kd.R_slice HO113.out
              subst eo20
              go_wp2_with (first | ((with_reducible refine gate_callee (f := 25) rfl ?_); refine goesL_ (some 37) rfl rfl Try.func25 (by kernel_rfl) rfl #[.slice Ao19 t104.length co19, .slice Ao20 t109.length co20] rfl (by (try simp only [List.map_toArray, List.map_cons, List.map_nil]); first | done | rfl | (simp only [List.length_drop, List.length_take]; rfl)) ?_; (with_reducible refine (trishawlaw03_same.calls kj2 _ _ t104 _ _ t109 true _ ?side1 ?side2 ?side3 ?side4 A16.out).mono ?_); (case side1 => repeat (first | exact (Kd.R_reads' HO108.out).2.2 | (with_reducible refine Kd.C_alloc ?_ _) | (with_reducible refine Kd.C_drewN ?_ _) | (with_reducible refine Kd.C_drew ?_))); (case side2 => exact (Kd.R_reads' HO108.out).2.1); (case side3 => repeat (first | exact (Kd.R_reads' HO113.out).2.2 | (with_reducible refine Kd.C_alloc ?_ _) | (with_reducible refine Kd.C_drewN ?_ _) | (with_reducible refine Kd.C_drew ?_))); (case side4 => exact (Kd.R_reads' HO113.out).2.1); rintro e w' ⟨rfl, ⟨nd, rfl⟩⟩; refine ⟨_, rfl, ?_⟩))
              go_meet
              case rel => exact ⟨_, ((t106 != t111)), (by first | rfl | (simp; done) | (simp [*]; done)), H', ⟨by have := HJ2.out; first | omega | exact Nat.le_refl _⟩, ⟨by repeat (first | (with_reducible first | exact HB.out | apply below_alloc | apply pw_below_drewN | apply below_drew1) | exact HB.out)⟩⟩
            · rw [if_neg c18] at H
              have c18b0 : (t105 == t110) = false := beq_eq_false_iff_ne.mpr c18
              have c18b1 : (t105 != t110) = true := bne_iff_ne.mpr c18
              (first | rw [c18b0] | (simp only [i64_w, i32_w]; rw [c18b0]) | skip)
              have H' := Aside0.mk H
              clear H
              obtain ⟨Ao21, co21, eo21⟩ := Kd.R_slice HO108.out
              subst eo21
              obtain ⟨Ao22, co22, eo22⟩ := Kd.R_slice HO113.out
              subst eo22
              go_wp2_with (first | ((with_reducible refine gate_callee (f := 25) rfl ?_); refine goesL_ (some 37) rfl rfl Try.func25 (by kernel_rfl) rfl #[.slice Ao21 t104.length co21, .slice Ao22 t109.length co22] rfl (by (try simp only [List.map_toArray, List.map_cons, List.map_nil]); first | done | rfl | (simp only [List.length_drop, List.length_take]; rfl)) ?_; (with_reducible refine (trishawlaw03_same.calls kj2 _ _ t104 _ _ t109 true _ ?side1 ?side2 ?side3 ?side4 A16.out).mono ?_); (case side1 => repeat (first | exact (Kd.R_reads' HO108.out).2.2 | (with_reducible refine Kd.C_alloc ?_ _) | (with_reducible refine Kd.C_drewN ?_ _) | (with_reducible refine Kd.C_drew ?_))); (case side2 => exact (Kd.R_reads' HO108.out).2.1); (case side3 => repeat (first | exact (Kd.R_reads' HO113.out).2.2 | (with_reducible refine Kd.C_alloc ?_ _) | (with_reducible refine Kd.C_drewN ?_ _) | (with_reducible refine Kd.C_drew ?_))); (case side4 => exact (Kd.R_reads' HO113.out).2.1); rintro e w' ⟨rfl, ⟨nd, rfl⟩⟩; refine ⟨_, rfl, ?_⟩))
              go_meet
              case rel => exact ⟨_, (true), (by first | rfl | (simp; done) | (simp [*]; done)), H', ⟨by have := HJ2.out; first | omega | exact Nat.le_refl _⟩, ⟨by repeat (first | (with_reducible first | exact HB.out | apply below_alloc | apply pw_below_drewN | apply below_drew1) | exact HB.out)⟩⟩
          · replace c17 := Bool.eq_false_iff.mpr c17
            subst c17
            have H1 : (trishawlaw03_BranchFinds.j1 kj2 a0 l1 true) = some r := by rw [if_neg (show ¬ (false = true) by decide)] at H; exact H
            clear H
            have H := H1
            clear H1
            have H' := Aside0.mk H
            clear H
            obtain ⟨Ao23, co23, eo23⟩ := Kd.R_slice HO108.out
            subst eo23
            obtain ⟨Ao24, co24, eo24⟩ := Kd.R_slice HO113.out
            subst eo24
            go_wp2_with (first | ((with_reducible refine gate_callee (f := 25) rfl ?_); refine goesL_ (some 37) rfl rfl Try.func25 (by kernel_rfl) rfl #[.slice Ao23 t104.length co23, .slice Ao24 t109.length co24] rfl (by (try simp only [List.map_toArray, List.map_cons, List.map_nil]); first | done | rfl | (simp only [List.length_drop, List.length_take]; rfl)) ?_; (with_reducible refine (trishawlaw03_same.calls kj2 _ _ t104 _ _ t109 false _ ?side1 ?side2 ?side3 ?side4 A16.out).mono ?_); (case side1 => repeat (first | exact (Kd.R_reads' HO108.out).2.2 | (with_reducible refine Kd.C_alloc ?_ _) | (with_reducible refine Kd.C_drewN ?_ _) | (with_reducible refine Kd.C_drew ?_))); (case side2 => exact (Kd.R_reads' HO108.out).2.1); (case side3 => repeat (first | exact (Kd.R_reads' HO113.out).2.2 | (with_reducible refine Kd.C_alloc ?_ _) | (with_reducible refine Kd.C_drewN ?_ _) | (with_reducible refine Kd.C_drew ?_))); (case side4 => exact (Kd.R_reads' HO113.out).2.1); rintro e w' ⟨rfl, ⟨nd, rfl⟩⟩; refine ⟨_, rfl, ?_⟩))
            go_meet
            case rel => exact ⟨_, (true), (by first | rfl | (simp; done) | (simp [*]; done)), H', ⟨by have := HJ2.out; first | omega | exact Nat.le_refl _⟩, ⟨by repeat (first | (with_reducible first | exact HB.out | apply below_alloc | apply pw_below_drewN | apply below_drew1) | exact HB.out)⟩⟩
        case rest =>
          clear HC13
          try clear c1
          try clear c2
          try clear p2
          try clear c5
          try clear c8
          try clear c15
          try clear c17
          try clear c18
          try clear c18b0
          try clear c18b1
          try clear c22
          try clear c24
          try clear p2
          obtain ⟨kq, x48_12, rfl, HA, HJ12, HB⟩ := hcut
          cases kq with
          | zero => exact absurd HA.out (by simp [trishawlaw03_BranchFinds.j1])
          | succ kj12 =>
            have H := HA.out
            clear HA
            simp only [trishawlaw03_BranchFinds.j1] at H
            by_cases c25 : x48_12 = true
            · subst c25
              have H1 : (some false) = some r := by rw [if_pos rfl] at H; exact H
              clear H
              have H := H1
              clear H1
              obtain rfl := Option.some.inj H
              go_wp2
              go_ret
              exact ⟨by first | rfl | (simp [errW_none, errW_some] <;> rfl) | (simp [*, errW_none, errW_some] <;> rfl), by repeat (first | (with_reducible first | exact HB.out | apply below_alloc | apply pw_below_drewN | apply below_drew1) | exact HB.out)⟩
            · replace c25 := Bool.eq_false_iff.mpr c25
              subst c25
              have H1 : ((branch_Dear.f kj12 a0 l1).bind fun bt115 => ((trishawref03_Dear.f kj12 a0 l1).bind fun bt120 => ((trishawlaw03_same.f kj12 bt115.1 bt120.1).bind fun t125 => (if t125 = true then (if bt115.2.1 = bt120.2.1 then (trishawlaw03_BranchFinds.j2 kj12 a0 l1 (bt115.2.2 != bt120.2.2)) else (trishawlaw03_BranchFinds.j2 kj12 a0 l1 true)) else (trishawlaw03_BranchFinds.j2 kj12 a0 l1 true))))) = some r := by rw [if_neg (show ¬ (false = true) by decide)] at H; exact H
              clear H
              have H := H1
              clear H1
              replace H := Option.bind_eq_some_iff.mp H
              obtain ⟨⟨t115, t116, t117⟩, A260, H⟩ := H
              replace H : ((trishawref03_Dear.f kj12 a0 l1).bind fun bt120 => ((trishawlaw03_same.f kj12 t115 bt120.1).bind fun t125 => (if t125 = true then (if t116 = bt120.2.1 then (trishawlaw03_BranchFinds.j2 kj12 a0 l1 (t117 != bt120.2.2)) else (trishawlaw03_BranchFinds.j2 kj12 a0 l1 true)) else (trishawlaw03_BranchFinds.j2 kj12 a0 l1 true)))) = some r := H
              have A26 := Aside0.mk A260
              clear A260
              replace H := Option.bind_eq_some_iff.mp H
              obtain ⟨⟨t120, t121, t122⟩, A270, H⟩ := H
              replace H : ((trishawlaw03_same.f kj12 t115 t120).bind fun t125 => (if t125 = true then (if t116 = t121 then (trishawlaw03_BranchFinds.j2 kj12 a0 l1 (t117 != t122)) else (trishawlaw03_BranchFinds.j2 kj12 a0 l1 true)) else (trishawlaw03_BranchFinds.j2 kj12 a0 l1 true))) = some r := H
              have A27 := Aside0.mk A270
              clear A270
              have HC28 := Aside0.mk H
              clear H
              go_upto_region 9 with (first | ((with_reducible refine gate_callee (f := 26) rfl ?_); refine goesL_ (some 52) rfl rfl Try.func26 (by kernel_rfl) rfl #[.int .i64 a0, .slice A1 l1.length c1] rfl (by (try simp only [List.map_toArray, List.map_cons, List.map_nil]); first | done | rfl | (simp only [List.length_drop, List.length_take]; rfl)) ?_; (with_reducible refine (branch_Dear.calls kj12 a0 _ _ l1 t115 t116 t117 _ ?side1 ?side2 A26.out).mono ?_); (case side1 => repeat (first | exact (Kd.C_below HR1.out HB.out) | (with_reducible refine Kd.C_alloc ?_ _) | (with_reducible refine Kd.C_drewN ?_ _) | (with_reducible refine Kd.C_drew ?_))); (case side2 => exact HC1.out); rintro e w29 ⟨v118, rfl, ho0, hb⟩; refine ⟨_, rfl, ?_⟩; have n0_ := Aside0.mk (Kd.R_lower ho0 (below_size (by repeat (first | (with_reducible first | exact HB.out | apply below_alloc | apply pw_below_drewN | apply below_drew1) | exact HB.out)))); have n1_ := Aside0.mk (below_step (by repeat (first | (with_reducible first | exact HB.out | apply below_alloc | apply pw_below_drewN | apply below_drew1) | exact HB.out)) hb); clear HB; have HO119 := n0_; have HB := n1_; clear n0_ n1_; (try clear hb); (try clear hb2); (try clear hk); (try clear hi); (try clear ho0)) | ((with_reducible refine gate_callee (f := 27) rfl ?_); refine goesL_ (some 59) rfl rfl Try.func27 (by kernel_rfl) rfl #[.int .i64 a0, .slice A1 l1.length c1] rfl (by (try simp only [List.map_toArray, List.map_cons, List.map_nil]); first | done | rfl | (simp only [List.length_drop, List.length_take]; rfl)) ?_; (with_reducible refine (trishawref03_Dear.calls kj12 a0 _ _ l1 t120 t121 t122 _ ?side1 ?side2 A27.out).mono ?_); (case side1 => repeat (first | exact (Kd.C_below HR1.out HB.out) | (with_reducible refine Kd.C_alloc ?_ _) | (with_reducible refine Kd.C_drewN ?_ _) | (with_reducible refine Kd.C_drew ?_))); (case side2 => exact HC1.out); rintro e w30 ⟨v123, rfl, ho0, hb⟩; refine ⟨_, rfl, ?_⟩; have n0_ := Aside0.mk (Kd.R_elder' (by (with_reducible repeat (first | apply Kd.R_alloc | apply Kd.R_drewN | apply Kd.R_drew)); exact HO119.out) (Kd.R_base ho0) hb); have n1_ := Aside0.mk (Kd.R_lower (Kd.R_new' ho0 (Kd.R_lt (by (with_reducible repeat (first | apply Kd.R_alloc | apply Kd.R_drewN | apply Kd.R_drew)); exact HO119.out))) (below_size (by repeat (first | (with_reducible first | exact HB.out | apply below_alloc | apply pw_below_drewN | apply below_drew1) | exact HB.out)))); have n2_ := Aside0.mk (below_step (by repeat (first | (with_reducible first | exact HB.out | apply below_alloc | apply pw_below_drewN | apply below_drew1) | exact HB.out)) hb); clear HO119; clear HB; have HO119 := n0_; have HO124 := n1_; have HB := n2_; clear n0_ n1_ n2_; (try clear hb); (try clear hb2); (try clear hk); (try clear hi); (try clear ho0)))
              (try simp only [Act.put, List.setIfInBounds_toArray, List.set_cons_zero, List.set_cons_succ])
              go_cut [76] (fun v76 wc => ∃ (kq : Nat) (x76_27 : Bool), v76 = .bool x76_27 ∧ Aside0 (trishawlaw03_BranchFinds.j2 kq a0 l1 x76_27 = some r) ∧ Aside0 (kq ≤ kj12) ∧ Aside0 (Below w.heap.size w wc))
              case first =>
                have H := HC28.out
                clear HC28
                replace H := Option.bind_eq_some_iff.mp H
                obtain ⟨t125, A310, H⟩ := H
                replace H : (if t125 = true then (if t116 = t121 then (trishawlaw03_BranchFinds.j2 kj12 a0 l1 (t117 != t122)) else (trishawlaw03_BranchFinds.j2 kj12 a0 l1 true)) else (trishawlaw03_BranchFinds.j2 kj12 a0 l1 true)) = some r := H
                have A31 := Aside0.mk A310
                clear A310
                by_cases c32 : t125 = true
                · subst c32
                  have H1 : (if t116 = t121 then (trishawlaw03_BranchFinds.j2 kj12 a0 l1 (t117 != t122)) else (trishawlaw03_BranchFinds.j2 kj12 a0 l1 true)) = some r := by rw [if_pos rfl] at H; exact H
                  clear H
                  have H := H1
                  clear H1
                  by_cases c33 : t116 = t121
                  · rw [if_pos c33] at H
                    have c33b0 : (t116 == t121) = true := beq_iff_eq.mpr c33
                    have c33b1 : (t116 != t121) = false := bne_eq_false_iff_eq.mpr c33
                    clear c33
                    (first | rw [c33b0] | (simp only [i64_w, i32_w]; rw [c33b0]) | skip)
                    have H' := Aside0.mk H
                    clear H
                    obtain ⟨Ao34, co34, eo34⟩ := Kd.R_slice HO119.out
                    subst eo34
                    obtain ⟨Ao35, co35, eo35⟩ := Kd.R_slice HO124.out
                    subst eo35
                    go_wp2_with (first | ((with_reducible refine gate_callee (f := 25) rfl ?_); refine goesL_ (some 65) rfl rfl Try.func25 (by kernel_rfl) rfl #[.slice Ao34 t115.length co34, .slice Ao35 t120.length co35] rfl (by (try simp only [List.map_toArray, List.map_cons, List.map_nil]); first | done | rfl | (simp only [List.length_drop, List.length_take]; rfl)) ?_; (with_reducible refine (trishawlaw03_same.calls kj12 _ _ t115 _ _ t120 true _ ?side1 ?side2 ?side3 ?side4 A31.out).mono ?_); (case side1 => repeat (first | exact (Kd.R_reads' HO119.out).2.2 | (with_reducible refine Kd.C_alloc ?_ _) | (with_reducible refine Kd.C_drewN ?_ _) | (with_reducible refine Kd.C_drew ?_))); (case side2 => exact (Kd.R_reads' HO119.out).2.1); (case side3 => repeat (first | exact (Kd.R_reads' HO124.out).2.2 | (with_reducible refine Kd.C_alloc ?_ _) | (with_reducible refine Kd.C_drewN ?_ _) | (with_reducible refine Kd.C_drew ?_))); (case side4 => exact (Kd.R_reads' HO124.out).2.1); rintro e w' ⟨rfl, ⟨nd, rfl⟩⟩; refine ⟨_, rfl, ?_⟩))
                    go_meet
                    case rel => exact ⟨_, ((t117 != t122)), (by first | rfl | (simp; done) | (simp [*]; done)), H', ⟨by have := HJ2.out; have := HJ12.out; first | omega | exact Nat.le_refl _⟩, ⟨by repeat (first | (with_reducible first | exact HB.out | apply below_alloc | apply pw_below_drewN | apply below_drew1) | exact HB.out)⟩⟩
                  · rw [if_neg c33] at H
                    have c33b0 : (t116 == t121) = false := beq_eq_false_iff_ne.mpr c33
                    have c33b1 : (t116 != t121) = true := bne_iff_ne.mpr c33
                    (first | rw [c33b0] | (simp only [i64_w, i32_w]; rw [c33b0]) | skip)
                    have H' := Aside0.mk H
                    clear H
                    obtain ⟨Ao36, co36, eo36⟩ := Kd.R_slice HO119.out
                    subst eo36
                    obtain ⟨Ao37, co37, eo37⟩ := Kd.R_slice HO124.out
                    subst eo37
                    go_wp2_with (first | ((with_reducible refine gate_callee (f := 25) rfl ?_); refine goesL_ (some 65) rfl rfl Try.func25 (by kernel_rfl) rfl #[.slice Ao36 t115.length co36, .slice Ao37 t120.length co37] rfl (by (try simp only [List.map_toArray, List.map_cons, List.map_nil]); first | done | rfl | (simp only [List.length_drop, List.length_take]; rfl)) ?_; (with_reducible refine (trishawlaw03_same.calls kj12 _ _ t115 _ _ t120 true _ ?side1 ?side2 ?side3 ?side4 A31.out).mono ?_); (case side1 => repeat (first | exact (Kd.R_reads' HO119.out).2.2 | (with_reducible refine Kd.C_alloc ?_ _) | (with_reducible refine Kd.C_drewN ?_ _) | (with_reducible refine Kd.C_drew ?_))); (case side2 => exact (Kd.R_reads' HO119.out).2.1); (case side3 => repeat (first | exact (Kd.R_reads' HO124.out).2.2 | (with_reducible refine Kd.C_alloc ?_ _) | (with_reducible refine Kd.C_drewN ?_ _) | (with_reducible refine Kd.C_drew ?_))); (case side4 => exact (Kd.R_reads' HO124.out).2.1); rintro e w' ⟨rfl, ⟨nd, rfl⟩⟩; refine ⟨_, rfl, ?_⟩))
                    go_meet
                    case rel => exact ⟨_, (true), (by first | rfl | (simp; done) | (simp [*]; done)), H', ⟨by have := HJ2.out; have := HJ12.out; first | omega | exact Nat.le_refl _⟩, ⟨by repeat (first | (with_reducible first | exact HB.out | apply below_alloc | apply pw_below_drewN | apply below_drew1) | exact HB.out)⟩⟩
                · replace c32 := Bool.eq_false_iff.mpr c32
                  subst c32
                  have H1 : (trishawlaw03_BranchFinds.j2 kj12 a0 l1 true) = some r := by rw [if_neg (show ¬ (false = true) by decide)] at H; exact H
                  clear H
                  have H := H1
                  clear H1
                  have H' := Aside0.mk H
                  clear H
                  obtain ⟨Ao38, co38, eo38⟩ := Kd.R_slice HO119.out
                  subst eo38
                  obtain ⟨Ao39, co39, eo39⟩ := Kd.R_slice HO124.out
                  subst eo39
                  go_wp2_with (first | ((with_reducible refine gate_callee (f := 25) rfl ?_); refine goesL_ (some 65) rfl rfl Try.func25 (by kernel_rfl) rfl #[.slice Ao38 t115.length co38, .slice Ao39 t120.length co39] rfl (by (try simp only [List.map_toArray, List.map_cons, List.map_nil]); first | done | rfl | (simp only [List.length_drop, List.length_take]; rfl)) ?_; (with_reducible refine (trishawlaw03_same.calls kj12 _ _ t115 _ _ t120 false _ ?side1 ?side2 ?side3 ?side4 A31.out).mono ?_); (case side1 => repeat (first | exact (Kd.R_reads' HO119.out).2.2 | (with_reducible refine Kd.C_alloc ?_ _) | (with_reducible refine Kd.C_drewN ?_ _) | (with_reducible refine Kd.C_drew ?_))); (case side2 => exact (Kd.R_reads' HO119.out).2.1); (case side3 => repeat (first | exact (Kd.R_reads' HO124.out).2.2 | (with_reducible refine Kd.C_alloc ?_ _) | (with_reducible refine Kd.C_drewN ?_ _) | (with_reducible refine Kd.C_drew ?_))); (case side4 => exact (Kd.R_reads' HO124.out).2.1); rintro e w' ⟨rfl, ⟨nd, rfl⟩⟩; refine ⟨_, rfl, ?_⟩))
                  go_meet
                  case rel => exact ⟨_, (true), (by first | rfl | (simp; done) | (simp [*]; done)), H', ⟨by have := HJ2.out; have := HJ12.out; first | omega | exact Nat.le_refl _⟩, ⟨by repeat (first | (with_reducible first | exact HB.out | apply below_alloc | apply pw_below_drewN | apply below_drew1) | exact HB.out)⟩⟩
              case rest =>
                clear HC28
                try clear c1
                try clear c2
                try clear p2
                try clear c3
                try clear c5
                try clear c8
                try clear c15
                try clear c17
                try clear c18
                try clear c18b0
                try clear c18b1
                try clear c22
                try clear c24
                try clear c25
                try clear c26
                try clear c27
                try clear c32
                try clear c33
                try clear c33b0
                try clear c33b1
                try clear p2
                obtain ⟨kq, x76_27, rfl, HA, HJ27, HB⟩ := hcut
                cases kq with
                | zero => exact absurd HA.out (by simp [trishawlaw03_BranchFinds.j2])
                | succ kj27 =>
                  have H := HA.out
                  clear HA
                  simp only [trishawlaw03_BranchFinds.j2] at H
                  by_cases c40 : x76_27 = true
                  · subst c40
                    have H1 : (some false) = some r := by rw [if_pos rfl] at H; exact H
                    clear H
                    have H := H1
                    clear H1
                    obtain rfl := Option.some.inj H
                    go_wp2
                    go_ret
                    exact ⟨by first | rfl | (simp [errW_none, errW_some] <;> rfl) | (simp [*, errW_none, errW_some] <;> rfl), by repeat (first | (with_reducible first | exact HB.out | apply below_alloc | apply pw_below_drewN | apply below_drew1) | exact HB.out)⟩
                  · replace c40 := Bool.eq_false_iff.mpr c40
                    subst c40
                    have H1 : ((branch_Count.f kj27 a0 l1).bind fun bt126 => ((trishawref03_Count.f kj27 a0 l1).bind fun bt128 => (if bt126.1 = bt128.1 then (if bt126.2 = bt128.2 then ((trishawlaw03_alive.f kj27).bind fun t130 => (some t130)) else (some false)) else (some false)))) = some r := by rw [if_neg (show ¬ (false = true) by decide)] at H; exact H
                    clear H
                    have H := H1
                    clear H1
                    replace H := Option.bind_eq_some_iff.mp H
                    obtain ⟨⟨t126, t127⟩, A410, H⟩ := H
                    replace H : ((trishawref03_Count.f kj27 a0 l1).bind fun bt128 => (if t126 = bt128.1 then (if t127 = bt128.2 then ((trishawlaw03_alive.f kj27).bind fun t130 => (some t130)) else (some false)) else (some false))) = some r := H
                    have A41 := Aside0.mk A410
                    clear A410
                    replace H := Option.bind_eq_some_iff.mp H
                    obtain ⟨⟨t128, t129⟩, A420, H⟩ := H
                    replace H : (if t126 = t128 then (if t127 = t129 then ((trishawlaw03_alive.f kj27).bind fun t130 => (some t130)) else (some false)) else (some false)) = some r := H
                    have A42 := Aside0.mk A420
                    clear A420
                    by_cases c43 : t126 = t128
                    · rw [if_pos c43] at H
                      have c43b0 : (t126 == t128) = true := beq_iff_eq.mpr c43
                      have c43b1 : (t126 != t128) = false := bne_eq_false_iff_eq.mpr c43
                      clear c43
                      by_cases c44 : t127 = t129
                      · rw [if_pos c44] at H
                        have c44b0 : (t127 == t129) = true := beq_iff_eq.mpr c44
                        have c44b1 : (t127 != t129) = false := bne_eq_false_iff_eq.mpr c44
                        clear c44
                        replace H := Option.bind_eq_some_iff.mp H
                        obtain ⟨t130, A450, H⟩ := H
                        replace H : (some t130) = some r := H
                        have A45 := Aside0.mk A450
                        clear A450
                        obtain rfl := Option.some.inj H
                        go_wp2_with (first | ((with_reducible refine gate_callee (f := 18) rfl ?_); refine goesL_ (some 80) rfl rfl Try.func18 (by kernel_rfl) rfl #[.int .i64 a0, .slice A1 l1.length c1] rfl (by (try simp only [List.map_toArray, List.map_cons, List.map_nil]); first | done | rfl | (simp only [List.length_drop, List.length_take]; rfl)) ?_; (with_reducible refine (branch_Count.calls kj27 a0 _ _ l1 t126 t127 _ ?side1 ?side2 A41.out).mono ?_); (case side1 => repeat (first | exact (Kd.C_below HR1.out HB.out) | (with_reducible refine Kd.C_alloc ?_ _) | (with_reducible refine Kd.C_drewN ?_ _) | (with_reducible refine Kd.C_drew ?_))); (case side2 => exact HC1.out); rintro e w46 ⟨rfl, hb⟩; refine ⟨_, rfl, ?_⟩; have n0_ := Aside0.mk (below_step (by repeat (first | (with_reducible first | exact HB.out | apply below_alloc | apply pw_below_drewN | apply below_drew1) | exact HB.out)) hb); clear HB; have HB := n0_; clear n0_; (try clear hb); (try clear hb2); (try clear hk); (try clear hi)) | ((with_reducible refine gate_callee (f := 28) rfl ?_); refine goesL_ (some 86) rfl rfl Try.func28 (by kernel_rfl) rfl #[.int .i64 a0, .slice A1 l1.length c1] rfl (by (try simp only [List.map_toArray, List.map_cons, List.map_nil]); first | done | rfl | (simp only [List.length_drop, List.length_take]; rfl)) ?_; (with_reducible refine (trishawref03_Count.calls kj27 a0 _ _ l1 t128 t129 _ ?side1 ?side2 A42.out).mono ?_); (case side1 => repeat (first | exact (Kd.C_below HR1.out HB.out) | (with_reducible refine Kd.C_alloc ?_ _) | (with_reducible refine Kd.C_drewN ?_ _) | (with_reducible refine Kd.C_drew ?_))); (case side2 => exact HC1.out); rintro e w47 ⟨rfl, hb⟩; refine ⟨_, rfl, ?_⟩; have n0_ := Aside0.mk (below_step (by repeat (first | (with_reducible first | exact HB.out | apply below_alloc | apply pw_below_drewN | apply below_drew1) | exact HB.out)) hb); clear HB; have HB := n0_; clear n0_; (try clear hb); (try clear hb2); (try clear hk); (try clear hi)) | (go_at_call 17; (with_reducible refine (trishawlaw03_alive.calls kj27  t130 _ A45.out).mono ?_); rintro e w48 ⟨rfl, hb⟩; have n0_ := Aside0.mk (below_step (by repeat (first | (with_reducible first | exact HB.out | apply below_alloc | apply pw_below_drewN | apply below_drew1) | exact HB.out)) hb); clear HB; have HB := n0_; clear n0_; (try clear hb); (try clear hb2); (try clear hk); (try clear hi)))
                        go_ret
                        exact ⟨by first | rfl | (simp [errW_none, errW_some] <;> rfl) | (simp [*, errW_none, errW_some] <;> rfl), by repeat (first | (with_reducible first | exact HB.out | apply below_alloc | apply pw_below_drewN | apply below_drew1) | exact HB.out)⟩
                      · rw [if_neg c44] at H
                        have c44b0 : (t127 == t129) = false := beq_eq_false_iff_ne.mpr c44
                        have c44b1 : (t127 != t129) = true := bne_iff_ne.mpr c44
                        obtain rfl := Option.some.inj H
                        go_wp2_with (first | ((with_reducible refine gate_callee (f := 18) rfl ?_); refine goesL_ (some 80) rfl rfl Try.func18 (by kernel_rfl) rfl #[.int .i64 a0, .slice A1 l1.length c1] rfl (by (try simp only [List.map_toArray, List.map_cons, List.map_nil]); first | done | rfl | (simp only [List.length_drop, List.length_take]; rfl)) ?_; (with_reducible refine (branch_Count.calls kj27 a0 _ _ l1 t126 t127 _ ?side1 ?side2 A41.out).mono ?_); (case side1 => repeat (first | exact (Kd.C_below HR1.out HB.out) | (with_reducible refine Kd.C_alloc ?_ _) | (with_reducible refine Kd.C_drewN ?_ _) | (with_reducible refine Kd.C_drew ?_))); (case side2 => exact HC1.out); rintro e w49 ⟨rfl, hb⟩; refine ⟨_, rfl, ?_⟩; have n0_ := Aside0.mk (below_step (by repeat (first | (with_reducible first | exact HB.out | apply below_alloc | apply pw_below_drewN | apply below_drew1) | exact HB.out)) hb); clear HB; have HB := n0_; clear n0_; (try clear hb); (try clear hb2); (try clear hk); (try clear hi)) | ((with_reducible refine gate_callee (f := 28) rfl ?_); refine goesL_ (some 86) rfl rfl Try.func28 (by kernel_rfl) rfl #[.int .i64 a0, .slice A1 l1.length c1] rfl (by (try simp only [List.map_toArray, List.map_cons, List.map_nil]); first | done | rfl | (simp only [List.length_drop, List.length_take]; rfl)) ?_; (with_reducible refine (trishawref03_Count.calls kj27 a0 _ _ l1 t128 t129 _ ?side1 ?side2 A42.out).mono ?_); (case side1 => repeat (first | exact (Kd.C_below HR1.out HB.out) | (with_reducible refine Kd.C_alloc ?_ _) | (with_reducible refine Kd.C_drewN ?_ _) | (with_reducible refine Kd.C_drew ?_))); (case side2 => exact HC1.out); rintro e w50 ⟨rfl, hb⟩; refine ⟨_, rfl, ?_⟩; have n0_ := Aside0.mk (below_step (by repeat (first | (with_reducible first | exact HB.out | apply below_alloc | apply pw_below_drewN | apply below_drew1) | exact HB.out)) hb); clear HB; have HB := n0_; clear n0_; (try clear hb); (try clear hb2); (try clear hk); (try clear hi)))
                        go_ret
                        exact ⟨by first | rfl | (simp [errW_none, errW_some] <;> rfl) | (simp [*, errW_none, errW_some] <;> rfl), by repeat (first | (with_reducible first | exact HB.out | apply below_alloc | apply pw_below_drewN | apply below_drew1) | exact HB.out)⟩
                    · rw [if_neg c43] at H
                      have c43b0 : (t126 == t128) = false := beq_eq_false_iff_ne.mpr c43
                      have c43b1 : (t126 != t128) = true := bne_iff_ne.mpr c43
                      obtain rfl := Option.some.inj H
                      go_wp2_with (first | ((with_reducible refine gate_callee (f := 18) rfl ?_); refine goesL_ (some 80) rfl rfl Try.func18 (by kernel_rfl) rfl #[.int .i64 a0, .slice A1 l1.length c1] rfl (by (try simp only [List.map_toArray, List.map_cons, List.map_nil]); first | done | rfl | (simp only [List.length_drop, List.length_take]; rfl)) ?_; (with_reducible refine (branch_Count.calls kj27 a0 _ _ l1 t126 t127 _ ?side1 ?side2 A41.out).mono ?_); (case side1 => repeat (first | exact (Kd.C_below HR1.out HB.out) | (with_reducible refine Kd.C_alloc ?_ _) | (with_reducible refine Kd.C_drewN ?_ _) | (with_reducible refine Kd.C_drew ?_))); (case side2 => exact HC1.out); rintro e w51 ⟨rfl, hb⟩; refine ⟨_, rfl, ?_⟩; have n0_ := Aside0.mk (below_step (by repeat (first | (with_reducible first | exact HB.out | apply below_alloc | apply pw_below_drewN | apply below_drew1) | exact HB.out)) hb); clear HB; have HB := n0_; clear n0_; (try clear hb); (try clear hb2); (try clear hk); (try clear hi)) | ((with_reducible refine gate_callee (f := 28) rfl ?_); refine goesL_ (some 86) rfl rfl Try.func28 (by kernel_rfl) rfl #[.int .i64 a0, .slice A1 l1.length c1] rfl (by (try simp only [List.map_toArray, List.map_cons, List.map_nil]); first | done | rfl | (simp only [List.length_drop, List.length_take]; rfl)) ?_; (with_reducible refine (trishawref03_Count.calls kj27 a0 _ _ l1 t128 t129 _ ?side1 ?side2 A42.out).mono ?_); (case side1 => repeat (first | exact (Kd.C_below HR1.out HB.out) | (with_reducible refine Kd.C_alloc ?_ _) | (with_reducible refine Kd.C_drewN ?_ _) | (with_reducible refine Kd.C_drew ?_))); (case side2 => exact HC1.out); rintro e w52 ⟨rfl, hb⟩; refine ⟨_, rfl, ?_⟩; have n0_ := Aside0.mk (below_step (by repeat (first | (with_reducible first | exact HB.out | apply below_alloc | apply pw_below_drewN | apply below_drew1) | exact HB.out)) hb); clear HB; have HB := n0_; clear n0_; (try clear hb); (try clear hb2); (try clear hk); (try clear hi)))
                      go_ret
                      exact ⟨by first | rfl | (simp [errW_none, errW_some] <;> rfl) | (simp [*, errW_none, errW_some] <;> rfl), by repeat (first | (with_reducible first | exact HB.out | apply below_alloc | apply pw_below_drewN | apply below_drew1) | exact HB.out)⟩
end Go.Proofs.Ytpmadffgdfholaa.B
namespace Go.Proofs.Ytpmadffgdfholaa.B
open Go.RowKit Go.ChangeShapes Go.WideShapes Go.Deep Go.Proofs.YtpmadffgdfholaaW.PrintWords Go.Proofs.YtpmadffgdfholaaW.PrintLast Go.Proofs.YtpmadffgdfholaaW.PrintMore
/-- A street's three numbers are whole numbers of 64 bits. -/
def okS30 (x : S30) : Prop := (Lit.int .i64 x.f0).wf = true ∧ (Lit.int .i64 x.f1).wf = true ∧ (Lit.int .i64 x.f2).wf = true
section
variable {H : Type} {enc : TypeId × Value → H} {w : World} {spare : Nat → Bool} {held : Bool}
set_option maxRecDepth 100000 in
theorem open_way {fuel : Nat} {cs : List Value} {x : DataW H × List MemPlace} (h : DataW.trod enc Try.prog w 0 spare held fuel 30 cs = some x) : ∃ s : S30, cs = [.int .i64 s.f0, .int .i64 s.f1, .int .i64 s.f2] ∧ okS30 s := by
  obtain ⟨xs, n, _, _, hlen, hxl, hf⟩ := DataW.trod_struct Try.underlying30 h
  have h30 : Try.prog.cellsOf 30 = 3 := by kernel_rfl
  have h3 : Try.prog.cellsOf 3 = 1 := by kernel_rfl
  rw [h30] at hlen
  match cs, hlen with
  | [c0, c1, c2], _ =>
    have hsz : xs.length = 3 := hxl
    match xs, hsz with
    | [y0, y1, y2], _ =>
      have g0 : DataW.trod enc Try.prog w 0 spare held n 3 (([c0, c1, c2].drop 0).take (Try.prog.cellsOf 3)) = some y0 := hf 0 _ rfl
      have g1 : DataW.trod enc Try.prog w 0 spare held n 3 (([c0, c1, c2].drop 1).take (Try.prog.cellsOf 3)) = some y1 := hf 1 _ rfl
      have g2 : DataW.trod enc Try.prog w 0 spare held n 3 (([c0, c1, c2].drop 2).take (Try.prog.cellsOf 3)) = some y2 := hf 2 _ rfl
      rw [h3] at g0 g1 g2
      obtain ⟨n0, e0, _, w0⟩ := DataW.trod_int Try.underlying3 g0
      obtain ⟨n1, e1, _, w1⟩ := DataW.trod_int Try.underlying3 g1
      obtain ⟨n2, e2, _, w2⟩ := DataW.trod_int Try.underlying3 g2
      obtain rfl : c0 = .int .i64 n0 := by injection e0
      obtain rfl : c1 = .int .i64 n1 := by injection e1
      obtain rfl : c2 = .int .i64 n2 := by injection e2
      exact ⟨⟨n0, n1, n2⟩, rfl, w0, w1, w2⟩
theorem open_ways {a : Option Addr} {len cap : Nat} {d : DataW H} {p : List MemPlace} (h : DataW.Trod enc Try.prog w 0 spare held 22 (.slice a len cap) d p) :
    ∃ l : List S30, Kd.C k30 w a l.length l ∧ l.length = len ∧ len ≤ cap ∧ cap ≤ maxLen ∧ ∀ x ∈ l, okS30 x := by
  obtain ⟨fuel, hf⟩ := h
  rcases open_slice Try.underlying22 hf with ⟨hcs, _⟩ | ⟨x, l, c, m, n, D, Pl, hcs, _, hl, hm, hmm, _, hi⟩
  · simp [Value.cells] at hcs
    obtain ⟨rfl, rfl, rfl⟩ := hcs
    exact ⟨[], ⟨rfl, by simp, fun h => absurd h (by simp)⟩, rfl, Nat.le_refl _, by simp, by simp⟩
  · simp [Value.cells] at hcs
    obtain ⟨rfl, rfl, rfl⟩ := hcs
    have hlm : len ≤ m := by rw [hmm]; split <;> omega
    have h30 : Try.prog.cellsOf 30 = 3 := by kernel_rfl
    rw [h30] at hi
    have hex : ∀ i : Nat, ∃ s : S30, i < len → okS30 s ∧ w.cells? 0 (x.add (i * 3)) 3 = some [.int .i64 s.f0, .int .i64 s.f1, .int .i64 s.f2] := by
      intro i
      by_cases h : i < len
      · obtain ⟨cs', hc, ht⟩ := hi i (by omega)
        obtain ⟨s, rfl, hs⟩ := open_way ht
        exact ⟨s, fun _ => ⟨hs, hc⟩⟩
      · exact ⟨z30, fun h' => absurd h' h⟩
    obtain ⟨f, hf⟩ := Classical.axiomOfChoice hex
    have hll : ((List.range len).map f).length = len := by simp
    refine ⟨(List.range len).map f, ⟨rfl, by rw [hll]; simp only [maxLen] at hm; omega, fun _ => ⟨x, rfl, fun j p hj => ?_⟩⟩, hll, hl, hm, fun y hy => ?_⟩
    · have hjl : j < len := by have := (List.getElem?_eq_some_iff.1 hj).1; rw [hll] at this; exact this
      rw [List.getElem?_map, List.getElem?_range hjl] at hj
      injection hj with hj
      subst hj
      obtain ⟨hs, hc⟩ := hf j hjl
      obtain ⟨_, _, hat⟩ := World.cells?_some hc
      refine ⟨[.int .i64 (f j).f0, .int .i64 (f j).f1, .int .i64 (f j).f2], rfl, k30_mk w (f j), fun i u hu => ?_⟩
      have hi3 : i < 3 := (List.getElem?_eq_some_iff.1 hu).1
      show w.cell? (x.add (j * 3 + i)) = some u
      rw [← Go.Deep.add_add, hat i hi3, hu]
    · obtain ⟨j, hj, rfl⟩ := List.mem_map.1 hy
      exact (hf j (List.mem_range.1 hj)).1
end
end Go.Proofs.Ytpmadffgdfholaa.B
namespace Go.Proofs.Ytpmadffgdfholaa.B
open Go.RowKit Go.Proofs.YtpmadffgdfholaaW.PrintWords Go.Proofs.YtpmadffgdfholaaW.PrintLast Go.Proofs.YtpmadffgdfholaaW.PrintMore
def trishawlaw03_BranchFinds.Pure : Prop := ∀ (a0 : Int) (l1 : List S30), (Lit.int .i64 a0).wf = true → l1.length ≤ maxLen → (∀ x ∈ l1, okS30 x) → ∃ k, trishawlaw03_BranchFinds.f k a0 l1 = some true
theorem trishawlaw03_BranchFinds.walk (P : trishawlaw03_BranchFinds.Pure) (w : World) (a0 : Int) (A1 : Option Addr) (c1 : Nat) (l1 : List S30) (hr1 : Kd.C k30 w A1 l1.length l1) (hc1 : l1.length ≤ c1) (h0_0 : (Lit.int .i64 a0).wf = true) (h1_0 : l1.length ≤ maxLen) (h2_0 : (∀ x ∈ l1, okS30 x)) :
    Calls Try.prog 5 #[.int .i64 a0, .slice A1 l1.length c1] w fun e w' => e = .returned (.bool true) ∧ Below w.heap.size w w' := by
  obtain ⟨k, h⟩ := P a0 l1 h0_0 h1_0 h2_0
  refine (trishawlaw03_BranchFinds.calls k a0 A1 c1 l1 true w hr1 hc1 h).mono ?_
  rintro e w' ⟨rfl, hd⟩
  exact ⟨rfl, hd⟩
end Go.Proofs.Ytpmadffgdfholaa.B
namespace Go.Proofs.Ytpmadffgdfholaa.B
set_option linter.unusedVariables false
theorem get_idx {α : Type} (L : List α) {i j : Nat} (h : i = j) (hi : i < L.length) (hj : j < L.length) : L[i] = L[j] := by subst h; rfl
section
variable {ρ : Type}
/-- The sum along a row, the columns in done being passed. -/
def exD (r : ρ) (D : List (ρ → Int) → Int) : List (ρ → Int) → List (ρ → Int) → Int
  | _, [] => 0
  | done, c :: rest => c r * D (done ++ rest) - exD r D (done ++ [c]) rest
def detC : List ρ → List (ρ → Int) → Int
  | [], [] => 1
  | [], _ :: _ => 0
  | r :: rows, cols => exD r (detC rows) [] cols
theorem exD_swap_done {r : ρ} {D : List (ρ → Int) → Int} {x y : ρ → Int} (hD : ∀ A B, D (A ++ x :: y :: B) = - D (A ++ y :: x :: B)) : ∀ (rest A B : List (ρ → Int)), exD r D (A ++ x :: y :: B) rest = - exD r D (A ++ y :: x :: B) rest
  | [], _, _ => rfl
  | c :: rest, A, B => by
    have ih := exD_swap_done (r := r) hD rest A (B ++ [c])
    have h := hD A (B ++ rest)
    simp only [exD, List.append_assoc, List.cons_append] at ih h ⊢
    rw [ih, h, Int.mul_neg]
    omega
theorem exD_swap {r : ρ} {D : List (ρ → Int) → Int} {x y : ρ → Int} (hD : ∀ A B, D (A ++ x :: y :: B) = - D (A ++ y :: x :: B)) : ∀ (A done B : List (ρ → Int)), exD r D done (A ++ x :: y :: B) = - exD r D done (A ++ y :: x :: B)
  | [], done, B => by
    have h := exD_swap_done (r := r) hD B done []
    simp only [List.nil_append, exD, List.append_assoc, List.cons_append] at h ⊢
    rw [h]
    generalize exD r D (done ++ [y, x]) B = z
    omega
  | a :: A, done, B => by
    have ih := exD_swap (r := r) hD A (done ++ [a]) B
    have h := hD (done ++ A) B
    simp only [List.cons_append, exD, List.append_assoc] at ih h ⊢
    rw [ih, h, Int.mul_neg]
    omega
theorem detC_swap (x y : ρ → Int) : ∀ (rows : List ρ) (A B : List (ρ → Int)), detC rows (A ++ x :: y :: B) = - detC rows (A ++ y :: x :: B)
  | [], A, B => by cases A <;> rfl
  | r :: rows, A, B => exD_swap (detC_swap x y rows) A [] B
theorem detC_twin (x : ρ → Int) (rows : List ρ) (A B : List (ρ → Int)) : detC rows (A ++ x :: x :: B) = 0 := by
  have := detC_swap x x rows A B
  omega
/-- A column that stands further on is moved up. -/
theorem detC_dup (x : ρ → Int) (rows : List ρ) : ∀ (M A B : List (ρ → Int)), detC rows (A ++ x :: M ++ x :: B) = 0
  | [], A, B => by rw [List.append_assoc]; exact detC_twin x rows A B
  | m :: M, A, B => by
    have h1 := detC_swap x m rows A (M ++ x :: B)
    have h2 := detC_dup x rows M (A ++ [m]) B
    simp only [List.append_assoc, List.cons_append, List.nil_append] at h1 h2 ⊢
    rw [h1, h2]; rfl
theorem exD_lin_done {r : ρ} {D : List (ρ → Int) → Int} {u v : ρ → Int} (hD : ∀ A B, D (A ++ (fun z => u z + v z) :: B) = D (A ++ u :: B) + D (A ++ v :: B)) : ∀ (rest A B : List (ρ → Int)), exD r D (A ++ (fun z => u z + v z) :: B) rest = exD r D (A ++ u :: B) rest + exD r D (A ++ v :: B) rest
  | [], _, _ => rfl
  | c :: rest, A, B => by
    have ih := exD_lin_done (r := r) hD rest A (B ++ [c])
    have h := hD A (B ++ rest)
    simp only [exD, List.append_assoc, List.cons_append] at ih h ⊢
    rw [ih, h, Int.mul_add]
    omega
theorem exD_lin {r : ρ} {D : List (ρ → Int) → Int} {u v : ρ → Int} (hD : ∀ A B, D (A ++ (fun z => u z + v z) :: B) = D (A ++ u :: B) + D (A ++ v :: B)) : ∀ (A done B : List (ρ → Int)), exD r D done (A ++ (fun z => u z + v z) :: B) = exD r D done (A ++ u :: B) + exD r D done (A ++ v :: B)
  | [], done, B => by
    have h := exD_lin_done (r := r) hD B done []
    simp only [List.nil_append, exD] at h ⊢
    rw [h, Int.add_mul]
    omega
  | a :: A, done, B => by
    have ih := exD_lin (r := r) hD A (done ++ [a]) B
    have h := hD (done ++ A) B
    simp only [List.cons_append, exD, List.append_assoc] at ih h ⊢
    rw [ih, h, Int.mul_add]
    omega
theorem detC_lin (u v : ρ → Int) : ∀ (rows : List ρ) (A B : List (ρ → Int)), detC rows (A ++ (fun z => u z + v z) :: B) = detC rows (A ++ u :: B) + detC rows (A ++ v :: B)
  | [], A, B => by cases A <;> rfl
  | r :: rows, A, B => exD_lin (detC_lin u v rows) A [] B
theorem detC_zero (rows : List ρ) (A B : List (ρ → Int)) : detC rows (A ++ (fun _ => 0) :: B) = 0 := by
  have := detC_lin (fun _ => 0) (fun _ => 0) rows A B
  simp only [Int.add_zero] at this
  omega
theorem exD_map {σ : Type} (φ : σ → ρ) {r : σ} {D : List (ρ → Int) → Int} {E : List (σ → Int) → Int} (h : ∀ L, D L = E (L.map fun u => u ∘ φ)) : ∀ (rest done : List (ρ → Int)), exD (φ r) D done rest = exD r E (done.map fun u => u ∘ φ) (rest.map fun u => u ∘ φ)
  | [], _ => rfl
  | c :: rest, done => by
    have ih := exD_map φ (r := r) h rest (done ++ [c])
    simp only [exD, List.map_cons, Function.comp]
    rw [h, ih, List.map_append, List.map_append]
    rfl
theorem detC_map {σ : Type} (φ : σ → ρ) : ∀ (rows : List σ) (cols : List (ρ → Int)), detC (rows.map φ) cols = detC rows (cols.map fun u => u ∘ φ)
  | [], [] => rfl
  | [], _ :: _ => rfl
  | r :: rows, cols => exD_map φ (detC_map φ rows) cols []
/-- Columns that say the same of the rows. -/
theorem detC_same : ∀ (rows : List ρ) (C E : List (ρ → Int)), C.length = E.length → (∀ (i : Nat) (h1 : i < C.length) (h2 : i < E.length), ∀ r ∈ rows, C[i] r = E[i] r) → detC rows C = detC rows E
  | [], [], [], _, _ => rfl
  | [], [], _ :: _, h, _ => absurd h (by simp)
  | [], _ :: _, [], h, _ => absurd h (by simp)
  | [], _ :: _, _ :: _, _, _ => rfl
  | r :: rows, C, E, hl, h => by
    have key : ∀ (cs es dc de : List (ρ → Int)), cs.length = es.length → dc.length = de.length → (∀ (i : Nat) (h1 : i < cs.length) (h2 : i < es.length), ∀ q ∈ r :: rows, cs[i] q = es[i] q) → (∀ (i : Nat) (h1 : i < dc.length) (h2 : i < de.length), ∀ q ∈ r :: rows, dc[i] q = de[i] q) → exD r (detC rows) dc cs = exD r (detC rows) de es := by
      intro cs
      induction cs with
      | nil =>
        intro es dc de h1 _ _ _
        cases es with
        | nil => rfl
        | cons _ _ => exact absurd h1 (by simp)
      | cons c cs ih =>
        intro es dc de h1 h2 h3 h4
        cases es with
        | nil => exact absurd h1 (by simp)
        | cons e es =>
          simp only [exD]
          have hce := h3 0 (by simp) (by simp)
          simp only [List.getElem_cons_zero] at hce
          have h3' : ∀ (i : Nat) (g1 : i < cs.length) (g2 : i < es.length), ∀ q ∈ r :: rows, cs[i] q = es[i] q := fun i g1 g2 q hq => by
            have := h3 (i + 1) (by simp; omega) (by simp; omega) q hq
            simpa using this
          have hl1 : cs.length = es.length := by simpa using h1
          rw [hce r List.mem_cons_self]
          rw [detC_same rows (dc ++ cs) (de ++ es) (by simp; omega) fun i g1 g2 q hq => ?_]
          · rw [ih es (dc ++ [c]) (de ++ [e]) hl1 (by simp; omega) h3' fun i g1 g2 q hq => ?_]
            by_cases hi : i < dc.length
            · rw [List.getElem_append_left hi, List.getElem_append_left (by omega)]
              exact h4 i hi (by omega) q hq
            · have : i = dc.length := by simp at g1; omega
              subst this
              rw [List.getElem_append_right (by omega), List.getElem_append_right (by omega)]
              simp
              exact hce q hq
          · by_cases hi : i < dc.length
            · rw [List.getElem_append_left hi, List.getElem_append_left (by omega)]
              exact h4 i hi (by omega) q (List.mem_cons_of_mem _ hq)
            · rw [List.getElem_append_right (by omega), List.getElem_append_right (by omega)]
              have e := h3' (i - dc.length) (by simp at g1; omega) (by simp at g1; omega) q (List.mem_cons_of_mem _ hq)
              rw [e]
              exact congrFun (get_idx es (by omega) _ _) q
    exact key C E [] [] hl rfl h (fun i h1 => absurd h1 (by simp))
end
/-- The determinant of the columns g 1 .. g m at the rows 1 .. m. -/
def detN (m : Nat) (g : Nat → Nat → Int) : Int := detC ((List.range m).map fun j => j + 1) ((List.range m).map fun j => g (j + 1))
def updC (g : Nat → Nat → Int) (c : Nat) (u : Nat → Int) : Nat → Nat → Int := fun d => if d = c then u else g d
theorem range_split (m j : Nat) (h : j < m) : List.range m = List.range j ++ j :: (List.range (m - j - 1)).map fun t => j + 1 + t := by
  refine List.ext_getElem (by simp; omega) fun i h1 h2 => ?_
  rw [List.getElem_range]
  rcases Nat.lt_trichotomy i j with hi | hi | hi
  · rw [List.getElem_append_left (by simpa using hi), List.getElem_range]
  · subst hi
    rw [List.getElem_append_right (by simp)]
    simp
  · rw [List.getElem_append_right (by simp; omega)]
    simp only [List.length_range, List.getElem_cons]
    rw [dif_neg (by omega)]
    simp
    omega
theorem upd_cols (m c : Nat) (g : Nat → Nat → Int) (u : Nat → Int) (h1 : 1 ≤ c) (h2 : c ≤ m) : (List.range m).map (fun j => updC g c u (j + 1)) = ((List.range (c - 1)).map fun j => g (j + 1)) ++ u :: ((List.range (m - c)).map fun t => g (c + 1 + t)) := by
  rw [range_split m (c - 1) (by omega), List.map_append, List.map_cons, List.map_map]
  congr 1
  · refine List.map_congr_left fun j hj => ?_
    have := List.mem_range.1 hj
    unfold updC
    rw [if_neg (by omega)]
  · congr 1
    · unfold updC; rw [if_pos (by omega)]
    · rw [show m - (c - 1) - 1 = m - c by omega]
      refine List.map_congr_left fun t _ => ?_
      simp only [Function.comp, updC]
      rw [if_neg (by omega), show c - 1 + 1 + t + 1 = c + 1 + t by omega]
theorem detN_add (m c : Nat) (g : Nat → Nat → Int) (u v : Nat → Int) (h1 : 1 ≤ c) (h2 : c ≤ m) : detN m (updC g c (fun r => u r + v r)) = detN m (updC g c u) + detN m (updC g c v) := by
  unfold detN
  rw [upd_cols m c g _ h1 h2, upd_cols m c g u h1 h2, upd_cols m c g v h1 h2]
  exact detC_lin u v _ _ _
theorem detN_zero (m c : Nat) (g : Nat → Nat → Int) (h1 : 1 ≤ c) (h2 : c ≤ m) : detN m (updC g c (fun _ => 0)) = 0 := by
  unfold detN
  rw [upd_cols m c g _ h1 h2]
  exact detC_zero _ _ _
theorem updC_self (g : Nat → Nat → Int) (c : Nat) : updC g c (g c) = g := by
  funext d; unfold updC; split
  · rename_i h; rw [h]
  · rfl
theorem detN_dup (m c d : Nat) (g : Nat → Nat → Int) (h1 : 1 ≤ c) (h2 : c ≤ m) (h3 : 1 ≤ d) (h4 : d ≤ m) (hcd : c ≠ d) : detN m (updC g c (g d)) = 0 := by
  unfold detN
  rw [upd_cols m c g _ h1 h2]
  rcases Nat.lt_or_ge d c with h | h
  · rw [range_split (c - 1) (d - 1) (by omega), List.map_append, List.map_cons, show d - 1 + 1 = d by omega, List.append_assoc]
    have := detC_dup (g d) ((List.range m).map fun j => j + 1) (((List.range (c - 1 - (d - 1) - 1)).map fun t => d - 1 + 1 + t).map fun j => g (j + 1)) ((List.range (d - 1)).map fun j => g (j + 1)) ((List.range (m - c)).map fun t => g (c + 1 + t))
    rw [List.append_assoc, List.cons_append] at this
    rw [show d - 1 + 1 = d by omega] at this
    exact this
  · rw [range_split (m - c) (d - c - 1) (by omega), List.map_append, List.map_cons, show c + 1 + (d - c - 1) = d by omega]
    have := detC_dup (g d) ((List.range m).map fun j => j + 1) ((List.range (d - c - 1)).map fun t => g (c + 1 + t)) ((List.range (c - 1)).map fun j => g (j + 1)) (((List.range (m - c - (d - c - 1) - 1)).map fun t => d - c - 1 + 1 + t).map fun t => g (c + 1 + t))
    rw [List.append_assoc, List.cons_append] at this
    exact this
theorem detN_congr (m : Nat) {g h : Nat → Nat → Int} (e : ∀ c r, 1 ≤ c → c ≤ m → 1 ≤ r → r ≤ m → g c r = h c r) : detN m g = detN m h := by
  unfold detN
  refine detC_same _ _ _ (by simp) fun i h1 h2 r hr => ?_
  obtain ⟨j, hj, rfl⟩ := List.mem_map.1 hr
  have := List.mem_range.1 hj
  simp at h1
  simp only [List.getElem_map, List.getElem_range]
  exact e _ _ (by omega) (by omega) (by omega) (by omega)
/-- The columns of the unit table. -/
def unitC (c r : Nat) : Int := if r = c then 1 else 0
theorem exD_none {r : Nat} {D : List (Nat → Int) → Int} : ∀ (rest done : List (Nat → Int)), (∀ c ∈ rest, c r = 0) → exD r D done rest = 0
  | [], _, _ => rfl
  | c :: rest, done, h => by
    simp only [exD]
    rw [h c List.mem_cons_self, exD_none rest _ fun d hd => h d (List.mem_cons_of_mem _ hd)]
    simp
theorem detC_unit : ∀ (L : List Nat), L.Pairwise (· ≠ ·) → detC L (L.map unitC) = 1
  | [], _ => rfl
  | r :: L, h => by
    rw [List.pairwise_cons] at h
    simp only [detC, List.map_cons, exD, List.nil_append]
    rw [detC_unit L h.2, exD_none _ _ fun c hc => ?_]
    · simp [unitC]
    · obtain ⟨d, hd, rfl⟩ := List.mem_map.1 hc
      exact if_neg (h.1 d hd)
theorem detN_unit (m : Nat) : detN m unitC = 1 := by
  unfold detN
  have := detC_unit ((List.range m).map fun j => j + 1) (by
    rw [List.pairwise_map]
    exact List.Pairwise.imp (fun {a b} (h : a ≠ b) => by omega) List.nodup_range)
  rw [List.map_map] at this
  exact this
end Go.Proofs.Ytpmadffgdfholaa.B
namespace Go.Proofs.Ytpmadffgdfholaa.B
open Go.RowKit Go.Proofs.YtpmadffgdfholaaW.PrintWords Go.Proofs.YtpmadffgdfholaaW.PrintLast Go.Proofs.YtpmadffgdfholaaW.PrintMore
theorem wrap_nat (i : Nat) (h : i < 4611686018427387904) : wrap64 ((i : Int) + 1) = ((i + 1 : Nat) : Int) := by unfold wrap64; omega
theorem drop_rd30 (l : List S30) (i : Nat) (h : i < l.length) : l.drop i = rd_T30 l (i : Int) :: l.drop (i + 1) := by
  rw [List.drop_eq_getElem_cons h]
  simp [rd_T30, List.getD, List.getElem?_eq_getElem h]
theorem wayOk_iff (n : Int) (x : S30) : wayOk n x = true ↔ 0 ≤ x.f0 ∧ x.f0 < n ∧ 0 ≤ x.f1 ∧ x.f1 < n ∧ x.f0 ≠ x.f1 ∧ 0 ≤ x.f2 ∧ x.f2 ≤ 1000 := by
  unfold wayOk mn mx
  simp only [Bool.not_eq_true', Bool.or_eq_false_iff, decide_eq_false_iff_not, beq_eq_false_iff_ne]
  constructor
  · rintro ⟨⟨⟨⟨h1, h2⟩, h3⟩, h4⟩, h5⟩
    split at h1 <;> split at h2 <;> refine ⟨?_, ?_, ?_, ?_, h3, ?_, ?_⟩ <;> omega
  · rintro ⟨h1, h2, h3, h4, h5, h6, h7⟩
    refine ⟨⟨⟨⟨?_, ?_⟩, h5⟩, ?_⟩, ?_⟩
    · split <;> omega
    · split <;> omega
    · omega
    · omega
theorem town_l0 (n : Int) (l : List S30) (hl : l.length < 1000000) : ∀ d i k : Nat, i + d = l.length → trishawref03_Town.l0 (k + 2 * d + 1) n l (i : Int) = some (if (l.drop i).all (wayOk n) then 0 else 2)
  | 0, i, k, h => by
    simp only [trishawref03_Town.l0]
    rw [if_neg (by omega), List.drop_eq_nil_of_le (by omega)]
    simp
  | d + 1, i, k, h => by
    have hi : i < l.length := by omega
    rw [show k + 2 * (d + 1) + 1 = (k + 2 * d + 1 + 1) + 1 from by omega, drop_rd30 l i hi]
    simp only [trishawref03_Town.l0, List.all_cons]
    rw [if_pos (by omega), if_pos (by omega)]
    have ih := town_l0 n l hl d (i + 1) k (by omega)
    have hw := wrap_nat i (by omega)
    have j2t : trishawref03_Town.j2 (k + 2 * d + 1 + 1) n l (i : Int) true = some 2 := by simp [trishawref03_Town.j2]
    have j2f : trishawref03_Town.j2 (k + 2 * d + 1 + 1) n l (i : Int) false = some (if (l.drop (i + 1)).all (wayOk n) then 0 else 2) := by
      simp only [trishawref03_Town.j2, Bool.false_eq_true, if_false, hw]
      exact ih
    generalize rd_T30 l (i : Int) = x
    have hx := wayOk_iff n x
    by_cases hok : wayOk n x = true
    · obtain ⟨h1, h2, h3, h4, h5, h6, h7⟩ := hx.1 hok
      rw [if_neg (by omega), if_neg (by omega), if_neg (by omega), if_neg (by omega), if_neg h5, if_neg (by omega), show decide (x.f2 > 1000) = false from decide_eq_false (by omega), j2f]
      simp [hok]
    · have hb : wayOk n x = false := Bool.eq_false_iff.mpr hok
      simp only [hb, Bool.false_and, Bool.false_eq_true, if_false]
      by_cases t1 : x.f0 < 0
      · rw [if_pos t1, j2t]
      rw [if_neg t1]
      by_cases t2 : x.f0 ≥ n
      · rw [if_pos t2, j2t]
      rw [if_neg t2]
      by_cases t3 : x.f1 < 0
      · rw [if_pos t3, j2t]
      rw [if_neg t3]
      by_cases t4 : x.f1 ≥ n
      · rw [if_pos t4, j2t]
      rw [if_neg t4]
      by_cases t5 : x.f0 = x.f1
      · rw [if_pos t5, j2t]
      rw [if_neg t5]
      by_cases t6 : x.f2 < 0
      · rw [if_pos t6, j2t]
      rw [if_neg t6]
      by_cases t7 : x.f2 > 1000
      · rw [show decide (x.f2 > 1000) = true from decide_eq_true t7, j2t]
      · exact absurd (hx.2 ⟨by omega, by omega, by omega, by omega, t5, by omega, by omega⟩) hok
theorem town_eq (n : Int) (l : List S30) (k : Nat) (hk : 2 * l.length + 2 ≤ k ∨ 62 ≤ k) : trishawref03_Town.f k n l = some (readB n l) := by
  have key : ∀ k, (2 * l.length + 2 ≤ k ∨ 62 ≤ k) → ∀ b : Bool, trishawref03_Town.j0 k n l b = some (if b = true then 2 else if 30 < l.length then 3 else if l.all (wayOk n) then 0 else 2) := by
    intro k hk b
    obtain ⟨k, rfl⟩ : ∃ k', k = k' + 1 := ⟨k - 1, by omega⟩
    simp only [trishawref03_Town.j0]
    cases b with
    | true => simp
    | false =>
      simp only [Bool.false_eq_true, if_false]
      by_cases h3 : 30 < l.length
      · rw [if_pos (by omega), if_pos h3]
      · rw [if_neg (by omega), if_neg h3]
        have := town_l0 n l (by omega) l.length 0 (k - 2 * l.length - 1) (by omega)
        rw [show k - 2 * l.length - 1 + 2 * l.length + 1 = k from by omega] at this
        simpa using this
  unfold trishawref03_Town.f readB
  by_cases h1 : n < 2
  · rw [if_pos h1, key k hk, if_pos rfl, if_pos (Or.inl h1)]
  · rw [if_neg h1, key k hk]
    by_cases h2 : n > 7
    · rw [show decide (n > 7) = true from decide_eq_true h2, if_pos rfl, if_pos (Or.inr h2)]
    · rw [show decide (n > 7) = false from decide_eq_false h2, if_neg (show ¬ (false = true) by decide), if_neg (show ¬ (n < 2 ∨ 7 < n) by omega)]
/-- A town that is taken. -/
theorem readB_ok {n : Int} {l : List S30} (h : readB n l = 0) : 2 ≤ n ∧ n ≤ 7 ∧ l.length ≤ 30 ∧ ∀ x ∈ l, wayOk n x = true := by
  unfold readB at h
  split at h
  · exact absurd h (by decide)
  split at h
  · exact absurd h (by decide)
  split at h
  · rename_i h1 h2 h3
    exact ⟨by omega, by omega, by omega, List.all_eq_true.1 h3⟩
  · exact absurd h (by decide)
end Go.Proofs.Ytpmadffgdfholaa.B
namespace Go.Proofs.Ytpmadffgdfholaa.B
open Go.RowKit Go.Proofs.YtpmadffgdfholaaW.PrintWords Go.Proofs.YtpmadffgdfholaaW.PrintLast Go.Proofs.YtpmadffgdfholaaW.PrintMore
def cnt (s : Nat) : Nat := ((List.range 7).filter fun b => s.testBit b).length
theorem fin_and : ∀ s : Fin 128, ∀ a : Fin 7, (Go.bits .and .i64 (shr .i64 ((s.val : Nat) : Int) ((a.val : Nat) : Int)) 1 = 1) ↔ s.val.testBit a.val = true := by decide +kernel
theorem fin_or : ∀ s : Fin 128, ∀ a : Fin 7, Go.bits .or .i64 ((s.val : Nat) : Int) (shl .i64 1 ((a.val : Nat) : Int)) = ((s.val ||| (1 <<< a.val) : Nat) : Int) := by decide +kernel
theorem fin_mod : ∀ s : Fin 128, ∀ a : Fin 7, Int.tmod (shr .i64 ((s.val : Nat) : Int) ((a.val : Nat) : Int)) 2 = if s.val.testBit a.val then 1 else 0 := by decide +kernel
theorem fin_add : ∀ s : Fin 128, ∀ a : Fin 7, s.val.testBit a.val = false → wrap64 (((s.val : Nat) : Int) + shl .i64 1 ((a.val : Nat) : Int)) = ((s.val ||| (1 <<< a.val) : Nat) : Int) := by decide +kernel
theorem fin_lt : ∀ n : Fin 8, ∀ s : Fin 128, ∀ a : Fin 7, s.val < 2 ^ n.val → a.val < n.val → s.val ||| (1 <<< a.val) < 2 ^ n.val := by decide +kernel
theorem fin_cnt : ∀ s : Fin 128, ∀ a : Fin 7, s.val.testBit a.val = false → cnt (s.val ||| (1 <<< a.val)) = cnt s.val + 1 := by decide +kernel
theorem fin_same : ∀ s : Fin 128, ∀ a : Fin 7, s.val.testBit a.val = true → s.val ||| (1 <<< a.val) = s.val := by decide +kernel
theorem fin_le : ∀ n : Fin 8, ∀ s : Fin 128, s.val < 2 ^ n.val → cnt s.val ≤ n.val := by decide +kernel
/-- A set that a street has been gone along. -/
def stepS (s : Nat) (x : S30) : Nat := if s.testBit x.f0.toNat then s ||| (1 <<< x.f1.toNat) else s
def passS (l : List S30) (L : List Int) (s : Nat) : Nat := L.foldl (fun s i => stepS s (rd_T30 l i)) s
def itS (l : List S30) (L : List Int) : Nat → Nat → Nat
  | 0, s => s
  | d + 1, s => itS l L d (passS l L s)
theorem it_fix {l : List S30} {L : List Int} {s : Nat} (h : passS l L s = s) : ∀ d, itS l L d s = s
  | 0 => rfl
  | d + 1 => by rw [itS, h]; exact it_fix h d
section
variable {n : Nat} {l : List S30} {L : List Int}
theorem step_facts (hn : n ≤ 7) {s : Nat} (hs : s < 2 ^ n) {x : S30} (hx : wayOk n x = true) : stepS s x < 2 ^ n ∧ (stepS s x = s ∨ cnt (stepS s x) = cnt s + 1) := by
  obtain ⟨h1, h2, h3, h4, _⟩ := (wayOk_iff n x).1 hx
  have h128 : s < 128 := Nat.lt_of_lt_of_le hs (show 2 ^ n ≤ 2 ^ 7 from Nat.pow_le_pow_right (by decide) hn)
  unfold stepS
  split
  · refine ⟨fin_lt ⟨n, by omega⟩ ⟨s, h128⟩ ⟨x.f1.toNat, by omega⟩ hs (by simp only []; omega), ?_⟩
    cases hb : s.testBit x.f1.toNat with
    | true => exact .inl (fin_same ⟨s, h128⟩ ⟨x.f1.toNat, by omega⟩ hb)
    | false => exact .inr (fin_cnt ⟨s, h128⟩ ⟨x.f1.toNat, by omega⟩ hb)
  · exact ⟨hs, .inl rfl⟩
/-- The indices of a list are streets, and the streets are streets of the town. -/
def InL (n : Nat) (l : List S30) (L : List Int) : Prop := ∀ i ∈ L, 0 ≤ i ∧ i < (l.length : Int) ∧ wayOk n (rd_T30 l i) = true
theorem pass_facts (hn : n ≤ 7) : ∀ (L : List Int), InL n l L → ∀ s, s < 2 ^ n → passS l L s < 2 ^ n ∧ (passS l L s = s ∨ cnt s < cnt (passS l L s))
  | [], _, s, hs => ⟨hs, .inl rfl⟩
  | i :: L, hL, s, hs => by
    obtain ⟨a1, a2⟩ := step_facts hn hs (hL i List.mem_cons_self).2.2
    obtain ⟨b1, b2⟩ := pass_facts hn L (fun j hj => hL j (List.mem_cons_of_mem _ hj)) _ a1
    refine ⟨b1, ?_⟩
    show passS l L (stepS s (rd_T30 l i)) = s ∨ cnt s < cnt (passS l L (stepS s (rd_T30 l i)))
    rcases a2 with a2 | a2
    · rw [a2] at b2 ⊢
      exact b2
    · rcases b2 with b2 | b2
      · rw [b2]; exact .inr (by omega)
      · exact .inr (by omega)
theorem it_lt (hn : n ≤ 7) (hL : InL n l L) : ∀ d s, s < 2 ^ n → itS l L d s < 2 ^ n
  | 0, _, h => h
  | d + 1, s, h => it_lt hn hL d _ (pass_facts hn L hL s h).1
/-- Enough rounds are enough. -/
theorem it_stop (hn : n ≤ 7) (hL : InL n l L) : ∀ c s, s < 2 ^ n → n ≤ cnt s + c → itS l L (c + 1) s = itS l L c s
  | 0, s, hs, h => by
    rcases (pass_facts hn L hL s hs).2 with e | e
    · exact it_fix e 1
    · have := fin_le ⟨n, by omega⟩ ⟨passS l L s, Nat.lt_of_lt_of_le (pass_facts hn L hL s hs).1 (show 2 ^ n ≤ 2 ^ 7 from Nat.pow_le_pow_right (by decide) hn)⟩ (pass_facts hn L hL s hs).1
      simp only [] at this
      omega
  | c + 1, s, hs, h => by
    rcases (pass_facts hn L hL s hs).2 with e | e
    · rw [it_fix e, it_fix e]
    · show itS l L (c + 1) (passS l L s) = itS l L c (passS l L s)
      exact it_stop hn hL c _ (pass_facts hn L hL s hs).1 (by omega)
theorem drop_rdI4 (ps : List Int) (i : Nat) (h : i < ps.length) : ps.drop i = rd ps (i : Int) :: ps.drop (i + 1) := by
  rw [List.drop_eq_getElem_cons h]
  simp [rd, List.getD, List.getElem?_eq_getElem h]
theorem rd_mem4 (cols : List Int) (p : Nat) (h : p < cols.length) : rd cols (p : Int) ∈ cols := by
  simp [rd, List.getD, List.getElem?_eq_getElem h]
theorem int_nat {a : Int} (h : 0 ≤ a) : a = ((a.toNat : Nat) : Int) := by omega
/-- One round of the code's. -/
theorem reach_l1 (hn : n ≤ 7) (hL : InL n l L) (hl : L.length < 1000) (N j : Int) : ∀ (d q k s : Nat), q + d = L.length → s < 2 ^ n →
    branch_town_reach.l1 (k + d + 1) L (s : Int) N j L (L.length : Int) (q : Int) (n : Int) l = branch_town_reach.l0 k L ((passS l (L.drop q) s : Nat) : Int) N (wrap64 (j + 1)) (n : Int) l
  | 0, q, k, s, h, _ => by
    simp only [branch_town_reach.l1]
    rw [if_neg (by omega), List.drop_eq_nil_of_le (by omega)]
    rfl
  | d + 1, q, k, s, h, hs => by
    have hq : q < L.length := by omega
    have hw := wrap_nat q (by omega)
    obtain ⟨i0, i1, hx⟩ := hL _ (rd_mem4 L q hq)
    have ih := reach_l1 hn hL hl N j d (q + 1) k (stepS s (rd_T30 l (rd L (q : Int)))) (by omega) (step_facts hn hs hx).1
    have h128 : s < 128 := Nat.lt_of_lt_of_le hs (show 2 ^ n ≤ 2 ^ 7 from Nat.pow_le_pow_right (by decide) hn)
    rw [drop_rdI4 L q hq]
    show _ = branch_town_reach.l0 k L ((passS l (L.drop (q + 1)) (stepS s (rd_T30 l (rd L (q : Int)))) : Nat) : Int) N (wrap64 (j + 1)) (n : Int) l
    rw [← ih, show k + (d + 1) + 1 = (k + d + 1) + 1 from by omega]
    clear ih
    generalize k + d + 1 = qq
    simp only [branch_town_reach.l1, hw]
    rw [if_pos (by omega), if_pos (by omega), if_pos (by omega), if_pos i0, if_pos i1]
    generalize rd_T30 l (rd L (q : Int)) = x at hx
    obtain ⟨h1, h2, h3, h4, _⟩ := (wayOk_iff n x).1 hx
    have f1 := fin_and ⟨s, h128⟩ ⟨x.f0.toNat, by omega⟩
    have f2 := fin_or ⟨s, h128⟩ ⟨x.f1.toNat, by omega⟩
    simp only [← int_nat h1, ← int_nat h3] at f1 f2
    rw [if_pos h1]
    unfold stepS
    by_cases t : s.testBit x.f0.toNat = true
    · rw [if_pos (f1.2 t), if_pos h3, if_pos t, f2]
    · rw [if_neg (fun hh => t (f1.1 hh)), if_neg t]
theorem reach_l0 (hn : n ≤ 7) (hL : InL n l L) (hl : L.length < 1000) : ∀ (d j k s : Nat), j + d = n → s < 2 ^ n →
    branch_town_reach.l0 (k + (L.length + 2) * d + 1) L (s : Int) (n : Int) (j : Int) (n : Int) l = some ((itS l L d s : Nat) : Int)
  | 0, j, k, s, h, _ => by
    simp only [branch_town_reach.l0, Nat.mul_zero, Nat.add_zero]
    rw [if_neg (by omega)]
    rfl
  | d + 1, j, k, s, h, hs => by
    have hw := wrap_nat j (by omega)
    have ih := reach_l0 hn hL hl d (j + 1) k (passS l L s) (by omega) (pass_facts hn L hL s hs).1
    have h1 := reach_l1 hn hL hl (n : Int) (j : Int) L.length 0 (k + (L.length + 2) * d + 1) s (by omega) hs
    rw [show k + (L.length + 2) * (d + 1) + 1 = (k + (L.length + 2) * d + 1 + L.length + 1) + 1 from by rw [Nat.mul_succ]; omega]
    generalize hq : k + (L.length + 2) * d + 1 + L.length + 1 = qq at h1
    simp only [branch_town_reach.l0]
    rw [if_pos (by omega)]
    rw [List.drop_zero, hw] at h1
    exact h1.trans ih
/-- One round of the reference's. -/
theorem reached_l1 (hn : n ≤ 7) (hL : InL n l L) (hl : L.length < 1000) : ∀ (d q k s : Nat) (g : Bool), q + d = L.length → s < 2 ^ n →
    trishawref03_reached.l1 (k + d + 1) l L (s : Int) g (q : Int) = trishawref03_reached.l0 k l L ((passS l (L.drop q) s : Nat) : Int) (g || decide (passS l (L.drop q) s ≠ s))
  | 0, q, k, s, g, h, _ => by
    simp only [trishawref03_reached.l1]
    rw [if_neg (by omega), List.drop_eq_nil_of_le (by omega)]
    simp [passS]
  | d + 1, q, k, s, g, h, hs => by
    have hq : q < L.length := by omega
    have hw := wrap_nat q (by omega)
    obtain ⟨i0, i1, hx⟩ := hL _ (rd_mem4 L q hq)
    have sf := step_facts hn hs hx
    have ih := fun g => reached_l1 hn hL hl d (q + 1) k (stepS s (rd_T30 l (rd L (q : Int)))) g (by omega) sf.1
    have pf := pass_facts (l := l) hn (L.drop (q + 1)) (fun i hi => hL i (List.mem_of_mem_drop hi)) _ sf.1
    have h128 : s < 128 := Nat.lt_of_lt_of_le hs (show 2 ^ n ≤ 2 ^ 7 from Nat.pow_le_pow_right (by decide) hn)
    rw [drop_rdI4 L q hq]
    show _ = trishawref03_reached.l0 k l L ((passS l (L.drop (q + 1)) (stepS s (rd_T30 l (rd L (q : Int)))) : Nat) : Int) (g || decide (passS l (L.drop (q + 1)) (stepS s (rd_T30 l (rd L (q : Int)))) ≠ s))
    rw [show k + (d + 1) + 1 = (k + d + 1) + 1 from by omega]
    generalize k + d + 1 = qq at ih
    simp only [trishawref03_reached.l1, hw]
    rw [if_pos (by omega), if_pos (by omega), if_pos i0, if_pos i1]
    generalize rd_T30 l (rd L (q : Int)) = x at hx ih sf pf
    obtain ⟨h1, h2, h3, h4, _⟩ := (wayOk_iff n x).1 hx
    have f1 := fin_mod ⟨s, h128⟩ ⟨x.f0.toNat, by omega⟩
    have f2 := fin_mod ⟨s, h128⟩ ⟨x.f1.toNat, by omega⟩
    have f3 := fin_add ⟨s, h128⟩ ⟨x.f1.toNat, by omega⟩
    have f4 := fin_same ⟨s, h128⟩ ⟨x.f1.toNat, by omega⟩
    have f5 := fin_cnt ⟨s, h128⟩ ⟨x.f1.toNat, by omega⟩
    simp only [← int_nat h1, ← int_nat h3] at f1 f2 f3 f4 f5
    rw [if_pos h1, f1]
    unfold stepS at ih sf pf ⊢
    by_cases t : s.testBit x.f0.toNat = true
    · simp only [t, if_true] at ih sf pf ⊢
      rw [if_pos h3, f2]
      cases tb : s.testBit x.f1.toNat with
      | true =>
        rw [f4 tb] at ih ⊢
        rw [if_neg (by decide)]
        exact ih g
      | false =>
        rw [if_pos (by decide), f3 tb, ih true]
        have hne : passS l (L.drop (q + 1)) (s ||| 1 <<< x.f1.toNat) ≠ s := by
          intro hh
          have := f5 tb
          rcases pf.2 with e | e
          · rw [e] at hh; rw [hh] at this; omega
          · rw [hh] at e; omega
        simp [hne]
    · simp only [t, if_false, Bool.false_eq_true] at ih sf pf ⊢
      rw [if_neg (by decide)]
      exact ih g
theorem reached_l0 (hn : n ≤ 7) (hL : InL n l L) (hl : L.length < 1000) : ∀ (c k s : Nat), s < 2 ^ n → n ≤ cnt s + c →
    trishawref03_reached.l0 (k + (L.length + 2) * (c + 1) + 1) l L (s : Int) true = some ((itS l L c s : Nat) : Int)
  | c, k, s, hs, h => by
    have h1 := reached_l1 hn hL hl L.length 0 (k + (L.length + 2) * c + 1) s false (by omega) hs
    rw [show k + (L.length + 2) * (c + 1) + 1 = (k + (L.length + 2) * c + 1 + L.length + 1) + 1 from by rw [Nat.mul_succ]; omega]
    generalize hq : k + (L.length + 2) * c + 1 + L.length + 1 = qq at h1
    simp only [trishawref03_reached.l0, if_true]
    rw [List.drop_zero] at h1
    refine h1.trans ?_
    have pf := pass_facts hn L hL s hs
    by_cases e : passS l L s = s
    · rw [e, it_fix e]
      simp only [ne_eq, not_true_eq_false, decide_false, Bool.or_false]
      simp only [trishawref03_reached.l0]
      rfl
    · simp only [ne_eq, e, not_false_eq_true, decide_true, Bool.or_true]
      cases c with
      | zero =>
        have := it_stop hn hL 0 s hs (by omega)
        exact absurd this e
      | succ c =>
        have := reached_l0 hn hL hl c k (passS l L s) pf.1 (by rcases pf.2 with e2 | e2; exact absurd e2 e; omega)
        exact this
end
/-- Both closures. -/
theorem reach_both {n : Nat} {l : List S30} {L : List Int} (hn2 : 1 ≤ n) (hn : n ≤ 7) (hL : InL n l L) (hl : L.length < 1000) :
    ∃ r : Nat, r < 2 ^ n ∧ ∃ K, ∀ k, K ≤ k → branch_town_reach.f k (n : Int) l L = some (r : Int) ∧ trishawref03_reached.f k l L = some (r : Int) := by
  have h1 : (1 : Nat) < 2 ^ n := Nat.one_lt_two_pow (by omega)
  have hc : cnt 1 = 1 := by decide +kernel
  refine ⟨itS l L n 1, it_lt hn hL n 1 h1, (L.length + 2) * (n + 1) + 1, fun k hk => ⟨?_, ?_⟩⟩
  · have := reach_l0 hn hL hl n 0 (k - (L.length + 2) * n - 1) 1 (by omega) h1
    rw [show k - (L.length + 2) * n - 1 + (L.length + 2) * n + 1 = k from by have : (L.length + 2) * (n + 1) = (L.length + 2) * n + (L.length + 2) := Nat.mul_succ _ _; omega] at this
    exact this
  · have := reached_l0 hn hL hl n (k - (L.length + 2) * (n + 1) - 1) 1 h1 (by omega)
    rw [show k - (L.length + 2) * (n + 1) - 1 + (L.length + 2) * (n + 1) + 1 = k from by omega] at this
    exact this
end Go.Proofs.Ytpmadffgdfholaa.B
namespace Go.Proofs.Ytpmadffgdfholaa.B
open Go.RowKit Go.Proofs.YtpmadffgdfholaaW.PrintWords Go.Proofs.YtpmadffgdfholaaW.PrintLast Go.Proofs.YtpmadffgdfholaaW.PrintMore
attribute [local go_sem] max2_int min2_int max_two min_two max_three min_three max_four min_four   -- for this text's walks alone
set_option linter.unusedVariables false
set_option linter.unusedSimpArgs false
def branch_Reach.f (k : Nat) (a0 : Int) (l1 : List (S30)) : Option (Int × Int) := (branch_read.f a0 l1).bind fun t101 => (if t101 = 0 then ((branch_town_all.f k a0 l1).bind fun t103 => ((branch_town_reach.f k a0 l1 t103).bind fun t106 => (some (t106, 0)))) else (some (0, t101)))
def branch_Is.f (k : Nat) (a0 : Int) (l1 : List (S30)) (l2 : List Int) : Option (Int × Bool × Int) := (branch_read.f a0 l1).bind fun t113 => (if t113 = 0 then ((branch_town_is.f k a0 l1 l2).bind fun bt115 => (some (bt115.1, bt115.2, 0))) else (some (0, false, t113)))
end Go.Proofs.Ytpmadffgdfholaa.B
namespace Go.Proofs.Ytpmadffgdfholaa.B
open Go.RowKit Go.Proofs.YtpmadffgdfholaaW.PrintWords Go.Proofs.YtpmadffgdfholaaW.PrintLast Go.Proofs.YtpmadffgdfholaaW.PrintMore
def idx (l : List S30) : List Int := (List.range l.length).map fun q : Nat => (q : Int)
theorem idx_length (l : List S30) : (idx l).length = l.length := by simp [idx]
theorem all_code (l : List S30) (hl : l.length < 1000) : ∀ (d i k : Nat), i + d = l.length → branch_town_all.l0 (k + d + 1) ((List.range i).map fun q : Nat => (q : Int)) (l.length : Int) (i : Int) = some (idx l)
  | 0, i, k, h => by
    obtain rfl : i = l.length := by omega
    simp only [branch_town_all.l0]
    rw [if_neg (by omega)]
    rfl
  | d + 1, i, k, h => by
    have ih := all_code l hl d (i + 1) k (by omega)
    have hw := wrap_nat i (by omega)
    rw [← ih, show k + (d + 1) + 1 = (k + d + 1) + 1 from by omega]
    clear ih
    generalize k + d + 1 = qq
    simp only [branch_town_all.l0, hw]
    rw [if_pos (by omega), if_pos (by simp; omega), List.range_succ, List.map_append]
    rfl
theorem all_ref (l : List S30) (hl : l.length < 1000) : ∀ (d i k : Nat), i + d = l.length → trishawref03_all.l0 (k + d + 1) l ((List.range i).map fun q : Nat => (q : Int)) (i : Int) = some (idx l)
  | 0, i, k, h => by
    obtain rfl : i = l.length := by omega
    simp only [trishawref03_all.l0]
    rw [if_neg (by omega)]
    rfl
  | d + 1, i, k, h => by
    have ih := all_ref l hl d (i + 1) k (by omega)
    have hw := wrap_nat i (by omega)
    rw [← ih, show k + (d + 1) + 1 = (k + d + 1) + 1 from by omega]
    clear ih
    generalize k + d + 1 = qq
    simp only [trishawref03_all.l0, hw]
    rw [if_pos (by omega), if_pos (by simp; omega), List.range_succ, List.map_append]
    rfl
theorem rd_T30_mem (l : List S30) (i : Nat) (h : i < l.length) : rd_T30 l (i : Int) ∈ l := by
  simp [rd_T30, List.getD, List.getElem?_eq_getElem h]
theorem idx_in {n : Nat} {l : List S30} (hx : ∀ x ∈ l, wayOk n x = true) : InL n l (idx l) := by
  intro i hi
  obtain ⟨q, hq, rfl⟩ := List.mem_map.1 hi
  have := List.mem_range.1 hq
  exact ⟨by omega, by omega, hx _ (rd_T30_mem l q this)⟩
theorem reach_eq (n : Int) (l : List S30) : ∃ r t : Int, ∃ K, ∀ k, K ≤ k → branch_Reach.f k n l = some (r, t) ∧ trishawref03_Reach.f k n l = some (r, t) := by
  by_cases hr : readB n l = 0
  · obtain ⟨h2, h7, h30, hx⟩ := readB_ok hr
    obtain ⟨m, rfl⟩ := Int.eq_ofNat_of_zero_le (show 0 ≤ n by omega)
    obtain ⟨r, _, K, hK⟩ := reach_both (n := m) (l := l) (L := idx l) (by omega) (by omega) (idx_in hx) (by rw [idx_length]; omega)
    refine ⟨r, 0, K + l.length + 100, fun k hk => ?_⟩
    obtain ⟨a, b⟩ := hK k (by omega)
    have c1 := all_code l (by omega) l.length 0 (k - l.length - 1) (by omega)
    have c2 := all_ref l (by omega) l.length 0 (k - l.length - 1) (by omega)
    rw [show k - l.length - 1 + l.length + 1 = k from by omega] at c1 c2
    replace c1 : branch_town_all.l0 k [] (l.length : Int) 0 = some (idx l) := c1
    replace c2 : trishawref03_all.l0 k l [] 0 = some (idx l) := c2
    unfold branch_Reach.f trishawref03_Reach.f branch_read.f branch_town_all.f trishawref03_all.f
    rw [town_eq _ _ k (.inr (by omega)), hr]
    simp only [Option.bind_some, if_true]
    rw [c1, c2, Option.bind_some, Option.bind_some, a, b]
    exact ⟨rfl, rfl⟩
  · refine ⟨0, readB n l, 100, fun k hk => ?_⟩
    unfold branch_Reach.f trishawref03_Reach.f branch_read.f
    rw [town_eq _ _ k (.inr (by omega)), Option.bind_some, Option.bind_some]
    exact ⟨by rw [if_neg hr], by rw [if_neg hr]⟩
theorem fin_and0 : ∀ s : Fin 128, ∀ a : Fin 7, (Go.bits .and .i64 (shr .i64 ((s.val : Nat) : Int) ((a.val : Nat) : Int)) 1 = 0) ↔ s.val.testBit a.val = false := by decide +kernel
theorem fin_shl : ∀ n : Fin 8, shl .i64 1 ((n.val : Nat) : Int) = ((2 ^ n.val : Nat) : Int) := by decide +kernel
/-- The streets that enter, from street i on. -/
def entR (l : List S30) (s : Nat) : Nat → Nat → List Int → List Int
  | 0, _, acc => acc
  | d + 1, i, acc => entR l s d (i + 1) (if s.testBit (rd_T30 l (i : Int)).f0.toNat = false ∧ s.testBit (rd_T30 l (i : Int)).f1.toNat = true then acc ++ [(i : Int)] else acc)
section
variable {n : Int} {l : List S30} {s : Nat}
theorem ent_code (hn : n ≤ 7) (hl : l.length < 1000) (hx : ∀ x ∈ l, wayOk n x = true) (hs : s < 128) : ∀ (d i k : Nat) (acc : List Int), i + d = l.length → acc.length ≤ i →
    branch_town_entering.l0 (k + d + 1) (s : Int) acc l (l.length : Int) (i : Int) = some (entR l s d i acc)
  | 0, i, k, acc, h, _ => by
    simp only [branch_town_entering.l0]
    rw [if_neg (by omega)]
    rfl
  | d + 1, i, k, acc, h, ha => by
    have hi : i < l.length := by omega
    have hw := wrap_nat i (by omega)
    have hok := hx _ (rd_T30_mem l i hi)
    have ih := fun acc ha => ent_code hn hl hx hs d (i + 1) k acc (by omega) ha
    rw [show k + (d + 1) + 1 = (k + d + 1) + 1 from by omega]
    generalize k + d + 1 = qq at ih
    simp only [branch_town_entering.l0, hw, entR]
    rw [if_pos (by omega), if_pos (by omega), if_pos (by omega)]
    generalize rd_T30 l (i : Int) = x at hok
    obtain ⟨h1, h2, h3, h4, _⟩ := (wayOk_iff n x).1 hok
    have f1 := fin_and0 ⟨s, hs⟩ ⟨x.f0.toNat, by omega⟩
    have f2 := fin_and ⟨s, hs⟩ ⟨x.f1.toNat, by omega⟩
    simp only [← int_nat h1, ← int_nat h3] at f1 f2
    rw [if_pos h1]
    by_cases t0 : s.testBit x.f0.toNat = false
    · rw [if_pos (f1.2 t0), if_pos h3]
      by_cases t1 : s.testBit x.f1.toNat = true
      · rw [if_pos (f2.2 t1), if_pos (by omega), if_pos ⟨t0, t1⟩]
        exact ih _ (by simp; omega)
      · rw [if_neg (fun hh => t1 (f2.1 hh)), if_neg (fun hh => t1 hh.2)]
        exact ih _ (by omega)
    · rw [if_neg (fun hh => t0 (f1.1 hh)), if_neg (fun hh => t0 hh.1)]
      exact ih _ (by omega)
end
theorem same_self (E : List Int) (hE : E.length ≤ 1000) : ∀ (d i k : Nat), i + d = E.length → trishawlaw03_same.l0 (k + d + 1) E E (i : Int) = some true
  | 0, i, k, h => by
    simp only [trishawlaw03_same.l0]
    rw [if_neg (by omega)]
  | d + 1, i, k, h => by
    have hw := wrap_nat i (by omega)
    have ih := same_self E hE d (i + 1) k (by omega)
    rw [show k + (d + 1) + 1 = (k + d + 1) + 1 from by omega]
    generalize k + d + 1 = qq at ih
    simp only [trishawlaw03_same.l0, hw]
    rw [if_pos (by omega), if_pos (by omega), if_pos (by omega)]
    simpa using ih
end Go.Proofs.Ytpmadffgdfholaa.B
namespace Go.Proofs.Ytpmadffgdfholaa.B
/-- Corners that are reached from s along streets of T. -/
inductive Rc (a b : Nat → Nat) (T : Nat → Prop) (s : Nat) : Nat → Prop
  | refl : Rc a b T s s
  | step {i : Nat} : T i → Rc a b T s (a i) → Rc a b T s (b i)
/-- The same, in k steps. -/
inductive Rk (a b : Nat → Nat) (T : Nat → Prop) (s : Nat) : Nat → Nat → Prop
  | refl : Rk a b T s 0 s
  | step {i k : Nat} : T i → Rk a b T s k (a i) → Rk a b T s (k + 1) (b i)
section
variable {n : Nat} {a b : Nat → Nat} {T U : Nat → Prop} {s c d : Nat}
theorem Rc.mono (h : ∀ i, T i → U i) (r : Rc a b T s c) : Rc a b U s c := by
  induction r with
  | refl => exact .refl
  | step t _ ih => exact .step (h _ t) ih
theorem Rc.trans (r : Rc a b T s c) (q : Rc a b T c d) : Rc a b T s d := by
  induction q with
  | refl => exact r
  | step t _ ih => exact .step t ih
theorem Rc.one {i : Nat} (t : T i) : Rc a b T (a i) (b i) := .step t .refl
theorem Rc.rk (r : Rc a b T s c) : ∃ k, Rk a b T s k c := by
  induction r with
  | refl => exact ⟨0, .refl⟩
  | step t _ ih => obtain ⟨k, h⟩ := ih; exact ⟨k + 1, .step t h⟩
/-- What is closed under the streets and has s has all that is reached. -/
theorem Rc.closed {S : Nat → Prop} (hs : S s) (h : ∀ i, T i → S (a i) → S (b i)) (r : Rc a b T s c) : S c := by
  induction r with
  | refl => exact hs
  | step t _ ih => exact h _ t ih
theorem least_nat {P : Nat → Prop} (h : ∃ k, P k) : ∃ k, P k ∧ ∀ j, j < k → ¬ P j := by
  obtain ⟨k, hk⟩ := h
  induction k using Nat.strongRecOn with
  | _ k ih =>
    by_cases hj : ∃ j, j < k ∧ P j
    · obtain ⟨j, h1, h2⟩ := hj; exact ih j h1 h2
    · exact ⟨k, hk, fun j h1 h2 => hj ⟨j, h1, h2⟩⟩
/-- A branching: the street that leads to each corner but 0. -/
structure IsB (n : Nat) (a b : Nat → Nat) (T : Nat → Prop) (f : Nat → Nat) : Prop where
  on : ∀ c, 0 < c → c < n → T (f c) ∧ b (f c) = c
  all : ∀ c, c < n → Rc a b (fun i => ∃ c, 0 < c ∧ c < n ∧ i = f c) 0 c
theorem IsB.mono {f : Nat → Nat} (h : IsB n a b T f) (hT : ∀ i, T i → U i) : IsB n a b U f :=
  ⟨fun c h0 h1 => ⟨hT _ (h.on c h0 h1).1, (h.on c h0 h1).2⟩, h.all⟩
theorem IsB.within {f : Nat → Nat} (h : IsB n a b T f) (hU : ∀ c, 0 < c → c < n → U (f c)) : IsB n a b U f :=
  ⟨fun c h0 h1 => ⟨hU c h0 h1, (h.on c h0 h1).2⟩, h.all⟩
theorem IsB.congr {f g : Nat → Nat} (h : IsB n a b T f) (e : ∀ c, 0 < c → c < n → f c = g c) : IsB n a b T g :=
  ⟨fun c h0 h1 => e c h0 h1 ▸ h.on c h0 h1, fun c hc => (h.all c hc).mono fun _ ⟨c, h0, h1, q⟩ => ⟨c, h0, h1, q.trans (e c h0 h1)⟩⟩
/-- If all corners are reached, there is a branching. -/
theorem exists_branching (hT : ∀ i, T i → a i < n) (h : ∀ c, c < n → Rc a b T 0 c) : ∃ f, IsB n a b T f := by
  have hd : ∀ c, ∃ k, c < n → Rk a b T 0 k c ∧ ∀ j, j < k → ¬ Rk a b T 0 j c := by
    intro c
    by_cases hc : c < n
    · obtain ⟨k, hk⟩ := least_nat (h c hc).rk
      exact ⟨k, fun _ => hk⟩
    · exact ⟨0, fun h => absurd h hc⟩
  obtain ⟨d, hd⟩ : ∃ d : Nat → Nat, ∀ c, c < n → Rk a b T 0 (d c) c ∧ ∀ j, j < d c → ¬ Rk a b T 0 j c :=
    ⟨fun c => Classical.choose (hd c), fun c => Classical.choose_spec (hd c)⟩
  have hs : ∀ c, ∃ i, 0 < c → c < n → T i ∧ b i = c ∧ a i < n ∧ d (a i) < d c := by
    intro c
    by_cases hc : 0 < c ∧ c < n
    · obtain ⟨h1, h2⟩ := hd c hc.2
      generalize hk : d c = k at h1 h2
      cases h1 with
      | refl => omega
      | @step i k t r =>
        refine ⟨i, fun _ _ => ⟨t, rfl, hT i t, ?_⟩⟩
        have hq : ¬ k < d (a i) := fun hlt => (hd (a i) (hT i t)).2 k hlt r
        omega
    · exact ⟨0, fun h1 h2 => absurd ⟨h1, h2⟩ hc⟩
  obtain ⟨f, hf⟩ : ∃ f : Nat → Nat, ∀ c, 0 < c → c < n → T (f c) ∧ b (f c) = c ∧ a (f c) < n ∧ d (a (f c)) < d c :=
    ⟨fun c => Classical.choose (hs c), fun c => Classical.choose_spec (hs c)⟩
  refine ⟨f, fun c h0 h1 => ⟨(hf c h0 h1).1, (hf c h0 h1).2.1⟩, ?_⟩
  have key : ∀ k c, c < n → d c ≤ k → Rc a b (fun i => ∃ c, 0 < c ∧ c < n ∧ i = f c) 0 c := by
    intro k
    induction k with
    | zero =>
      intro c hc hk
      have hr := (hd c hc).1
      rw [show d c = 0 by omega] at hr
      cases hr
      exact .refl
    | succ k ih =>
      intro c hc hk
      by_cases h0 : 0 < c
      · obtain ⟨_, h2, h3, h4⟩ := hf c h0 hc
        have := Rc.step (a := a) (b := b) (T := fun i => ∃ c, 0 < c ∧ c < n ∧ i = f c) (i := f c) ⟨c, h0, hc, rfl⟩ (ih (a (f c)) h3 (by omega))
        rw [h2] at this
        exact this
      · obtain rfl : c = 0 := by omega
        exact .refl
  exact fun c hc => key (d c) c hc (Nat.le_refl _)
/-- A set of corners is entered by a street of the branching. -/
theorem IsB.enters {f : Nat → Nat} (h : IsB n a b T f) (S : Nat → Prop) (h0 : ¬ S 0) (hs : ∃ c, c < n ∧ S c) : ∃ c, 0 < c ∧ c < n ∧ S c ∧ ¬ S (a (f c)) := by
  refine Classical.byContradiction fun hn => ?_
  obtain ⟨c, hc, hS⟩ := hs
  have hr : ¬ S c := (h.all c hc).closed (S := fun c => ¬ S c) h0 (by
    rintro i ⟨e, e0, e1, rfl⟩ ha hb
    have hbe := (h.on e e0 e1).2
    rw [hbe] at hb
    exact hn ⟨e, e0, e1, hb, ha⟩)
  exact hr hS
def sumZ (g : Nat → Int) : Nat → Int
  | 0 => 0
  | k + 1 => sumZ g k + g k
theorem sumZ_congr {g h : Nat → Int} : ∀ k, (∀ i, i < k → g i = h i) → sumZ g k = sumZ h k
  | 0, _ => rfl
  | k + 1, e => by simp only [sumZ]; rw [sumZ_congr k (fun i hi => e i (by omega)), e k (by omega)]
theorem sumZ_le {g h : Nat → Int} : ∀ k, (∀ i, i < k → g i ≤ h i) → sumZ g k ≤ sumZ h k
  | 0, _ => Int.le_refl _
  | k + 1, e => by simp only [sumZ]; have := sumZ_le k (fun i hi => e i (by omega)); have := e k (by omega); omega
theorem sumZ_add (g h : Nat → Int) : ∀ k, sumZ (fun i => g i + h i) k = sumZ g k + sumZ h k
  | 0 => rfl
  | k + 1 => by simp only [sumZ]; rw [sumZ_add g h k]; omega
theorem sumZ_zero : ∀ k, sumZ (fun _ => 0) k = 0
  | 0 => rfl
  | k + 1 => by simp only [sumZ]; rw [sumZ_zero k]; rfl
/-- At most one number is not 0, and it is at most x. -/
theorem sumZ_one {g : Nat → Int} {v : Nat} {x : Int} (hx : 0 ≤ x) (hv : g v ≤ x) : ∀ k, (∀ i, i < k → i ≠ v → g i ≤ 0) → sumZ g k ≤ x
  | 0, _ => hx
  | k + 1, h => by
    simp only [sumZ]
    by_cases e : k = v
    · have : sumZ g k ≤ sumZ (fun _ => 0) k := sumZ_le k (fun i hi => h i (by omega) (by omega))
      rw [sumZ_zero] at this
      rw [e] at this ⊢
      omega
    · have := sumZ_one hx hv k (fun i hi => h i (by omega))
      have := h k (by omega) e
      omega
theorem sumZ_ge_one {g : Nat → Int} {v : Nat} : ∀ k, v < k → (∀ i, i < k → 0 ≤ g i) → g v ≤ sumZ g k
  | k + 1, hv, h => by
    simp only [sumZ]
    have h0 : sumZ (fun _ => 0) k ≤ sumZ g k := sumZ_le k (fun i hi => h i (by omega))
    rw [sumZ_zero] at h0
    by_cases e : v = k
    · subst e; omega
    · have h1 := sumZ_ge_one (g := g) (v := v) k (by omega) (fun i hi => h i (by omega)); have := h k (by omega); omega
/-- What a branching costs. -/
def costF (n : Nat) (p : Nat → Int) (f : Nat → Nat) : Int := sumZ (fun c => if c = 0 then 0 else p (f c)) n
theorem costF_congr {p q : Nat → Int} {f g : Nat → Nat} (h : ∀ c, 0 < c → c < n → p (f c) = q (g c)) : costF n p f = costF n q g := by
  refine sumZ_congr n fun c hc => ?_
  split
  · rfl
  · exact h c (by omega) hc
theorem costF_le {p q : Nat → Int} {f g : Nat → Nat} (h : ∀ c, 0 < c → c < n → p (f c) ≤ q (g c)) : costF n p f ≤ costF n q g := by
  refine sumZ_le n fun c hc => ?_
  split
  · exact Int.le_refl _
  · exact h c (by omega) hc
theorem costF_nonneg {p : Nat → Int} {f : Nat → Nat} (h : ∀ c, 0 < c → c < n → 0 ≤ p (f c)) : 0 ≤ costF n p f := by
  have := sumZ_le (g := fun _ => 0) (h := fun c => if c = 0 then 0 else p (f c)) n (fun c hc => by split; exact Int.le_refl _; exact h c (by omega) hc)
  rwa [sumZ_zero] at this
/-- v is the least cost of a branching of streets of T. -/
def Opt (n : Nat) (a b : Nat → Nat) (T : Nat → Prop) (p : Nat → Int) (v : Int) : Prop :=
  (∃ f, IsB n a b T f ∧ costF n p f = v) ∧ ∀ f, IsB n a b T f → v ≤ costF n p f
/-- A set that is to be priced: no street that is left for nothing enters it, and it holds together by such streets. -/
structure Alone (n : Nat) (a b : Nat → Nat) (T : Nat → Prop) (p : Nat → Int) (S : Nat → Prop) : Prop where
  h0 : ¬ S 0
  ne : ∃ c, c < n ∧ S c
  out : ∀ i, T i → p i = 0 → S (b i) → S (a i)
  conn : ∀ u v, S u → S v → Rc a b (fun i => T i ∧ p i = 0 ∧ S (a i) ∧ S (b i)) u v
/-- The branching enters the set once, and does not cost more where it counts. -/
theorem shrink {p : Nat → Int} {S : Nat → Prop} (hT : ∀ i, T i → a i < n) (hA : Alone n a b T p S) {g : Nat → Nat} (hg : IsB n a b T g) :
    ∃ f v, IsB n a b T f ∧ (∀ c, 0 < c → c < n → ¬ S c → f c = g c) ∧ S v ∧ 0 < v ∧ v < n ∧ (∀ c, 0 < c → c < n → S c → (c = v ∧ f c = g c) ∨ (T (f c) ∧ p (f c) = 0 ∧ S (a (f c)))) := by
  let T0 : Nat → Prop := fun i => ∃ c, 0 < c ∧ c < n ∧ ¬ S c ∧ i = g c
  have hfirst : ∀ c, Rc a b (fun i => ∃ c, 0 < c ∧ c < n ∧ i = g c) 0 c → Rc a b T0 0 c ∨ ∃ v, S v ∧ 0 < v ∧ v < n ∧ Rc a b T0 0 (a (g v)) := by
    intro c r
    induction r with
    | refl => exact .inl .refl
    | @step i t _ ih =>
      rcases ih with ih | ih
      · obtain ⟨e, e0, e1, rfl⟩ := t
        have hb := (hg.on e e0 e1).2
        by_cases hS : S e
        · exact .inr ⟨e, hS, e0, e1, ih⟩
        · exact .inl (.step ⟨e, e0, e1, hS, rfl⟩ ih)
      · exact .inr ih
  have hT0 : ∀ c, Rc a b T0 0 c → ¬ S c := by
    intro c r
    refine r.closed (S := fun c => ¬ S c) hA.h0 ?_
    rintro i ⟨e, e0, e1, hS, rfl⟩ _
    rw [(hg.on e e0 e1).2]
    exact hS
  obtain ⟨x, hx, hSx⟩ := hA.ne
  obtain ⟨v, hv, v0, v1, hrv⟩ : ∃ v, S v ∧ 0 < v ∧ v < n ∧ Rc a b T0 0 (a (g v)) := by
    rcases hfirst x (hg.all x hx) with h | h
    · exact absurd hSx (hT0 x h)
    · exact h
  let T1 : Nat → Prop := fun i => T0 i ∨ i = g v ∨ (T i ∧ p i = 0 ∧ S (a i) ∧ S (b i))
  have hT1 : ∀ i, T1 i → T i := by
    rintro i (⟨e, e0, e1, _, rfl⟩ | rfl | h)
    · exact (hg.on e e0 e1).1
    · exact (hg.on v v0 v1).1
    · exact h.1
  have hbv := (hg.on v v0 v1).2
  have hrS : ∀ u, S u → Rc a b T1 0 u := by
    intro u hu
    have h1 : Rc a b T1 0 v := by
      have := Rc.step (T := T1) (i := g v) (.inr (.inl rfl)) (hrv.mono fun i h => .inl h)
      rwa [hbv] at this
    exact h1.trans ((hA.conn v u hv hu).mono fun i h => .inr (.inr h))
  have hrA : ∀ c, c < n → Rc a b T1 0 c := by
    intro c hc
    have : ∀ c, Rc a b (fun i => ∃ c, 0 < c ∧ c < n ∧ i = g c) 0 c → Rc a b T1 0 c := by
      intro c r
      induction r with
      | refl => exact .refl
      | @step i t _ ih =>
        obtain ⟨e, e0, e1, rfl⟩ := t
        by_cases hS : S e
        · rw [(hg.on e e0 e1).2]; exact hrS e hS
        · exact .step (.inl ⟨e, e0, e1, hS, rfl⟩) ih
    exact this c (hg.all c hc)
  obtain ⟨f, hf⟩ := exists_branching (fun i h => hT i (hT1 i h)) hrA
  refine ⟨f, v, hf.mono hT1, ?_, hv, v0, v1, ?_⟩
  · intro c c0 c1 hS
    obtain ⟨t, tb⟩ := hf.on c c0 c1
    rcases t with ⟨e, e0, e1, _, q⟩ | q | h
    · have := (hg.on e e0 e1).2
      rw [← q, tb] at this
      rw [q, this]
    · rw [q, hbv] at tb
      exact absurd (tb ▸ hv) hS
    · rw [tb] at h
      exact absurd h.2.2.2 hS
  · intro c c0 c1 hS
    obtain ⟨t, tb⟩ := hf.on c c0 c1
    rcases t with ⟨e, e0, e1, hSe, q⟩ | q | h
    · have := (hg.on e e0 e1).2
      rw [← q, tb] at this
      exact absurd (this ▸ hS) hSe
    · rw [q, hbv] at tb
      exact .inl ⟨tb.symm, by rw [q, tb]⟩
    · exact .inr ⟨h.1, h.2.1, h.2.2.1⟩
/-- One price. -/
theorem Opt.priced {p q : Nat → Int} {S : Nat → Prop} {mm v : Int} (hT : ∀ i, T i → a i < n) (hA : Alone n a b T p S) (hm : 0 ≤ mm)
    (hp : ∀ i, T i → 0 ≤ p i) (hmin : ∀ i, T i → S (b i) → ¬ S (a i) → mm ≤ p i) (hq1 : ∀ i, T i → S (b i) → ¬ S (a i) → q i = p i - mm) (hq2 : ∀ i, T i → ¬ (S (b i) ∧ ¬ S (a i)) → q i = p i)
    (h : Opt n a b T q v) : Opt n a b T p (v + mm) := by
  have hq0 : ∀ i, T i → 0 ≤ q i := by
    intro i t
    by_cases e : S (b i) ∧ ¬ S (a i)
    · have := hmin i t e.1 e.2; rw [hq1 i t e.1 e.2]; omega
    · rw [hq2 i t e]; exact hp i t
  have hlow : ∀ f, IsB n a b T f → v + mm ≤ costF n p f := by
    intro f hf
    obtain ⟨c, c0, c1, cS, cA⟩ := hf.enters S hA.h0 hA.ne
    have h1 := h.2 f hf
    have h2 : costF n p f = costF n q f + sumZ (fun c => if c = 0 then 0 else p (f c) - q (f c)) n := by
      unfold costF
      rw [← sumZ_add]
      refine sumZ_congr n fun i _ => ?_
      split <;> omega
    have h3 := sumZ_ge_one (g := fun c => if c = 0 then 0 else p (f c) - q (f c)) (v := c) n c1 (by
      intro i hi
      split
      · exact Int.le_refl _
      · obtain ⟨t, tb⟩ := hf.on i (by omega) hi
        by_cases e : S (b (f i)) ∧ ¬ S (a (f i))
        · rw [hq1 _ t e.1 e.2]; omega
        · rw [hq2 _ t e]; omega)
    obtain ⟨t, tb⟩ := hf.on c c0 c1
    rw [if_neg (by omega), hq1 _ t (tb.symm ▸ cS) cA] at h3
    omega
  refine ⟨?_, hlow⟩
  obtain ⟨⟨g, hg, hgv⟩, _⟩ := h
  obtain ⟨f, u, hf, hfg, hSu, u0, u1, hfS⟩ := shrink hT hA hg
  refine ⟨f, hf, ?_⟩
  have h1 := hlow f hf
  have h2 : costF n p f = costF n q f + sumZ (fun c => if c = 0 then 0 else p (f c) - q (f c)) n := by
    unfold costF
    rw [← sumZ_add]
    refine sumZ_congr n fun i _ => ?_
    split <;> omega
  have h3 : sumZ (fun c => if c = 0 then 0 else p (f c) - q (f c)) n ≤ mm := by
    refine sumZ_one (v := u) hm ?_ n ?_
    · rw [if_neg (by omega)]
      obtain ⟨t, tb⟩ := hf.on u u0 u1
      by_cases e : S (b (f u)) ∧ ¬ S (a (f u))
      · rw [hq1 _ t e.1 e.2]; omega
      · rw [hq2 _ t e]; omega
    · intro i hi hiu
      split
      · exact Int.le_refl _
      · obtain ⟨t, tb⟩ := hf.on i (by omega) hi
        by_cases hS : S i
        · rcases hfS i (by omega) hi hS with ⟨e, _⟩ | ⟨_, _, e⟩
          · exact absurd e hiu
          · rw [hq2 _ t (fun x => x.2 e)]; omega
        · rw [hq2 _ t (fun x => hS (tb ▸ x.1))]; omega
  have h4 : costF n q f ≤ costF n q g := by
    refine costF_le fun c c0 c1 => ?_
    by_cases hS : S c
    · rcases hfS c c0 c1 hS with ⟨_, e⟩ | ⟨t, e1, e2⟩
      · rw [e]; exact Int.le_refl _
      · rw [hq2 _ t (fun x => x.2 e2), e1]; exact hq0 _ (hg.on c c0 c1).1
    · rw [hfg c c0 c1 hS]; exact Int.le_refl _
  omega
/-- All corners are reached for nothing. -/
theorem Opt.nothing {p : Nat → Int} (hT : ∀ i, T i → a i < n) (hp : ∀ i, T i → 0 ≤ p i) (h : ∀ c, c < n → Rc a b (fun i => T i ∧ p i = 0) 0 c) : Opt n a b T p 0 := by
  obtain ⟨f, hf⟩ := exists_branching (T := fun i => T i ∧ p i = 0) (fun i t => hT i t.1) h
  refine ⟨⟨f, hf.mono fun _ t => t.1, ?_⟩, fun g hg => costF_nonneg fun c c0 c1 => hp _ (hg.on c c0 c1).1⟩
  have : costF n p f = costF n (fun _ => 0) f := costF_congr fun c c0 c1 => (hf.on c c0 c1).1.2
  rw [this]
  unfold costF
  exact (sumZ_congr n fun c _ => by split <;> rfl).trans (sumZ_zero n)
/-- A set that no street enters. -/
theorem no_branching {S : Nat → Prop} (h0 : ¬ S 0) (ne : ∃ c, c < n ∧ S c) (h : ∀ i, T i → S (b i) → S (a i)) (f : Nat → Nat) : ¬ IsB n a b T f := by
  intro hf
  obtain ⟨c, c0, c1, cS, cA⟩ := hf.enters S h0 ne
  obtain ⟨t, tb⟩ := hf.on c c0 c1
  exact cA (h _ t (tb.symm ▸ cS))
/-- R d c: c is reached from d by streets for nothing. If some corner is not reached from 0, then some corner that is not reached from 0 is reached back from all that reach it. -/
theorem exists_back {R : Nat → Nat → Prop} (htr : ∀ x y z, R x y → R y z → R x z) (cnt : Nat → Nat)
    (hcnt : ∀ x y, R x y → ¬ R y x → cnt x < cnt y) {c : Nat} (hc : c < n) (h0 : ¬ R 0 c) (hn : ∀ x y, R x y → y < n → x < n) : ∃ c, c < n ∧ ¬ R 0 c ∧ ∀ d, R d c → R c d := by
  obtain ⟨k, ⟨c, h1, h2, h3⟩, hmin⟩ := least_nat (P := fun k => ∃ c, c < n ∧ ¬ R 0 c ∧ cnt c = k) ⟨_, c, hc, h0, rfl⟩
  refine ⟨c, h1, h2, fun d hd => Classical.byContradiction fun hnd => ?_⟩
  have := hcnt d c hd hnd
  exact hmin (cnt d) (by omega) ⟨d, hn d c hd h1, fun h => h2 (htr _ _ _ h hd), rfl⟩
end
end Go.Proofs.Ytpmadffgdfholaa.B
namespace Go.Proofs.Ytpmadffgdfholaa.B
open Go.RowKit Go.Proofs.YtpmadffgdfholaaW.PrintWords Go.Proofs.YtpmadffgdfholaaW.PrintLast Go.Proofs.YtpmadffgdfholaaW.PrintMore
/-- Where street i begins, and where it ends. -/
def aW (l : List S30) (i : Nat) : Nat := (rd_T30 l (i : Int)).f0.toNat
def bW (l : List S30) (i : Nat) : Nat := (rd_T30 l (i : Int)).f1.toNat
theorem tb_one (b c : Nat) : (1 <<< b).testBit c = decide (c = b) := by
  rw [Nat.shiftLeft_eq, Nat.one_mul, Nat.testBit_two_pow]
  exact decide_eq_decide.mpr eq_comm
theorem tb_or (s b c : Nat) : (s ||| 1 <<< b).testBit c = (s.testBit c || decide (c = b)) := by
  rw [Nat.testBit_or, tb_one]
theorem step_sub (s : Nat) (x : S30) (c : Nat) (h : s.testBit c = true) : (stepS s x).testBit c = true := by
  unfold stepS
  split
  · rw [tb_or, h]; rfl
  · exact h
theorem pass_sub (l : List S30) : ∀ (L : List Int) (s c : Nat), s.testBit c = true → (passS l L s).testBit c = true
  | [], _, _, h => h
  | i :: L, s, c, h => pass_sub l L (stepS s (rd_T30 l i)) c (step_sub s _ c h)
theorem it_sub (l : List S30) (L : List Int) : ∀ (d s c : Nat), s.testBit c = true → (itS l L d s).testBit c = true
  | 0, _, _, h => h
  | d + 1, s, c, h => it_sub l L d _ c (pass_sub l L s c h)
theorem it_iter (l : List S30) (L : List Int) : ∀ d s, itS l L (d + 1) s = passS l L (itS l L d s)
  | 0, _ => rfl
  | d + 1, s => by show itS l L (d + 1) (passS l L s) = passS l L (itS l L d (passS l L s)); exact it_iter l L d _
theorem pass_closed (l : List S30) : ∀ (L : List Int) (s : Nat), passS l L s = s → ∀ i ∈ L, s.testBit (rd_T30 l i).f0.toNat = true → s.testBit (rd_T30 l i).f1.toNat = true
  | [], _, _, i, hi, _ => absurd hi (by simp)
  | j :: L, s, h, i, hi, ha => by
    have h1 : passS l L (stepS s (rd_T30 l j)) = s := h
    have e : stepS s (rd_T30 l j) = s := by
      refine Nat.eq_of_testBit_eq fun c => ?_
      cases hc : s.testBit c with
      | true => exact step_sub s _ c hc
      | false =>
        cases hd : (stepS s (rd_T30 l j)).testBit c with
        | false => rfl
        | true =>
          have := pass_sub l L _ c hd
          rw [h1, hc] at this
          exact absurd this (by decide)
    rw [e] at h1
    rcases List.mem_cons.1 hi with rfl | hi
    · rw [← e]
      unfold stepS
      rw [if_pos ha, tb_or]
      simp
    · exact pass_closed l L s h1 i hi ha
section
variable {n : Nat} {l : List S30} {L : List Int}
theorem pass_sound (hL : InL n l L) : ∀ (L' : List Int), (∀ i ∈ L', i ∈ L) → ∀ (s c : Nat), (passS l L' s).testBit c = true → ∃ e, s.testBit e = true ∧ Rc (aW l) (bW l) (fun i => (i : Int) ∈ L) e c
  | [], _, _, c, h => ⟨c, h, .refl⟩
  | i :: L', hs, s, c, h => by
    obtain ⟨e, he, hr⟩ := pass_sound hL L' (fun j hj => hs j (List.mem_cons_of_mem _ hj)) (stepS s (rd_T30 l i)) c h
    unfold stepS at he
    split at he
    · rename_i ha
      rw [tb_or] at he
      rcases Bool.or_eq_true_iff.1 he with he | he
      · exact ⟨e, he, hr⟩
      · have h2 := hL i (hs i List.mem_cons_self)
        have hi : ((i.toNat : Nat) : Int) = i := by omega
        have e1 : e = bW l i.toNat := by unfold bW; rw [hi]; exact of_decide_eq_true he
        have ea : (rd_T30 l i).f0.toNat = aW l i.toNat := by unfold aW; rw [hi]
        rw [ea] at ha
        refine ⟨aW l i.toNat, ha, Rc.trans (Rc.one (i := i.toNat) (by rw [hi]; exact hs i List.mem_cons_self)) (e1 ▸ hr)⟩
    · exact ⟨e, he, hr⟩
theorem it_sound (hL : InL n l L) : ∀ (d s c : Nat), (itS l L d s).testBit c = true → ∃ e, s.testBit e = true ∧ Rc (aW l) (bW l) (fun i => (i : Int) ∈ L) e c
  | 0, _, c, h => ⟨c, h, .refl⟩
  | d + 1, s, c, h => by
    obtain ⟨e, he, hr⟩ := it_sound hL d _ c h
    obtain ⟨e2, he2, hr2⟩ := pass_sound hL L (fun _ h => h) s e he
    exact ⟨e2, he2, hr2.trans hr⟩
/-- The closure of a set is what is reached from it. -/
theorem closure_iff (hn : n ≤ 7) (hL : InL n l L) {d c : Nat} (hd : d < n) : (itS l L n (1 <<< d)).testBit c = true ↔ Rc (aW l) (bW l) (fun i => (i : Int) ∈ L) d c := by
  have hlt : 1 <<< d < 2 ^ n := by rw [Nat.shiftLeft_eq, Nat.one_mul]; exact Nat.pow_lt_pow_right (by decide) hd
  constructor
  · intro h
    obtain ⟨e, he, hr⟩ := it_sound hL n _ c h
    rw [tb_one] at he
    rw [of_decide_eq_true he] at hr
    exact hr
  · intro hr
    have hfix : passS l L (itS l L n (1 <<< d)) = itS l L n (1 <<< d) := by
      rw [← it_iter]
      exact it_stop hn hL n _ hlt (by omega)
    refine hr.closed (S := fun c => (itS l L n (1 <<< d)).testBit c = true) (it_sub l L n _ d (by rw [tb_one]; simp)) fun i hi ha => ?_
    exact pass_closed l L _ hfix _ hi ha
theorem Rc.lt (hL : InL n l L) {d c : Nat} (hd : d < n) (hr : Rc (aW l) (bW l) (fun i => (i : Int) ∈ L) d c) : c < n := by
  refine hr.closed (S := fun c => c < n) hd fun i hi _ => ?_
  have h := (wayOk_iff n _).1 (hL _ hi).2.2
  unfold bW
  omega
/-- The streets that a test lets through. -/
def someW (l : List S30) (og : Int → Bool) : List Int := (idx l).filter og
theorem idx_rd (l : List S30) (q : Nat) (h : q < l.length) : rd (idx l) (q : Int) = (q : Int) := by
  simp [rd, idx, List.getD, h]
theorem idx_mem (l : List S30) (i : Nat) : (i : Int) ∈ idx l ↔ i < l.length := by
  unfold idx
  simp only [List.mem_map, List.mem_range]
  exact ⟨fun ⟨j, h, e⟩ => by omega, fun h => ⟨i, h, rfl⟩⟩
theorem someW_mem (l : List S30) (og : Int → Bool) (i : Nat) : (i : Int) ∈ someW l og ↔ i < l.length ∧ og (i : Int) = true := by
  unfold someW
  rw [List.mem_filter, idx_mem]
theorem someW_in {l : List S30} (hx : ∀ x ∈ l, wayOk n x = true) (og : Int → Bool) : InL n l (someW l og) :=
  fun i hi => idx_in hx i (List.mem_filter.1 hi).1
theorem al2_l1 (hn : n ≤ 7) (hx : ∀ x ∈ l, wayOk n x = true) (hl : l.length < 1000) (o : Int → Option Bool) (og : Int → Bool) (ho : ∀ i : Nat, i < l.length → o (i : Int) = some (og (i : Int))) (N j : Int) : ∀ (d q k s : Nat), q + d = l.length → s < 2 ^ n →
    branch_town_alone_2.l1 (k + d + 1) (s : Int) N j l (l.length : Int) (q : Int) (n : Int) l o = branch_town_alone_2.l0 k ((passS l (((idx l).drop q).filter og) s : Nat) : Int) N (wrap64 (j + 1)) (n : Int) l o
  | 0, q, k, s, h, _ => by
    simp only [branch_town_alone_2.l1]
    rw [if_neg (by omega), List.drop_eq_nil_of_le (by rw [idx_length]; omega)]
    rfl
  | d + 1, q, k, s, h, hs => by
    have hq : q < l.length := by omega
    have hw := wrap_nat q (by omega)
    have hok := hx _ (rd_T30_mem l q hq)
    have sf := step_facts hn hs hok
    have ih := fun s hs => al2_l1 hn hx hl o og ho N j d (q + 1) k s (by omega) hs
    have h128 : s < 128 := Nat.lt_of_lt_of_le hs (show 2 ^ n ≤ 2 ^ 7 from Nat.pow_le_pow_right (by decide) hn)
    rw [drop_rdI4 (idx l) q (by rw [idx_length]; exact hq), idx_rd l q hq, List.filter_cons]
    rw [show k + (d + 1) + 1 = (k + d + 1) + 1 from by omega]
    generalize hqq : k + d + 1 = qq at ih
    simp only [branch_town_alone_2.l1, hw]
    rw [if_pos (by omega), if_pos (by omega), if_pos (by omega), ho q hq, Option.bind_some]
    cases og (q : Int) with
    | false =>
      rw [if_neg (by decide), if_neg (by decide)]
      exact ih s hs
    | true =>
      rw [if_pos rfl, if_pos rfl]
      show _ = branch_town_alone_2.l0 k ((passS l (((idx l).drop (q + 1)).filter og) (stepS s (rd_T30 l (q : Int))) : Nat) : Int) N (wrap64 (j + 1)) (n : Int) l o
      rw [← ih _ sf.1]
      generalize rd_T30 l (q : Int) = x at hok
      obtain ⟨h1, h2, h3, h4, _⟩ := (wayOk_iff n x).1 hok
      have f1 := fin_and ⟨s, h128⟩ ⟨x.f0.toNat, by omega⟩
      have f2 := fin_or ⟨s, h128⟩ ⟨x.f1.toNat, by omega⟩
      simp only [← int_nat h1, ← int_nat h3] at f1 f2
      rw [if_pos h1]
      unfold stepS
      by_cases t : s.testBit x.f0.toNat = true
      · rw [if_pos (f1.2 t), if_pos h3, if_pos t, f2]
      · rw [if_neg (fun hh => t (f1.1 hh)), if_neg t]
theorem al2_l0 (hn : n ≤ 7) (hx : ∀ x ∈ l, wayOk n x = true) (hl : l.length < 1000) (o : Int → Option Bool) (og : Int → Bool) (ho : ∀ i : Nat, i < l.length → o (i : Int) = some (og (i : Int))) : ∀ (d j k s : Nat), j + d = n → s < 2 ^ n →
    branch_town_alone_2.l0 (k + (l.length + 2) * d + 1) (s : Int) (n : Int) (j : Int) (n : Int) l o = some ((itS l (someW l og) d s : Nat) : Int)
  | 0, j, k, s, h, _ => by
    simp only [branch_town_alone_2.l0, Nat.mul_zero, Nat.add_zero]
    rw [if_neg (by omega)]
    rfl
  | d + 1, j, k, s, h, hs => by
    have hw := wrap_nat j (by omega)
    have ih := al2_l0 hn hx hl o og ho d (j + 1) k (passS l (someW l og) s) (by omega) (pass_facts hn _ (someW_in hx og) s hs).1
    have h1 := al2_l1 hn hx hl o og ho (n : Int) (j : Int) l.length 0 (k + (l.length + 2) * d + 1) s (by omega) hs
    rw [show k + (l.length + 2) * (d + 1) + 1 = (k + (l.length + 2) * d + 1 + l.length + 1) + 1 from by rw [Nat.mul_succ]; omega]
    generalize hq : k + (l.length + 2) * d + 1 + l.length + 1 = qq at h1
    simp only [branch_town_alone_2.l0]
    rw [if_pos (by omega)]
    rw [List.drop_zero, hw] at h1
    exact h1.trans ih
theorem fin_shl1 : ∀ a : Fin 7, shl .i64 1 ((a.val : Nat) : Int) = ((1 <<< a.val : Nat) : Int) := by decide +kernel
theorem al2_f (hn : n ≤ 7) (hx : ∀ x ∈ l, wayOk n x = true) (hl : l.length ≤ 30) (o : Int → Option Bool) (og : Int → Bool) (ho : ∀ i : Nat, i < l.length → o (i : Int) = some (og (i : Int))) (d : Nat) (hd : d < n) (k : Nat) (hk : 300 ≤ k) :
    branch_town_alone_2.f k (d : Int) (n : Int) l o = some ((itS l (someW l og) n (1 <<< d) : Nat) : Int) := by
  have hlt : 1 <<< d < 2 ^ n := by rw [Nat.shiftLeft_eq, Nat.one_mul]; exact Nat.pow_lt_pow_right (by decide) hd
  have hb : (l.length + 2) * n ≤ 32 * 7 := Nat.mul_le_mul (by omega) hn
  have h := al2_l0 hn hx (by omega) o og ho n 0 (k - (l.length + 2) * n - 1) (1 <<< d) (by omega) hlt
  rw [show k - (l.length + 2) * n - 1 + (l.length + 2) * n + 1 = k from by omega] at h
  unfold branch_town_alone_2.f
  have e := fin_shl1 ⟨d, by omega⟩
  simp only [] at e
  rw [if_pos (by omega), e]
  exact h
end
end Go.Proofs.Ytpmadffgdfholaa.B
namespace Go.Proofs.Ytpmadffgdfholaa.B
open Go.RowKit Go.Proofs.YtpmadffgdfholaaW.PrintWords Go.Proofs.YtpmadffgdfholaaW.PrintLast Go.Proofs.YtpmadffgdfholaaW.PrintMore
def cntN (P : Nat → Bool) : Nat → Nat
  | 0 => 0
  | k + 1 => cntN P k + if P k then 1 else 0
theorem cntN_le {P Q : Nat → Bool} : ∀ k, (∀ i, i < k → P i = true → Q i = true) → cntN P k ≤ cntN Q k
  | 0, _ => Nat.le_refl _
  | k + 1, h => by
    have ih := cntN_le k (fun i hi => h i (by omega))
    have hk := h k (by omega)
    simp only [cntN]
    cases hP : P k with
    | false => simp; split <;> omega
    | true => simp [hk hP]; exact ih
theorem cntN_lt {P Q : Nat → Bool} : ∀ k, (∀ i, i < k → P i = true → Q i = true) → ∀ j, j < k → Q j = true → P j = false → cntN P k < cntN Q k
  | k + 1, h, j, hj, hQ, hP => by
    simp only [cntN]
    by_cases e : j = k
    · subst e
      have := cntN_le (P := P) (Q := Q) j (fun i hi => h i (by omega))
      simp [hQ, hP]; omega
    · have ih := cntN_lt k (fun i hi => h i (by omega)) j (by omega) hQ hP
      have hk := h k (by omega)
      cases hPk : P k with
      | false => simp; split <;> omega
      | true => simp [hk hPk]; exact ih
theorem cntN_bound (P : Nat → Bool) : ∀ k, cntN P k ≤ k
  | 0 => Nat.le_refl _
  | k + 1 => by have := cntN_bound P k; simp only [cntN]; split <;> omega
theorem hasB_nat {s c : Nat} (hs : s < 128) (hc : c < 7) : hasB (s : Int) (c : Int) = s.testBit c := by
  have h := fin_and ⟨s, hs⟩ ⟨c, hc⟩
  simp only [] at h
  unfold hasB
  cases ht : s.testBit c with
  | true => exact beq_iff_eq.mpr (h.2 ht)
  | false => exact beq_eq_false_iff_ne.mpr fun e => by rw [h.1 e] at ht; exact absurd ht (by decide)
theorem noB_nat {s c : Nat} (hs : s < 128) (hc : c < 7) : (Go.bits .and .i64 (shr .i64 (s : Int) (c : Int)) 1 == 0) = !s.testBit c := by
  have h := fin_and0 ⟨s, hs⟩ ⟨c, hc⟩
  simp only [] at h
  cases ht : s.testBit c with
  | false => exact beq_iff_eq.mpr (h.2 ht)
  | true => exact beq_eq_false_iff_ne.mpr fun e => by rw [h.1 e] at ht; exact absurd ht (by decide)
theorem gather_nat {R : Int → Int} {r : Nat → Nat} {n : Nat} (hn : n ≤ 7) (hR : ∀ d : Nat, d < n → R (d : Int) = (r d : Int) ∧ r d < 128) {c : Nat} (hc : c < n) : ∀ j, j ≤ n → ∃ q : Nat, gatherB R (c : Int) j = (q : Int) ∧ q < 128 ∧ ∀ d, q.testBit d = (decide (d < j) && (r d).testBit c)
  | 0, _ => ⟨0, rfl, by decide, fun d => by simp⟩
  | j + 1, hj => by
    obtain ⟨q, h1, h2, h3⟩ := gather_nat hn hR hc j (by omega)
    obtain ⟨e1, e2⟩ := hR j (by omega)
    simp only [gatherB]
    rw [e1, hasB_nat e2 (by omega), h1]
    cases ht : (r j).testBit c with
    | true =>
      have f := fin_or ⟨q, h2⟩ ⟨j, by omega⟩
      have f2 := fin_lt ⟨7, by decide⟩ ⟨q, h2⟩ ⟨j, by omega⟩ h2 (by simp only []; omega)
      simp only [] at f f2
      refine ⟨q ||| 1 <<< j, by rw [if_pos rfl, f], f2, fun d => ?_⟩
      rw [tb_or, h3]
      by_cases hd : d = j
      · subst hd; simp [ht]
      · by_cases hl : d < j
        · simp [hd, hl, show d < j + 1 by omega]
        · simp [hd, hl, show ¬ d < j + 1 by omega]
    | false =>
      refine ⟨q, by rw [if_neg (by decide)], h2, fun d => ?_⟩
      rw [h3]
      by_cases hd : d = j
      · subst hd; simp [ht]
      · by_cases hl : d < j
        · simp [hl, show d < j + 1 by omega]
        · simp [hl, show ¬ d < j + 1 by omega]
theorem closed_nat {R : Int → Int} {r : Nat → Nat} {n : Nat} (hn : n ≤ 7) (hR : ∀ d : Nat, d < n → R (d : Int) = (r d : Int) ∧ r d < 128) {c q : Nat} (hc : c < n) (hq : q < 128) : ∀ j, j ≤ n → (closedB R (c : Int) (q : Int) j = true ↔ ∀ d, d < j → q.testBit d = true → (r c).testBit d = true)
  | 0, _ => ⟨fun _ d hd => absurd hd (by omega), fun _ => rfl⟩
  | j + 1, hj => by
    have ih := closed_nat hn hR hc hq j (by omega)
    obtain ⟨e1, e2⟩ := hR c hc
    simp only [closedB]
    rw [e1, hasB_nat hq (by omega), noB_nat e2 (by omega), Bool.and_eq_true, ih]
    constructor
    · rintro ⟨h1, h2⟩ d hd hqd
      by_cases e : d = j
      · subst e
        rw [hqd] at h2
        simpa using h2
      · exact h1 d (by omega) hqd
    · intro h
      refine ⟨fun d hd => h d (by omega), ?_⟩
      cases hb : q.testBit j with
      | false => rfl
      | true => rw [h j (by omega) hb]; rfl
theorem alone_cases {R : Int → Int} {r : Nat → Nat} {n : Nat} (hn : n ≤ 7) (hR : ∀ d : Nat, d < n → R (d : Int) = (r d : Int) ∧ r d < 128 ∧ (r d).testBit d = true) : ∀ j, j ≤ n →
    (aloneB R n j = 0 ∧ ∀ c, n - j ≤ c → c < n → ¬ ((r 0).testBit c = false ∧ ∀ d, d < n → (r d).testBit c = true → (r c).testBit d = true)) ∨
    ∃ c q : Nat, c < n ∧ aloneB R n j = (q : Int) ∧ q < 128 ∧ q ≠ 0 ∧ (r 0).testBit c = false ∧ (∀ d, d < n → (r d).testBit c = true → (r c).testBit d = true) ∧ ∀ d, q.testBit d = (decide (d < n) && (r d).testBit c)
  | 0, _ => .inl ⟨rfl, fun c h1 h2 => by omega⟩
  | j + 1, hj => by
    have hR2 : ∀ d : Nat, d < n → R (d : Int) = (r d : Int) ∧ r d < 128 := fun d hd => ⟨(hR d hd).1, (hR d hd).2.1⟩
    have hc : n - (j + 1) < n := by omega
    obtain ⟨q, g1, g2, g3⟩ := gather_nat hn hR2 hc n (Nat.le_refl _)
    obtain ⟨z1, z2⟩ := hR2 0 (by omega)
    have hcl := closed_nat hn hR2 hc g2 n (Nat.le_refl _)
    simp only [aloneB]
    have hal : isAloneB R n ((n - (j + 1) : Nat) : Int) = true ↔ (r 0).testBit (n - (j + 1)) = false ∧ ∀ d, d < n → (r d).testBit (n - (j + 1)) = true → (r (n - (j + 1))).testBit d = true := by
      unfold isAloneB
      rw [show (R 0) = (r 0 : Int) from z1, hasB_nat z2 (by omega), g1, Bool.and_eq_true, hcl, Bool.not_eq_true']
      refine and_congr Iff.rfl ⟨fun h d hd hr => h d hd (by rw [g3]; simp [hd, hr]), fun h d hd hq => h d hd (by rw [g3] at hq; exact (Bool.and_eq_true _ _ |>.mp hq).2)⟩
    by_cases ha : isAloneB R n ((n - (j + 1) : Nat) : Int) = true
    · rw [if_pos ha]
      obtain ⟨a1, a2⟩ := hal.1 ha
      refine .inr ⟨n - (j + 1), q, hc, g1, g2, ?_, a1, a2, g3⟩
      rintro rfl
      have := g3 (n - (j + 1))
      rw [(hR _ hc).2.2] at this
      simp [hc] at this
    · rw [if_neg ha]
      rcases alone_cases hn hR j (by omega) with ⟨h1, h2⟩ | h
      · refine .inl ⟨h1, fun c c1 c2 hh => ?_⟩
        by_cases e : c = n - (j + 1)
        · subst e; exact ha (hal.2 hh)
        · exact h2 c (by omega) c2 hh
      · exact .inr h
/-- The streets that are not out. -/
def onT (l : List S30) (og : Int → Bool) (i : Nat) : Prop := i < l.length ∧ og (i : Int) = false
theorem onT_lt {n : Nat} {l : List S30} (hx : ∀ x ∈ l, wayOk n x = true) {og : Int → Bool} (i : Nat) (h : onT l og i) : aW l i < n := by
  have := (wayOk_iff n _).1 (hx _ (rd_T30_mem l i h.1))
  unfold aW; omega
theorem onT_ltb {n : Nat} {l : List S30} (hx : ∀ x ∈ l, wayOk n x = true) {og : Int → Bool} (i : Nat) (h : onT l og i) : bW l i < n := by
  have := (wayOk_iff n _).1 (hx _ (rd_T30_mem l i h.1))
  unfold bW; omega
section
variable {n : Nat} {l : List S30}
/-- alone's answer. -/
theorem alone_spec (hn1 : 1 ≤ n) (hn : n ≤ 7) (hl : l.length ≤ 30) (hx : ∀ x ∈ l, wayOk n x = true) (left : List Int) (hleft : left.length = l.length) (o : Int → Option Bool) (og : Int → Bool) (ho : ∀ i : Nat, i < l.length → o (i : Int) = some (og (i : Int))) :
    ∃ q : Nat, q < 2 ^ n ∧ (∀ k, 300 ≤ k → branch_town_alone.f k (n : Int) l left o = some (q : Int)) ∧
      (q = 0 → ∀ c, c < n → Rc (aW l) (bW l) (fun i => onT l og i ∧ rd left (i : Int) = 0) 0 c) ∧
      (q ≠ 0 → Alone n (aW l) (bW l) (onT l og) (fun i => rd left (i : Int)) (fun c => q.testBit c = true)) := by
  have ho1 : ∀ i : Nat, i < l.length → branch_town_alone_1.f (i : Int) left o = some (decide (rd left (i : Int) = 0) && !og (i : Int)) := by
    intro i hi
    unfold branch_town_alone_1.f
    rw [if_pos (by omega), if_pos (by omega), ho i hi]
    by_cases h : rd left (i : Int) = 0
    · rw [if_pos h, Option.bind_some, decide_eq_true h, Bool.true_and]
    · rw [if_neg h, decide_eq_false h, Bool.false_and]
  let fg : Int → Bool := fun i => decide (rd left i = 0) && !og i
  have hFL := someW_in (n := n) hx fg
  let r : Nat → Nat := fun d => itS l (someW l fg) n (1 <<< d)
  have hlt : ∀ d, d < n → 1 <<< d < 2 ^ n := fun d hd => by rw [Nat.shiftLeft_eq, Nat.one_mul]; exact Nat.pow_lt_pow_right (by decide) hd
  have hp : 2 ^ n ≤ 2 ^ 7 := Nat.pow_le_pow_right (by decide) hn
  have hrlt : ∀ d, d < n → r d < 2 ^ n := fun d hd => it_lt hn hFL n _ (hlt d hd)
  have hiff : ∀ d c, d < n → ((r d).testBit c = true ↔ Rc (aW l) (bW l) (fun i => onT l og i ∧ rd left (i : Int) = 0) d c) := by
    intro d c hd
    refine (closure_iff hn hFL hd).trans ⟨fun h => h.mono fun i hi => ?_, fun h => h.mono fun i hi => ?_⟩
    · obtain ⟨h1, h2⟩ := (someW_mem l fg i).1 hi
      simp only [fg, Bool.and_eq_true, decide_eq_true_eq, Bool.not_eq_true'] at h2
      exact ⟨⟨h1, h2.2⟩, h2.1⟩
    · refine (someW_mem l fg i).2 ⟨hi.1.1, ?_⟩
      simp only [fg, Bool.and_eq_true, decide_eq_true_eq, Bool.not_eq_true']
      exact ⟨hi.2, hi.1.2⟩
  have hRk : ∀ k, 300 ≤ k → ∀ d : Nat, d < n → branch_town_alone_2.f k (d : Int) (n : Int) l (fun i => branch_town_alone_1.f i left o) = some (r d : Int) := fun k hk d hd => al2_f hn hx hl _ fg ho1 d hd k hk
  have hval : ∀ k, 300 ≤ k → branch_town_alone.f k (n : Int) l left o = some (aloneB (fun d => (r d.toNat : Int)) n n) := by
    intro k hk
    unfold branch_town_alone.f
    rw [if_pos ⟨by omega, by omega, fun d hd => by rw [hRk k hk d (by have := List.mem_range.1 hd; omega)]; rfl⟩]
    refine congrArg some ?_
    rw [show ((n : Int)).toNat = n from rfl]
    refine aloneB_congr (fun d h0 h1 => ?_) n (Nat.le_refl _)
    have := hRk k hk d.toNat (by omega)
    rw [Int.toNat_of_nonneg h0] at this
    rw [this]; rfl
  have hRr : ∀ d : Nat, d < n → (fun d : Int => (r d.toNat : Int)) (d : Int) = (r d : Int) ∧ r d < 128 ∧ (r d).testBit d = true := by
    intro d hd
    exact ⟨rfl, Nat.lt_of_lt_of_le (hrlt d hd) hp, (hiff d d hd).2 .refl⟩
  have hTn : ∀ i, (onT l og i ∧ rd left (i : Int) = 0) → aW l i < n := fun i h => onT_lt hx i h.1
  have hTb : ∀ i, (onT l og i ∧ rd left (i : Int) = 0) → bW l i < n := fun i h => onT_ltb hx i h.1
  rcases alone_cases (R := fun d : Int => (r d.toNat : Int)) (r := r) hn hRr n (Nat.le_refl _) with ⟨h1, h2⟩ | ⟨c, q, hc, h1, h2, h3, h4, h5, h6⟩
  · refine ⟨0, Nat.pow_pos (by decide), fun k hk => (hval k hk).trans (congrArg some h1), fun _ c hc => ?_, fun h => absurd rfl h⟩
    refine Classical.byContradiction fun hno => ?_
    obtain ⟨e, e1, e2, e3⟩ := exists_back (n := n) (R := fun x y => Rc (aW l) (bW l) (fun i => onT l og i ∧ rd left (i : Int) = 0) x y) (fun _ _ _ => Rc.trans) (fun x => cntN (fun d => (r d).testBit x) n) (by
      intro x y hxy hyx
      by_cases hy : y < n
      · refine cntN_lt n (fun i hi h => (hiff i y hi).2 (((hiff i x hi).1 h).trans hxy)) y hy ((hiff y y hy).2 .refl) ?_
        cases hb : (r y).testBit x with
        | false => rfl
        | true => exact absurd ((hiff y x hy).1 hb) hyx
      · exfalso
        have : x = y ∨ y < n := by
          cases hxy with
          | refl => exact .inl rfl
          | step t _ => exact .inr (hTb _ t)
        rcases this with rfl | h
        · exact hyx .refl
        · exact hy h) hc hno (by
      intro x y hxy
      induction hxy with
      | refl => exact id
      | step t _ ih => exact fun _ => ih (hTn _ t))
    refine h2 e (by omega) e1 ⟨?_, fun d hd hdc => (hiff e d e1).2 (e3 d ((hiff d e hd).1 hdc))⟩
    cases hb : (r 0).testBit e with
    | false => rfl
    | true => exact absurd ((hiff 0 e (by omega)).1 hb) e2
  · refine ⟨q, ?_, fun k hk => (hval k hk).trans (congrArg some h1), fun h => absurd h h3, fun _ => ?_⟩
    · refine Nat.lt_pow_two_of_testBit q fun i hi => ?_
      rw [h6, decide_eq_false (by omega), Bool.false_and]
    · have hS : ∀ d, q.testBit d = true ↔ d < n ∧ Rc (aW l) (bW l) (fun i => onT l og i ∧ rd left (i : Int) = 0) d c := by
        intro d
        rw [h6, Bool.and_eq_true, decide_eq_true_eq]
        exact ⟨fun ⟨a, b⟩ => ⟨a, (hiff d c a).1 b⟩, fun ⟨a, b⟩ => ⟨a, (hiff d c a).2 b⟩⟩
      refine ⟨fun h => ?_, ⟨c, hc, (hS c).2 ⟨hc, .refl⟩⟩, fun i t t0 tb => ?_, fun u v hu hv => ?_⟩
      · have := (hiff 0 c (by omega)).2 ((hS 0).1 h).2
        rw [h4] at this
        exact absurd this (by decide)
      · have hb := ((hS _).1 tb).2
        exact (hS _).2 ⟨onT_lt hx i t, (Rc.one (a := aW l) (b := bW l) (T := fun i => onT l og i ∧ rd left (i : Int) = 0) ⟨t, t0⟩).trans hb⟩
      · have hcv : Rc (aW l) (bW l) (fun i => onT l og i ∧ rd left (i : Int) = 0) c v := by
          obtain ⟨v1, v2⟩ := (hS v).1 hv
          exact (hiff c v hc).1 (h5 v v1 ((hiff v c v1).2 v2))
        have huv := ((hS u).1 hu).2.trans hcv
        have hvc := ((hS v).1 hv).2
        clear hcv
        have key : ∀ y, Rc (aW l) (bW l) (fun i => onT l og i ∧ rd left (i : Int) = 0) u y → Rc (aW l) (bW l) (fun i => onT l og i ∧ rd left (i : Int) = 0) y c → Rc (aW l) (bW l) (fun i => onT l og i ∧ rd left (i : Int) = 0 ∧ q.testBit (aW l i) = true ∧ q.testBit (bW l i) = true) u y := by
          intro y hy
          induction hy with
          | refl => exact fun _ => .refl
          | @step i t _ ih =>
            intro hyc
            have hac := (Rc.one (a := aW l) (b := bW l) (T := fun i => onT l og i ∧ rd left (i : Int) = 0) t).trans hyc
            exact .step ⟨t.1, t.2, (hS _).2 ⟨hTn _ t, hac⟩, (hS _).2 ⟨hTb _ t, hyc⟩⟩ (ih hac)
        exact key v huv hvc
end
end Go.Proofs.Ytpmadffgdfholaa.B
