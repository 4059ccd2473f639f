/- branch.Branching, branch.Dear: their walks by hand. -/
import Derived.Test.YtpmadffgdfholaaDBH6
namespace Go.Proofs.Ytpmadffgdfholaa.B
open Go.RowKit Go.MapKept Go.Proofs.YtpmadffgdfholaaW.PrintWords Go.Proofs.YtpmadffgdfholaaW.PrintLast Go.Proofs.YtpmadffgdfholaaW.PrintMore
set_option linter.unusedVariables false
set_option linter.unusedSimpArgs false
attribute [local go_sem ↓] Go.wp_at_zero Go.wp_at_succ

def branch_Branching.f (k : Nat) (a0 : Int) (l1 : List S30) : Option (List Int × Int × Int) :=
  (branch_read.f a0 l1).bind fun t => if t = 0 then (branch_town_costs.f k a0 l1).bind fun p => branch_town_first.f k a0 l1 p else some ([], 0, t)
theorem branch_Branching.mono : ∀ a0 a1 k, LeO (branch_Branching.f k a0 a1) (branch_Branching.f (k + 1) a0 a1) := by
  intro a0 a1 k
  unfold branch_Branching.f
  refine LeO.bind (LeO.refl _) fun t => LeO.ite ?_ (LeO.refl _)
  exact LeO.bind (branch_town_costs.mono _ _ k) fun p => branch_town_first.mono _ _ _ k
/-- What Dear's prices are. -/
def dearB (p : List Int) : List Int := p.map fun x => wrap64 (1000 - x)
theorem dearB_length (p : List Int) : (dearB p).length = p.length := by simp [dearB]
theorem dear_rd (p : List Int) (j : Nat) (h : j < p.length) : rd (dearB (p.take j) ++ p.drop j) (j : Int) = rd p (j : Int) := by
  have hl : (dearB (p.take j)).length = j := by rw [dearB_length, List.length_take]; omega
  simp only [rd, Int.toNat_natCast, List.getD]
  rw [List.getElem?_append_right (by omega), hl, Nat.sub_self, List.getElem?_drop, Nat.add_zero]
theorem dear_set (p : List Int) (j : Nat) (h : j < p.length) : (dearB (p.take j) ++ p.drop j).set j (wrap64 (1000 - rd p (j : Int))) = dearB (p.take (j + 1)) ++ p.drop (j + 1) := by
  have hl : (dearB (p.take j)).length = j := by rw [dearB_length, List.length_take]; omega
  rw [take_rdI p j h, drop_rdI p j h]
  rw [List.set_append_right _ _ (by omega), hl, Nat.sub_self]
  simp [dearB]
def branch_Dear.f (k : Nat) (a0 : Int) (l1 : List S30) : Option (List Int × Int × Int) :=
  (branch_read.f a0 l1).bind fun t => if t = 0 then (branch_town_costs.f k a0 l1).bind fun p => if p.length < 17592186044416 then (branch_town_first.f k a0 l1 (dearB p)).bind fun r =>
    if r.2.2 = 0 then some (r.1, wrap64 (wrap64 (wrap64 (a0 - 1) * 1000) - r.2.1), 0) else some ([], 0, r.2.2) else none else some ([], 0, t)
theorem branch_Dear.mono : ∀ a0 a1 k, LeO (branch_Dear.f k a0 a1) (branch_Dear.f (k + 1) a0 a1) := by
  intro a0 a1 k
  unfold branch_Dear.f
  refine LeO.bind (LeO.refl _) fun t => LeO.ite ?_ (LeO.refl _)
  refine LeO.bind (branch_town_costs.mono _ _ k) fun p => ?_
  refine LeO.ite ?_ (LeO.refl _)
  exact LeO.bind (branch_town_first.mono _ _ _ k) fun r => LeO.refl _

set_option maxHeartbeats 8000000 in
set_option maxRecDepth 100000 in
theorem branch_Branching.calls (k : Nat) (a0 : Int) (A1 : Option Addr) (c1 : Nat) (l1 : List S30) (r1 : List Int) (r2 r3 : Int) (w : World) (hr1 : Kd.C k30 w A1 l1.length l1) (hc1 : l1.length ≤ c1) (h : branch_Branching.f k a0 l1 = some (r1, r2, r3)) :
    Calls Try.prog 24 #[.int .i64 a0, .slice A1 l1.length c1] w fun e w' => ∃ v0_ : Value, e = .returned (.tuple #[v0_, .int .i64 r2, .int .i64 r3]) ∧ Kd.R (Kd.int .i64) 3 w' w.heap.size (fun _ => True) v0_ r1 ∧ Below w.heap.size w w' := by
  have HR1 := Aside0.mk hr1
  have HC1 := Aside0.mk hc1
  clear hr1 hc1
  have HB := Aside0.mk (Below.refl w.heap.size w)
  unfold branch_Branching.f at h
  obtain ⟨t, ht, h⟩ := Option.bind_eq_some_iff.1 h
  have HT0 := Aside0.mk ht
  clear ht
  by_cases c3 : t = 0
  case neg =>
    rw [if_neg c3] at h
    have c3b : (t == 0) = false := beq_eq_false_iff_ne.mpr c3
    have c3c : (t != 0) = true := bne_iff_ne.mpr c3
    simp only [Option.some.injEq, Prod.mk.injEq] at h
    obtain ⟨rfl, rfl, rfl⟩ := h
    clear c3
    go_enter Try.func24, Try.ntmps24
    go_wp2_with (first | (go_at_call 44; (refine (branch_read.calls_err a0 A1 c1 l1 t _ HR1.out HC1.out HT0.out (by assumption)).mono ?_); rintro e w1 ⟨rfl, hb⟩; clear HB; have HB := Aside0.mk hb; clear hb))
    go_ret3
    exact ⟨_, by first | rfl | (simp; done), Kd.R_nil _ _ _ _ _, HB.out⟩
  rw [if_pos c3] at h
  have c3b : (t == 0) = true := beq_iff_eq.mpr c3
  have c3c : (t != 0) = false := bne_eq_false_iff_eq.mpr c3
  clear c3
  obtain ⟨p, hp, h⟩ := Option.bind_eq_some_iff.1 h
  have HPR := Aside0.mk hp
  clear hp
  have HF := Aside0.mk h
  clear h
  go_enter Try.func24, Try.ntmps24
  go_wp2_with (first | (go_at_call 44; (refine (branch_read.calls_map a0 A1 c1 l1 t _ HR1.out HC1.out HT0.out (by assumption)).mono ?_); rintro e w1 ⟨gt, mm, rfl, hg, hbox, hgm, hb⟩; have GT := Aside0.mk hg; have HT := Aside0.mk hbox; have HG := Aside0.mk hgm; clear HB; have HB := Aside0.mk hb; clear hg hbox hgm hb) | (go_at_call 47; (refine (branch_town_costs.calls k gt a0 A1 c1 l1 (some mm) p _ HT.out (Kd.C_below HR1.out HB.out) HC1.out HPR.out).mono ?_); rintro e w2 ⟨vl, rfl, ho, hb⟩; obtain ⟨Al, cl, hvl⟩ := Kd.R_slice ho; subst hvl; have HO := Aside0.mk (Kd.R_lower ho (below_size HB.out)); have n0_ := Aside0.mk (blk_below HT.out hb); have n1_ := Aside0.mk (below_step HB.out hb); have n2_ := Aside0.mk (HG.out.below hb); clear HT HB HG; have HT := n0_; have HB := n1_; have HG := n2_; clear n0_ n1_ n2_ ho hb) | (go_at_call 51; (refine (branch_town_first.calls k gt a0 A1 c1 l1 mm w.heap.size Al cl p r1 r2 r3 _ HT.out (Kd.C_below HR1.out HB.out) HC1.out (Kd.R_reads' HO.out).2.2 (Kd.R_reads' HO.out).2.1 HG.out HF.out).mono ?_); rintro e w3 ⟨vf, rfl, ho, hb⟩; have HV := Aside0.mk (Kd.R_lower ho (below_size HB.out)); have n0_ := Aside0.mk (below_step HB.out hb); clear HB; have HB := n0_; clear n0_ ho hb))
  go_ret3
  exact ⟨_, by first | rfl | (simp; done), by (with_reducible repeat (first | apply Kd.R_alloc | apply Kd.R_drewN | apply Kd.R_drew)); exact HV.out, by repeat (first | (with_reducible first | exact HB.out | apply below_alloc | apply pw_below_drewN | apply below_drew1) | exact HB.out)⟩
set_option maxHeartbeats 8000000 in
set_option maxRecDepth 100000 in
theorem branch_Dear.calls (k : Nat) (a0 : Int) (A1 : Option Addr) (c1 : Nat) (l1 : List S30) (r1 : List Int) (r2 r3 : Int) (w : World) (hr1 : Kd.C k30 w A1 l1.length l1) (hc1 : l1.length ≤ c1) (h : branch_Dear.f k a0 l1 = some (r1, r2, r3)) :
    Calls Try.prog 26 #[.int .i64 a0, .slice A1 l1.length c1] w fun e w' => ∃ v0_ : Value, e = .returned (.tuple #[v0_, .int .i64 r2, .int .i64 r3]) ∧ Kd.R (Kd.int .i64) 3 w' w.heap.size (fun _ => True) v0_ r1 ∧ Below w.heap.size w w' := by
  have HR1 := Aside0.mk hr1
  have HC1 := Aside0.mk hc1
  clear hr1 hc1
  have HB := Aside0.mk (Below.refl w.heap.size w)
  unfold branch_Dear.f at h
  obtain ⟨t, ht, h⟩ := Option.bind_eq_some_iff.1 h
  have HT0 := Aside0.mk ht
  clear ht
  by_cases c3 : t = 0
  case neg =>
    rw [if_neg c3] at h
    have c3b : (t == 0) = false := beq_eq_false_iff_ne.mpr c3
    have c3c : (t != 0) = true := bne_iff_ne.mpr c3
    simp only [Option.some.injEq, Prod.mk.injEq] at h
    obtain ⟨rfl, rfl, rfl⟩ := h
    clear c3
    go_enter Try.func26, Try.ntmps26
    go_wp2_with (first | (go_at_call 44; (refine (branch_read.calls_err a0 A1 c1 l1 t _ HR1.out HC1.out HT0.out (by assumption)).mono ?_); rintro e w1 ⟨rfl, hb⟩; clear HB; have HB := Aside0.mk hb; clear hb))
    go_ret3
    exact ⟨_, by first | rfl | (simp; done), Kd.R_nil _ _ _ _ _, HB.out⟩
  rw [if_pos c3] at h
  have c3b : (t == 0) = true := beq_iff_eq.mpr c3
  have c3c : (t != 0) = false := bne_eq_false_iff_eq.mpr c3
  clear c3
  obtain ⟨p, hp, h⟩ := Option.bind_eq_some_iff.1 h
  have HPR := Aside0.mk hp
  clear hp
  by_cases hpl : p.length < 17592186044416
  case neg => rw [if_neg hpl] at h; exact absurd h (by simp)
  rw [if_pos hpl] at h
  have HPL := Aside0.mk hpl
  clear hpl
  obtain ⟨⟨q1, q2, q3⟩, hq, h⟩ := Option.bind_eq_some_iff.1 h
  have HF := Aside0.mk hq
  have HH := Aside0.mk h
  clear hq h
  go_enter Try.func26, Try.ntmps26
  go_wp2_with (first | (go_at_call 44; (refine (branch_read.calls_map a0 A1 c1 l1 t _ HR1.out HC1.out HT0.out (by assumption)).mono ?_); rintro e w1 ⟨gt, mm, rfl, hg, hbox, hgm, hb⟩; have GT := Aside0.mk hg; have HT := Aside0.mk hbox; have HG := Aside0.mk hgm; clear HB; have HB := Aside0.mk hb; clear hg hbox hgm hb) | (go_at_call 47; (refine (branch_town_costs.calls k gt a0 A1 c1 l1 (some mm) p _ HT.out (Kd.C_below HR1.out HB.out) HC1.out HPR.out).mono ?_); rintro e w2 ⟨vl, rfl, ho, hb⟩; obtain ⟨Al, cl, hvl⟩ := Kd.R_slice ho; subst hvl; have HO := Aside0.mk ho; have n0_ := Aside0.mk (blk_below HT.out hb); have HBR := Aside0.mk HB.out; have HB1 := Aside0.mk hb; clear HT HB; have HT := n0_; clear n0_ ho hb))
  have HS1 := Aside0.mk HBR.out.size
  go_loopg [26] p.length (fun kq v26 w' => ∃ j : Nat, v26 = .int .i64 (j : Int) ∧ Aside0 (j + kq = p.length) ∧ Aside0 (Kd.R (Kd.int .i64) 3 w' w1.heap.size (fun _ => True) (.slice Al p.length cl) (dearB (p.take j) ++ p.drop j)) ∧ Aside0 (w'.heap[gt]? = some (.cells #[.int .i64 a0, .slice A1 l1.length c1, .map (some mm)] 70 (0, 0))) ∧ Aside0 (Below w1.heap.size w1 w'))
  case atStart => exact ⟨0, rfl, ⟨by simp⟩, ⟨by (with_reducible repeat (first | apply Kd.R_alloc | apply Kd.R_drewN | apply Kd.R_drew)); simpa [dearB] using HO.out⟩, ⟨by (with_reducible repeat (first | refine blk_drewN ?_ _ | refine blk_drew ?_ | refine blk_alloc ?_ _)); exact HT.out⟩, ⟨by repeat (first | (with_reducible first | exact HB1.out | apply below_alloc | apply pw_below_drewN | apply below_drew1) | exact HB1.out)⟩⟩
  case round =>
    clear HO HT HB1
    obtain ⟨j, rfl, HJ, HO, HT, HB1⟩ := hrel
    have HB := Aside0.mk (below_step HBR.out HB1.out)
    cases gk with
    | zero =>
      have hj := HJ.out
      have c4b : decide ((j : Int) < (p.length : Int)) = false := decide_eq_false (by omega)
      have c4b2 : decide (j < p.length) = false := decide_eq_false (by omega)
      have ho := HO.out
      rw [List.take_of_length_le (by omega), List.drop_eq_nil_of_le (by omega), List.append_nil] at ho
      clear HO hj
      go_upto_region 10 with (fail)
      (try simp only [Act.put, List.setIfInBounds_toArray, List.set_cons_zero, List.set_cons_succ])
      rw [show p.length = (dearB p).length from (dearB_length p).symm] at ho ⊢
      have HO := Aside0.mk ho
      clear ho
      by_cases t5 : q3 = 0
      case neg =>
        have hh := HH.out
        simp only [if_neg t5, Option.some.injEq, Prod.mk.injEq] at hh
        have s5 : (q3 == 0) = false := beq_eq_false_iff_ne.mpr t5
        have s5b : (q3 != 0) = true := bne_iff_ne.mpr t5
        clear t5
        obtain ⟨rfl, rfl, rfl⟩ := hh
        go_wp2_with (first | (go_at_call 51; (refine (branch_town_first.calls k gt a0 A1 c1 l1 mm w.heap.size Al cl (dearB p) q1 q2 _ _ HT.out (Kd.C_below HR1.out HB.out) HC1.out (Kd.R_reads' HO.out).2.2 (Kd.R_reads' HO.out).2.1 (HG.out.below HB1.out) HF.out).mono ?_); rintro e w3 ⟨vf, rfl, ho, hb⟩; have HV := Aside0.mk (Kd.R_lower ho (below_size HB.out)); have n0_ := Aside0.mk (below_step HB.out hb); clear HB; have HB := n0_; clear n0_ ho hb))
        go_ret3
        exact ⟨_, by first | rfl | (simp; done), Kd.R_nil _ _ _ _ _, by repeat (first | (with_reducible first | exact HB.out | apply below_alloc | apply pw_below_drewN | apply below_drew1) | exact HB.out)⟩
      subst t5
      have hh := HH.out
      simp only [if_true, Option.some.injEq, Prod.mk.injEq] at hh
      obtain ⟨rfl, hr2, rfl⟩ := hh
      have HR2 := Aside0.mk hr2
      clear hr2
      go_wp2_with (first | (go_at_call 51; (refine (branch_town_first.calls k gt a0 A1 c1 l1 mm w.heap.size Al cl (dearB p) q1 q2 _ _ HT.out (Kd.C_below HR1.out HB.out) HC1.out (Kd.R_reads' HO.out).2.2 (Kd.R_reads' HO.out).2.1 (HG.out.below HB1.out) HF.out).mono ?_); rintro e w3 ⟨vf, rfl, ho, hb⟩; have HV := Aside0.mk (Kd.R_lower ho (below_size HB.out)); have n0_ := Aside0.mk (below_step HB.out hb); clear HB; have HB := n0_; clear n0_ ho hb))
      go_ret3
      exact ⟨_, by first | (rw [← HR2.out]; rfl) | (rw [← HR2.out]; simp only [i64_w]; rfl) | (rw [← HR2.out]; simp [i64_w]; done), by (with_reducible repeat (first | apply Kd.R_alloc | apply Kd.R_drewN | apply Kd.R_drew)); exact HV.out, by repeat (first | (with_reducible first | exact HB.out | apply below_alloc | apply pw_below_drewN | apply below_drew1) | exact HB.out)⟩
    | succ k1 =>
      have hj0 : (0 : Int) ≤ (j : Int) := Int.natCast_nonneg _
      have hj1 : (j : Int) < (p.length : Int) := by have := HJ.out; omega
      have c4b : decide ((j : Int) < (p.length : Int)) = true := decide_eq_true hj1
      have hj2 : j < p.length := by omega
      have c4b2 : decide (j < p.length) = true := decide_eq_true hj2
      have hll := (Kd.R_reads' HO.out).1
      obtain ⟨go, cap, eo, gbo, glo, clo, hgo⟩ := Kd.R_form HO.out (by omega)
      injection eo with ea_ en_ ec_
      subst ea_ ec_
      clear en_ hll
      have GO := Aside0.mk gbo
      have GC := Aside0.mk hgo
      obtain ⟨hc, hf⟩ := Kd.R_celln 0 HO.out (j : Int) hj0 hj1
      replace hc := (show wr.cell? ⟨go, (j : Int).toNat, none⟩ = some (.int .i64 (rd (dearB (p.take j) ++ p.drop j) (j : Int))) from hc)
      rw [dear_rd p j hj2] at hc
      have HST := Aside0.mk (dear_set p j hj2)
      obtain ⟨y, hy⟩ : ∃ y, rd p (j : Int) = y := ⟨_, rfl⟩
      rw [hy] at hc
      have HY := Aside0.mk hy
      simp only [Int.toNat_natCast] at hc hf
      clear hy gbo glo hgo
      replace hj0 := eq_true hj0
      replace hj1 := eq_true hj1
      replace hj2 := eq_true hj2
      have hnt : gt ≠ go := blk_ne HT.out GC.out (by decide)
      go_wp2
      go_roundg k1
      case measure => omega
      case rel => exact ⟨j + 1, val_succ2 j (by have := HJ.out; have := HPL.out; omega), ⟨by have := HJ.out; omega⟩, ⟨by rw [← HST.out, HY.out]; (try simp only [i64_w]); (with_reducible repeat (first | apply Kd.R_alloc | apply Kd.R_drewN | apply Kd.R_drew)); exact Kd.R_putn HO.out (j : Int) (wrap64 (1000 - y))⟩, ⟨by (with_reducible repeat (first | refine blk_drewN ?_ _ | refine blk_drew ?_ | refine blk_alloc ?_ _)); exact blk_far HT.out hnt _⟩, ⟨by repeat (first | (with_reducible first | exact HB1.out | apply below_alloc | apply pw_below_drewN | apply below_drew1 | refine below_set ?_ GO.out) | exact HB1.out)⟩⟩
end Go.Proofs.Ytpmadffgdfholaa.B
