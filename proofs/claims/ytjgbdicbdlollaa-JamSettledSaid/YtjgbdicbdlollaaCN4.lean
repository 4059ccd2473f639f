/- Texts behind the row of JamSettled, part 4: contracts of the functions it reaches, words that their walks use, and lemmas in plain Lean. -/
import Derived.Below
import Derived.Deep.Draws
import Derived.Deep.AppendLies
import Derived.Maps.AppendAt
import Derived.OwnWalk
import Derived.Laws.BytesArg
import Derived.Laws.MakeOwn
import Derived.Laws.OwnMore
import Derived.Deep.OwnRows
import Derived.Tactics
import Derived.Lib.ConvBytes
import Derived.Laws.Slices
import Derived.WalkKit
import Derived.KernelRfl
import Derived.RowKit3
import Derived.Deep.LoopGhost
import Derived.Deep.QuietTactic
import Derived.BigQuiet
import Derived.WideLaws
import Derived.Deep.DeepCutAuto
import Derived.Deep.CutBlock
import Derived.Deep.RegionHeld3
import Derived.Laws.Rows
import Derived.Lib.AppendStr
import Derived.ArgAppend
import Derived.Laws.IdiomCopy
import Derived.RowKit
import Derived.OrdersHeld
import Derived.Laws.BitsLemmas
import Derived.Laws.StructEq
import Derived.Test.YtjgbdicbdlollaaProg
import Derived.WalkSpells
import Derived.MapKept
import Derived.Maps.RangeWalk
import Derived.Shelf.SlSortCmp.SmallK
import Derived.Ground.SlsfProg
import Derived.Test.YtjgbdicbdlollaaCN1
import Derived.Test.YtjgbdicbdlollaaCN2
import Derived.Test.YtjgbdicbdlollaaCN3
namespace Go.Proofs.Ytjgbdicbdlollaa.B
open Go.RowKit Go.Proofs.YtjgbdicbdlollaaW.PrintWords Go.Proofs.YtjgbdicbdlollaaW.PrintLast Go.Proofs.YtjgbdicbdlollaaW.PrintMore
attribute [local go_sem] max2_int min2_int max_two min_two max_three min_three max_four min_four   -- for this text's walks alone
set_option linter.unusedVariables false
set_option linter.unusedSimpArgs false
def trishawref02_Settled.l0 : Nat → List (List Int) → List (List Int) → Int → List (List Int) → List (List Int) → Option ((List (List Int)) × Int)
  | 0, _, _, _, _, _ => none
  | k + 1, x4, x5, x6, x102000, x102001 => if x6 < (x5.length : Int) then (if 0 ≤ x6 then ((trishawref02_step.f k x102000 x102001 (rd_L12 x5 x6)).bind fun bt107 => (if bt107.2 = true then (trishawref02_Settled.l0 k x4 x5 (wrap64 (x6 + 1)) x102000 x102001) else (if x4.length < 5864062014805 then (trishawref02_Settled.l0 k (x4 ++ [rd_L12 x5 x6]) x5 (wrap64 (x6 + 1)) x102000 x102001) else (none)))) else (none)) else (some (x4, 0))
def trishawref02_Settled.f (k : Nat) (l0_0 : List (List Int)) (l0_1 : List (List Int)) : Option ((List (List Int)) × Int) := (trishawref02_IsGame.f k l0_0 l0_1).bind fun t102 => (if t102 = true then ((trishawref02_choices.f l0_0 l0_1 ([] : List Int)).bind fun t103 => (trishawref02_Settled.l0 k ([] : List (List Int)) t103 0 l0_0 l0_1)) else (some (([] : List (List Int)), 2)))
def trishawref02_Settled.T8 : Bool × List (List Nat × List Nat) := (true, [([], []), ([], []), ([], []), ([1, 2], [1, 2]), ([3], [3]), ([0, 4], [0, 4]), ([5], [5]), ([6], [6]), ([6], [6]), ([7, 5, 0, 1, 2, 3, 4, 5, 6, 7], [7]), ([8, 9, 0, 1, 2, 3, 4, 5, 6, 7, 8, 9], [8])])
def trishawref02_Settled.B8 : List Nat := [0, 0, 0, 6, 14, 31, 63, 127, 127, 255, 1023]
theorem trishawref02_Settled.tab8 : rtab .any (opsOf Try.f36 8) = trishawref02_Settled.T8 := by kernel_rfl
theorem trishawref02_Settled.bits8 : waitsOk trishawref02_Settled.T8.2 trishawref02_Settled.B8 = true := by kernel_rfl
set_option maxHeartbeats 8000000 in
set_option maxRecDepth 100000 in
theorem trishawref02_Settled.calls (k : Nat) (A0_0 : Option Addr) (c0_0 : Nat) (l0_0 : List (List Int)) (A0_1 : Option Addr) (c0_1 : Nat) (l0_1 : List (List Int)) (r1 : List (List Int)) (r2 : Int) (w : World) (hr0_0 : Kd.C (Kd.slice 3 (Kd.int .i64)) w A0_0 l0_0.length l0_0) (hc0_0 : l0_0.length ≤ c0_0) (hr0_1 : Kd.C (Kd.slice 3 (Kd.int .i64)) w A0_1 l0_1.length l0_1) (hc0_1 : l0_1.length ≤ c0_1) (h : trishawref02_Settled.f k l0_0 l0_1 = some (r1, r2)) :
  Calls Try.prog 36 #[.agg #[.slice A0_0 l0_0.length c0_0, .slice A0_1 l0_1.length c0_1]] w fun e w' => ∃ v0_ : Value, e = .returned (.tuple #[v0_, .int .i64 r2]) ∧ Kd.N (Kd.slice 3 (Kd.int .i64)) 24 w' w.heap.size (fun k_ => (w.heap.size ≤ k_)) v0_ r1 ∧ Below w.heap.size w w' := by
 have hu41 := Try.underlying41
 have HR0_0 := Az0.mk hr0_0
 have HC0_0 := Az0.mk hc0_0
 clear hr0_0 hc0_0
 have HR0_1 := Az0.mk hr0_1
 have HC0_1 := Az0.mk hc0_1
 clear hr0_1 hc0_1
 have HB := Az0.mk (Below.refl w.heap.size w)
 have H : ((trishawref02_IsGame.f k l0_0 l0_1).bind fun t102 => (if t102 = true then ((trishawref02_choices.f l0_0 l0_1 ([] : List Int)).bind fun t103 => (trishawref02_Settled.l0 k ([] : List (List Int)) t103 0 l0_0 l0_1)) else (some (([] : List (List Int)), 2)))) = some (r1, r2) := h
 clear h
 replace H := Option.bind_eq_some_iff.mp H
 obtain ⟨t102, A20, H⟩ := H
 replace H : (if t102 = true then ((trishawref02_choices.f l0_0 l0_1 ([] : List Int)).bind fun t103 => (trishawref02_Settled.l0 k ([] : List (List Int)) t103 0 l0_0 l0_1)) else (some (([] : List (List Int)), 2))) = some (r1, r2) := H
 have A2 := Az0.mk A20
 clear A20
 by_cases c3 : t102 = true
 ·subst c3
  have H1 : ((trishawref02_choices.f l0_0 l0_1 ([] : List Int)).bind fun t103 => (trishawref02_Settled.l0 k ([] : List (List Int)) t103 0 l0_0 l0_1)) = some (r1, r2) := by rw [if_pos rfl] at H; exact H
  clear H
  have H := H1
  clear H1
  replace H := Option.bind_eq_some_iff.mp H
  obtain ⟨t103, A40, H⟩ := H
  replace H : (trishawref02_Settled.l0 k ([] : List (List Int)) t103 0 l0_0 l0_1) = some (r1, r2) := H
  have A4 := Az0.mk A40
  clear A40
  have H' := Az0.mk H
  clear H
  go_enter Try.func36, Try.ntmps36
  go_wp2_with (first | ((with_reducible refine gate_dst (N := 1) rfl ?_); refine box_event ?hg (N := 1) ?hd (cs := #[.slice A0_0 l0_0.length c0_0, .slice A0_1 l0_1.length c0_1]) (t := 41) ?hr ?_; (case hd => rfl); (case hg => rfl); (case hr => first | (go_simp; done) | (go_simp; rfl)); intro gb101 hg w5 hbox hb; have n0_ := Az0.mk (below_step (by repeat (first | (with_reducible first | exact HB.out | apply baA_ | apply pbN_ | apply bD1_) | exact HB.out)) hb); have n1_ := Az0.mk (hbox); have n2_ := Az0.mk ((by rw [hg]; exact (below_size (by repeat (first | (with_reducible first | exact HB.out | apply baA_ | apply pbN_ | apply bD1_) | exact HB.out))) : w.heap.size ≤ gb101)); have n3_ := Az0.mk ((by rw [hg]; exact (below_size (by repeat (first | (with_reducible first | exact HB.out | apply baA_ | apply pbN_ | apply bD1_) | exact HB.out))) : w.heap.size ≤ gb101)); clear HB; have HB := n0_; have BK101 := n1_; have GW101 := n2_; have GE101 := n3_; clear n0_ n1_ n2_ n3_; clear hb hbox hg; have hcz6_0 : w5.cell? ⟨gb101, 0, none⟩ = some (.slice A0_0 l0_0.length c0_0) := (bkC BK101.out 0).trans rfl; have hcz6_1 : w5.cell? ⟨gb101, 1, none⟩ = some (.slice A0_1 l0_1.length c0_1) := (bkC BK101.out 1).trans rfl; have hfz6_0 := blk_frozen BK101.out 0; have hfz6_1 := blk_frozen BK101.out 1) | ((with_reducible refine gate_callee (f := 25) rfl ?_); refine goesL_ (some 10) rfl rfl Try.func25 (by kernel_rfl) rfl #[.agg #[.slice A0_0 l0_0.length c0_0, .slice A0_1 l0_1.length c0_1]] rfl (by (try simp only [List.map_toArray, List.map_cons, List.map_nil]); first | done | rfl | (simp only [List.length_drop, List.length_take]; rfl)) ?_; (with_reducible refine (trishawref02_IsGame.calls k _ _ l0_0 _ _ l0_1 true _ ?side1 ?side2 ?side3 ?side4 A2.out).mono ?_); (case side1 => repeat (first | exact (Kd.C_below HR0_0.out HB.out) | (with_reducible refine Kd.C_alloc ?_ _) | (with_reducible refine Kd.C_drewN ?_ _) | (with_reducible refine Kd.C_drew ?_))); (case side2 => exact HC0_0.out); (case side3 => repeat (first | exact (Kd.C_below HR0_1.out HB.out) | (with_reducible refine Kd.C_alloc ?_ _) | (with_reducible refine Kd.C_drewN ?_ _) | (with_reducible refine Kd.C_drew ?_))); (case side4 => exact HC0_1.out); rintro e w7 ⟨rfl, hb⟩; refine ⟨_, rfl, ?_⟩; have n0_ := Az0.mk (blk_below (g := gb101) (o := .cells #[.slice A0_0 l0_0.length c0_0, .slice A0_1 l0_1.length c0_1] 41 (0, 0)) (by (with_reducible repeat (first | refine blk_drewN ?_ _ | refine blk_drew ?_ | refine blk_alloc ?_ _)); exact BK101.out) hb); have n1_ := Az0.mk (below_step (by repeat (first | (with_reducible first | exact HB.out | apply baA_ | apply pbN_ | apply bD1_ | refine below_set ?_ GE101.out) | exact HB.out)) hb); clear BK101; clear HB; have BK101 := n0_; have HB := n1_; clear n0_ n1_; (try clear hb); (try clear hb2); (try clear hk); (try clear hi); have hcz8_0 : w7.cell? ⟨gb101, 0, none⟩ = some (.slice A0_0 l0_0.length c0_0) := (bkC BK101.out 0).trans rfl; have hcz8_1 : w7.cell? ⟨gb101, 1, none⟩ = some (.slice A0_1 l0_1.length c0_1) := (bkC BK101.out 1).trans rfl; have hfz8_0 := blk_frozen BK101.out 0; have hfz8_1 := blk_frozen BK101.out 1) | ((with_reducible refine gate_callee (f := 68) rfl ?_); refine goesL_ (some 13) rfl rfl Try.func68 (by kernel_rfl) rfl #[.agg #[.slice A0_0 l0_0.length c0_0, .slice A0_1 l0_1.length c0_1], .slice none 0 0] rfl (by (try simp only [List.map_toArray, List.map_cons, List.map_nil]); first | done | rfl | (simp only [List.length_drop, List.length_take]; rfl)) ?_; (refine (trishawref02_choices.calls _ _ l0_0 _ _ l0_1 _ _ ([] : List Int) t103 _ ?side1 ?side2 ?side3 ?side4 ?side5 ?side6 A4.out).mono ?_); (case side1 => repeat (first | exact (Kd.C_below HR0_0.out HB.out) | (with_reducible refine Kd.C_alloc ?_ _) | (with_reducible refine Kd.C_drewN ?_ _) | (with_reducible refine Kd.C_drew ?_))); (case side2 => exact HC0_0.out); (case side3 => repeat (first | exact (Kd.C_below HR0_1.out HB.out) | (with_reducible refine Kd.C_alloc ?_ _) | (with_reducible refine Kd.C_drewN ?_ _) | (with_reducible refine Kd.C_drew ?_))); (case side4 => exact HC0_1.out); (case side5 => exact Kd.C_nil _ _); (case side6 => exact Nat.le_refl _); rintro e w9 ⟨v104, rfl, ho0, hb⟩; refine ⟨_, rfl, ?_⟩; have n0_ := Az0.mk (Kd.N_lower (Kd.N_mono (ok' := fun k_ => (w.heap.size ≤ k_) ∧ k_ ≠ gb101) (Kd.R_N (Kd.R_bound ho0)) (fun k_ hk_ => ⟨(Nat.le_trans (below_size (by repeat (first | (with_reducible first | exact HB.out | apply baA_ | apply pbN_ | apply bD1_ | refine below_set ?_ GE101.out) | exact HB.out))) hk_.2.1), (Kd.freshB (g := gb101) (o := .cells #[.slice A0_0 l0_0.length c0_0, .slice A0_1 l0_1.length c0_1] 41 (0, 0)) (by (with_reducible repeat (first | refine blk_drewN ?_ _ | refine blk_drew ?_ | refine blk_alloc ?_ _)); exact BK101.out) k_ hk_.2.1)⟩)) (below_size (by repeat (first | (with_reducible first | exact HB.out | apply baA_ | apply pbN_ | apply bD1_ | refine below_set ?_ GE101.out) | exact HB.out)))); have n1_ := Az0.mk (blk_below (g := gb101) (o := .cells #[.slice A0_0 l0_0.length c0_0, .slice A0_1 l0_1.length c0_1] 41 (0, 0)) (by (with_reducible repeat (first | refine blk_drewN ?_ _ | refine blk_drew ?_ | refine blk_alloc ?_ _)); exact BK101.out) hb); have n2_ := Az0.mk (below_step (by repeat (first | (with_reducible first | exact HB.out | apply baA_ | apply pbN_ | apply bD1_ | refine below_set ?_ GE101.out) | exact HB.out)) hb); clear BK101; clear HB; have HO105 := n0_; have BK101 := n1_; have HB := n2_; clear n0_ n1_ n2_; (try clear hb); (try clear hb2); (try clear hk); (try clear hi); (try clear ho0)))
  go_loopg [4, 6] k (fun kq v4 v6 w' => ∃ (x4_1 : List (List Int)) (x6_1 : Int), v6 = .int .i64 x6_1 ∧ Az0 (trishawref02_Settled.l0 kq x4_1 t103 x6_1 l0_0 l0_1 = some (r1, r2)) ∧ Az0 (kq ≤ k) ∧ Az0 (Kd.N (Kd.slice 3 (Kd.int .i64)) 24 w' w.heap.size (fun k_ => (w.heap.size ≤ k_) ∧ some k_ ≠ (v104 : Value).ownBlock ∧ k_ ≠ gb101) v4 x4_1) ∧ Az0 (Kd.N (Kd.slice 3 (Kd.int .i64)) 24 w' w.heap.size (fun k_ => (w.heap.size ≤ k_) ∧ some k_ ≠ (v4 : Value).ownBlock ∧ k_ ≠ gb101) v104 t103) ∧ Az0 (w'.heap[gb101]? = some (.cells #[(.slice A0_0 l0_0.length c0_0), (.slice A0_1 l0_1.length c0_1)] 41 (0, 0))) ∧ Az0 (Below w.heap.size w w'))
  case atStart => exact ⟨(([] : List (List Int))), (0), (by first | rfl | (simp; done) | (simp [*]; done)), H', ⟨Nat.le_refl _⟩, ⟨by first | exact Kd.S_nil _ _ _ _ _ | exact Kd.N_nil _ _ _ _ _ | exact Kd.V_nil _ _ _ _ _ | exact Kd.Q_nil _ _ _ _ _ | exact Kd.R_nil _ _ _ _ _⟩, ⟨by (with_reducible repeat (first | apply Kd.N_alloc | apply Kd.N_drewN | apply Kd.N_drew)); exact Kd.N_mono HO105.out (fun _ hk => ⟨hk.1, ⟨(by simp [Value.ownBlock]), hk.2⟩⟩)⟩, ⟨by (with_reducible repeat (first | refine blk_drewN ?_ _ | refine blk_drew ?_ | refine blk_alloc ?_ _)); exact BK101.out⟩, ⟨by repeat (first | (with_reducible first | exact HB.out | apply baA_ | apply pbN_ | apply bD1_ | refine below_set ?_ GE101.out) | exact HB.out)⟩⟩
  case round =>
   clear H'
   try clear c2
   try clear p2
   try clear c3
   try clear c6
   try clear hcz6_0
   try clear hcz6_1
   try clear hcz8_0
   try clear hcz8_1
   try clear hfz6_0
   try clear hfz6_1
   try clear hfz8_0
   try clear hfz8_1
   obtain ⟨x4_1, x6_1, rfl, HA, HK1, HO_4, HO_5, BK101, HB⟩ := hrel
   cases gk with
   | zero => exact absurd HA.out (by simp [trishawref02_Settled.l0])
   | succ k1 =>
    have H := HA.out
    clear HA
    simp only [trishawref02_Settled.l0] at H
    by_cases c10 : x6_1 < (t103.length : Int)
    ·rw [if_pos c10] at H
     have c10b0 : decide (x6_1 < (t103.length : Int)) = true := decide_eq_true c10
     clear c10
     by_cases c11 : 0 ≤ x6_1
     ·rw [if_pos c11] at H
      have c11b0 : decide (0 ≤ x6_1) = true := decide_eq_true c11
      clear c11
      replace H := Option.bind_eq_some_iff.mp H
      obtain ⟨⟨t107, t110⟩, A120, H⟩ := H
      replace H : (if t110 = true then (trishawref02_Settled.l0 k1 x4_1 t103 (wrap64 (x6_1 + 1)) l0_0 l0_1) else (if x4_1.length < 5864062014805 then (trishawref02_Settled.l0 k1 (x4_1 ++ [rd_L12 t103 x6_1]) t103 (wrap64 (x6_1 + 1)) l0_0 l0_1) else (none))) = some (r1, r2) := H
      have A12 := Az0.mk A120
      clear A120
      by_cases c13 : t110 = true
      ·subst c13
       have H1 : (trishawref02_Settled.l0 k1 x4_1 t103 (wrap64 (x6_1 + 1)) l0_0 l0_1) = some (r1, r2) := by rw [if_pos rfl] at H; exact H
       clear H
       have H := H1
       clear H1
       have H' := Az0.mk H
       clear H
       obtain ⟨Ao14, co14, eo14⟩ := Kd.N_slice HO_5.out
       subst eo14
       try go_wp2
       have n0_ := Az0.mk (Kd.N_drew HO_4.out)
       have n1_ := Az0.mk (Kd.N_drew HO_5.out)
       have n2_ := Az0.mk (blk_drew BK101.out)
       have n3_ := Az0.mk (bD1_ HB.out)
       clear HO_4
       clear HO_5
       clear BK101
       clear HB
       have HO_4 := n0_
       have HO_5 := n1_
       have BK101 := n2_
       have HB := n3_
       clear n0_ n1_ n2_ n3_
       have p106 : 0 ≤ (x6_1 : Int) := of_decide_eq_true (by first | (with_reducible assumption) | assumption)
       have q106 : x6_1 < (t103.length : Int) := of_decide_eq_true (by first | (with_reducible assumption) | assumption)
       obtain ⟨ad106, A106_0, c106_0, e106, hx106_0, hl106_0, hi106_0⟩ := at_L12 (Kd.N_reads' HO_5.out).2.2 x6_1 p106 q106
       cases e106
       obtain ⟨ce106, hce106, hMe106, hcc106⟩ := Kd.N_get HO_5.out [] x6_1 p106 (by first | exact q106 | exact of_decide_eq_true (by first | (with_reducible assumption) | assumption) | (have e_ := (Kd.N_reads' HO_5.out).1; omega))
       obtain ⟨ua106_0, uc106_0, rfl, ul106_0, ge106_0⟩ := Kd.FK_slice_open hMe106
       have hv106_0 := hcc106 0 _ rfl
       rw [Nat.add_zero, show ((Kd.slice 3 (Kd.int .i64))).sz = 1 from rfl, Nat.mul_one] at hv106_0
       replace hv106_0 := Option.some.inj (hv106_0.symm.trans hx106_0)
       injection hv106_0 with hva_ hvn_ hvc_
       rw [hva_] at ge106_0
       rw [hvc_] at ul106_0
       have HL106_0 := Az0.mk (show Kd.V (Kd.int .i64) 3 _ w.heap.size _ _ (rd_L12 t103 x6_1) from Kd.V_mk ul106_0 ge106_0)
       clear hva_ hvn_ hvc_ ge106_0 ul106_0
       clear hcc106 hce106
       have HR106_0 := Az0.mk hi106_0
       have HC106_0 := Az0.mk hl106_0
       clear hi106_0 hl106_0
       replace p106 := eq_true p106
       replace q106 := eq_true q106
       refine start_ (n := 11) (S := fun w' => w'.cell? ⟨gb101, 0, none⟩ = some (.slice A0_0 l0_0.length c0_0) ∧ w'.cell? ⟨gb101, 1, none⟩ = some (.slice A0_1 l0_1.length c0_1) ∧ w'.cell? (ad106.add (x6_1).toNat) = some (.slice A106_0 (rd_L12 t103 x6_1).length c106_0)) (ds := []) #[false, false, false, false, false, false, false, false, false, false, false] (by kernel_rfl) rfl rfl ⟨(bkC BK101.out 0).trans rfl, (bkC BK101.out 1).trans rfl, hx106_0⟩ (fun hHeld => ?_); refine with_tabW trishawref02_Settled.tab8 trishawref02_Settled.bits8 (fun HT_ HW_ => ?_)
       generalize wr.drew = w15 at HO_4 HO_5 BK101 HB HL106_0 HR106_0 hx106_0 hHeld ⊢
       refine pure_ (i := 1) (N := some 22) (v := ?_) (a' := ?_) #[false, true, false, false, false, false, false, false, false, false, false] rfl rfl (any_of HT_.out (by kernel_rfl)) (fun _ _ _ h => h) (Or.inl ⟨by rfl, ?_⟩) ?_ ?_
       rotate_left
       ·intro w'
        go_simp
        with_reducible rfl
       rotate_left
       ·simp only [Act.put, List.setIfInBounds_toArray, List.set_cons_zero, List.set_cons_succ, i64_w, i32_w]
        rfl
       refine pure_ (i := 2) (N := some 23) (v := ?_) (a' := ?_) #[false, true, true, false, false, false, false, false, false, false, false] rfl rfl (any_of HT_.out (by kernel_rfl)) (fun _ _ _ h => h) (Or.inl ⟨by rfl, ?_⟩) ?_ ?_
       rotate_left
       ·intro w'
        go_simp
        with_reducible rfl
       rotate_left
       ·simp only [Act.put, List.setIfInBounds_toArray, List.set_cons_zero, List.set_cons_succ, i64_w, i32_w]
        rfl
       refine pure_ (i := 3) (N := some 24) (v := ?_) (a' := ?_) #[false, true, true, true, false, false, false, false, false, false, false] rfl rfl (any_of HT_.out (by kernel_rfl)) (fun _ _ _ h => h) (Or.inl ⟨by rfl, ?_⟩) ?_ ?_
       rotate_left
       ·intro w'
        go_simp
        with_reducible rfl
       rotate_left
       ·simp only [Act.put, List.setIfInBounds_toArray, List.set_cons_zero, List.set_cons_succ, i64_w, i32_w]
        rfl
       refine take_ (i := 0) (N := some 21) (v := ?_) (a' := ?_) #[true, true, true, true, false, false, false, false, false, false, false] rfl rfl (take_ofW HT_.out HW_.out (by kernel_rfl)) (fun _ _ _ h => h) (Or.inl ⟨by rfl, ?_⟩) hHeld ?_ ?_
       rotate_left
       ·rintro w' ⟨s0, s1, s2⟩
        go_simp
        with_reducible rfl
       rotate_left
       ·simp only [Act.put, List.setIfInBounds_toArray, List.set_cons_zero, List.set_cons_succ, i64_w, i32_w]
        rfl
       refine take_ (i := 4) (N := some 25) (v := ?_) (a' := ?_) #[true, true, true, true, true, false, false, false, false, false, false] rfl rfl (take_ofW HT_.out HW_.out (by kernel_rfl)) (fun _ _ _ h => h) (Or.inl ⟨by rfl, ?_⟩) hHeld ?_ ?_
       rotate_left
       ·rintro w' ⟨s0, s1, s2⟩
        go_simp
        with_reducible rfl
       rotate_left
       ·simp only [Act.put, List.setIfInBounds_toArray, List.set_cons_zero, List.set_cons_succ, i64_w, i32_w]
        rfl
       refine one_ (i := 5) (N := some 26) #[true, true, true, true, true, true, false, false, false, false, false] rfl rfl (one_of HT_.out (by kernel_rfl)) (by decide) (fun K hK => ?_)
       refine goes_ Try.func69 (by kernel_rfl) rfl #[.agg #[.slice A0_0 l0_0.length c0_0, .slice A0_1 l0_1.length c0_1], .slice A106_0 (rd_L12 t103 x6_1).length c106_0] (by rfl) rfl rfl (by (try simp only [List.map_toArray, List.map_cons, List.map_nil]); first | done | rfl | (simp only [List.length_drop, List.length_take]; rfl)) ?_
       with_reducible refine (trishawref02_step.calls k1 _ _ l0_0 _ _ l0_1 _ _ (rd_L12 t103 x6_1) t107 true _ ?side1 ?side2 ?side3 ?side4 ?side5 ?side6 A12.out).mono ?_
       (case side1 => repeat (first | exact (Kd.C_below HR0_0.out HB.out) | (with_reducible refine Kd.C_alloc ?_ _) | (with_reducible refine Kd.C_drewN ?_ _) | (with_reducible refine Kd.C_drew ?_)))
       (case side2 => exact HC0_0.out)
       (case side3 => repeat (first | exact (Kd.C_below HR0_1.out HB.out) | (with_reducible refine Kd.C_alloc ?_ _) | (with_reducible refine Kd.C_drewN ?_ _) | (with_reducible refine Kd.C_drew ?_)))
       (case side4 => exact HC0_1.out)
       (case side5 => repeat (first | exact (by repeat (first | (with_reducible exact HR106_0.out) | (with_reducible refine Kd.C_alloc ?_ _) | (with_reducible refine Kd.C_drewN ?_ _) | (with_reducible refine Kd.C_drew ?_) | exact HR106_0.out)) | (with_reducible refine Kd.C_alloc ?_ _) | (with_reducible refine Kd.C_drewN ?_ _) | (with_reducible refine Kd.C_drew ?_)))
       (case side6 => exact HC106_0.out)
       rintro e w16 ⟨v108, rfl, ho0, hb⟩
       have HS2_ := (hb.cell (World.block_lt_of_cell? _ _ (hHeld.2.2))).trans (hHeld.2.2)
       refine ⟨_, rfl, ?_⟩
       have n0_ := Az0.mk (Kd.N_elder' (by (with_reducible repeat (first | apply Kd.N_alloc | apply Kd.N_drewN | apply Kd.N_drew)); exact HO_4.out) (Kd.R_base ho0) hb)
       have n1_ := Az0.mk (Kd.N_elder' (by (with_reducible repeat (first | apply Kd.N_alloc | apply Kd.N_drewN | apply Kd.N_drew)); exact HO_5.out) (Kd.R_base ho0) hb)
       have n2_ := Az0.mk (Kd.V_elder' (by (with_reducible repeat (first | apply Kd.V_alloc | apply Kd.V_drewN | apply Kd.V_drew)); exact HL106_0.out) (Kd.R_base ho0) hb)
       have n3_ := Az0.mk (Kd.R_lower (Kd.R_newM (M := fun k_ => (w.heap.size ≤ k_)) ho0 (below_size (by repeat (first | (with_reducible first | exact HB.out | apply baA_ | apply pbN_ | apply bD1_ | refine below_set ?_ GE101.out) | exact HB.out))) (fun k_ h_ => h_)) (below_size (by repeat (first | (with_reducible first | exact HB.out | apply baA_ | apply pbN_ | apply bD1_ | refine below_set ?_ GE101.out) | exact HB.out))))
       have n4_ := Az0.mk (blk_below (g := gb101) (o := .cells #[.slice A0_0 l0_0.length c0_0, .slice A0_1 l0_1.length c0_1] 41 (0, 0)) (by (with_reducible repeat (first | refine blk_drewN ?_ _ | refine blk_drew ?_ | refine blk_alloc ?_ _)); exact BK101.out) hb)
       have n5_ := Az0.mk (Kd.C_below (by repeat (first | (with_reducible exact HR106_0.out) | (with_reducible refine Kd.C_alloc ?_ _) | (with_reducible refine Kd.C_drewN ?_ _) | (with_reducible refine Kd.C_drew ?_) | exact HR106_0.out)) hb)
       have n6_ := Az0.mk (below_step (by repeat (first | (with_reducible first | exact HB.out | apply baA_ | apply pbN_ | apply bD1_ | refine below_set ?_ GE101.out) | exact HB.out)) hb)
       clear HO_4
       clear HO_5
       clear HL106_0
       clear BK101
       clear HR106_0
       clear HB
       have HO_4 := n0_
       have HO_5 := n1_
       have HL106_0 := n2_
       have HO109 := n3_
       have BK101 := n4_
       have HR106_0 := n5_
       have HB := n6_
       clear n0_ n1_ n2_ n3_ n4_ n5_ n6_
       (try clear hb)
       (try clear hb2)
       (try clear hk)
       (try clear hi)
       (try clear ho0)
       refine hK.out _ _ ⟨(bkC BK101.out 0).trans rfl, (bkC BK101.out 1).trans rfl, HS2_⟩ (fun hHeld => ?_)
       clear hK K
       refine norm_ (a' := ?_) ?_ ?_
       rotate_left
       ·show Act.put _ (some 26) _ = _
        simp only [Act.put, List.setIfInBounds_toArray, List.set_cons_zero, List.set_cons_succ, i64_w, i32_w]
        rfl
       refine pure_ (i := 6) (N := some 20) (v := ?_) (a' := ?_) #[true, true, true, true, true, true, true, false, false, false, false] rfl rfl (any_of HT_.out (by kernel_rfl)) (fun _ _ _ h => h) (Or.inl ⟨by rfl, ?_⟩) ?_ ?_
       rotate_left
       ·intro w'
        go_simp
        with_reducible rfl
       rotate_left
       ·simp only [Act.put, List.setIfInBounds_toArray, List.set_cons_zero, List.set_cons_succ, i64_w, i32_w]
        rfl
       refine pure_ (i := 7) (N := some 27) (v := ?_) (a' := ?_) #[true, true, true, true, true, true, true, true, false, false, false] rfl rfl (any_of HT_.out (by kernel_rfl)) (fun _ _ _ h => h) (Or.inl ⟨by rfl, ?_⟩) ?_ ?_
       rotate_left
       ·intro w'
        go_simp
        with_reducible rfl
       rotate_left
       ·simp only [Act.put, List.setIfInBounds_toArray, List.set_cons_zero, List.set_cons_succ, i64_w, i32_w]
        rfl
       refine pure_ (i := 8) (N := some 28) (v := ?_) (a' := ?_) #[true, true, true, true, true, true, true, true, true, false, false] rfl rfl (any_of HT_.out (by kernel_rfl)) (fun _ _ _ h => h) (Or.inl ⟨by rfl, ?_⟩) ?_ ?_
       rotate_left
       ·intro w'
        go_simp
        with_reducible rfl
       rotate_left
       ·simp only [Act.put, List.setIfInBounds_toArray, List.set_cons_zero, List.set_cons_succ, i64_w, i32_w]
        rfl
       refine pure_ (i := 9) (N := some 7) (v := ?_) (a' := ?_) #[true, true, true, true, true, true, true, true, true, true, false] rfl rfl (any_of HT_.out (by kernel_rfl)) (fun _ _ _ h => h) (Or.inl ⟨by rfl, ?_⟩) ?_ ?_
       rotate_left
       ·intro w'
        go_simp
        with_reducible rfl
       rotate_left
       ·simp only [Act.put, List.setIfInBounds_toArray, List.set_cons_zero, List.set_cons_succ, i64_w, i32_w]
        rfl
       refine pure_ (i := 10) (N := some 8) (v := ?_) (a' := ?_) #[true, true, true, true, true, true, true, true, true, true, true] rfl rfl (any_of HT_.out (by kernel_rfl)) (fun _ _ _ h => h) (Or.inl ⟨by rfl, ?_⟩) ?_ ?_
       rotate_left
       ·intro w'
        go_simp
        with_reducible rfl
       rotate_left
       ·simp only [Act.put, List.setIfInBounds_toArray, List.set_cons_zero, List.set_cons_succ, i64_w, i32_w]
        rfl
       refine done_ (done_of HT_.out (by kernel_rfl)) ?_
       try go_wp2
       go_roundg k1
       case measure => have := HK1.out; omega
       case rel => exact ⟨(x4_1), (wrap64 (x6_1 + 1)), (by first | rfl | (simp; done) | (simp [*]; done)), H', ⟨by have := HK1.out; omega⟩, ⟨by (with_reducible repeat (first | apply Kd.N_alloc | apply Kd.N_drewN | apply Kd.N_drew)); exact Kd.N_mono HO_4.out (fun _ hk => ⟨hk.1.1, ⟨hk.1.2.1, hk.1.2.2⟩⟩)⟩, ⟨by (with_reducible repeat (first | apply Kd.N_alloc | apply Kd.N_drewN | apply Kd.N_drew)); exact Kd.N_mono HO_5.out (fun _ hk => ⟨hk.1.1, ⟨hk.1.2.1, hk.1.2.2⟩⟩)⟩, ⟨by (with_reducible repeat (first | refine blk_drewN ?_ _ | refine blk_drew ?_ | refine blk_alloc ?_ _)); exact BK101.out⟩, ⟨by repeat (first | (with_reducible first | exact HB.out | apply baA_ | apply pbN_ | apply bD1_ | refine below_set ?_ GE101.out) | exact HB.out)⟩⟩
      ·replace c13 := Bool.eq_false_iff.mpr c13
       subst c13
       have H1 : (if x4_1.length < 5864062014805 then (trishawref02_Settled.l0 k1 (x4_1 ++ [rd_L12 t103 x6_1]) t103 (wrap64 (x6_1 + 1)) l0_0 l0_1) else (none)) = some (r1, r2) := by rw [if_neg (show ¬ (false = true) by decide)] at H; exact H
       clear H
       have H := H1
       clear H1
       by_cases c17 : x4_1.length < 5864062014805
       ·rw [if_pos c17] at H
        have LMc17 := Az0.mk c17
        clear c17
        obtain ⟨y112, hy112⟩ : ∃ y_ : List (List Int), y_ = (x4_1 ++ [rd_L12 t103 x6_1]) := ⟨_, rfl⟩
        replace H : (trishawref02_Settled.l0 k1 y112 t103 (wrap64 (x6_1 + 1)) l0_0 l0_1) = some (r1, r2) := by first | (rw [hy112]; with_reducible exact H) | (have H2_ := (Option.bind_some _ _).symm.trans H; rw [hy112]; with_reducible exact H2_) | (have H2_ := (Option.bind_some _ _).symm.trans H; with_reducible exact H2_) | with_reducible exact H | (rw [hy112]; exact H) | exact H
        have Ny112 := Az0.mk hy112
        clear hy112
        have H' := Az0.mk H
        clear H
        obtain ⟨Ao18, co18, eo18⟩ := Kd.N_slice HO_5.out
        subst eo18
        try go_wp2
        have n0_ := Az0.mk (Kd.N_drew HO_4.out)
        have n1_ := Az0.mk (Kd.N_drew HO_5.out)
        have n2_ := Az0.mk (blk_drew BK101.out)
        have n3_ := Az0.mk (bD1_ HB.out)
        clear HO_4
        clear HO_5
        clear BK101
        clear HB
        have HO_4 := n0_
        have HO_5 := n1_
        have BK101 := n2_
        have HB := n3_
        clear n0_ n1_ n2_ n3_
        have p106 : 0 ≤ (x6_1 : Int) := of_decide_eq_true (by first | (with_reducible assumption) | assumption)
        have q106 : x6_1 < (t103.length : Int) := of_decide_eq_true (by first | (with_reducible assumption) | assumption)
        obtain ⟨ad106, A106_0, c106_0, e106, hx106_0, hl106_0, hi106_0⟩ := at_L12 (Kd.N_reads' HO_5.out).2.2 x6_1 p106 q106
        cases e106
        obtain ⟨ce106, hce106, hMe106, hcc106⟩ := Kd.N_get HO_5.out [] x6_1 p106 (by first | exact q106 | exact of_decide_eq_true (by first | (with_reducible assumption) | assumption) | (have e_ := (Kd.N_reads' HO_5.out).1; omega))
        obtain ⟨ua106_0, uc106_0, rfl, ul106_0, ge106_0⟩ := Kd.FK_slice_open hMe106
        have hv106_0 := hcc106 0 _ rfl
        rw [Nat.add_zero, show ((Kd.slice 3 (Kd.int .i64))).sz = 1 from rfl, Nat.mul_one] at hv106_0
        replace hv106_0 := Option.some.inj (hv106_0.symm.trans hx106_0)
        injection hv106_0 with hva_ hvn_ hvc_
        rw [hva_] at ge106_0
        rw [hvc_] at ul106_0
        have HL106_0 := Az0.mk (show Kd.V (Kd.int .i64) 3 _ w.heap.size _ _ (rd_L12 t103 x6_1) from Kd.V_mk ul106_0 ge106_0)
        clear hva_ hvn_ hvc_ ge106_0 ul106_0
        clear hcc106 hce106
        have HR106_0 := Az0.mk hi106_0
        have HC106_0 := Az0.mk hl106_0
        clear hi106_0 hl106_0
        replace p106 := eq_true p106
        replace q106 := eq_true q106
        refine start_ (n := 11) (S := fun w' => w'.cell? ⟨gb101, 0, none⟩ = some (.slice A0_0 l0_0.length c0_0) ∧ w'.cell? ⟨gb101, 1, none⟩ = some (.slice A0_1 l0_1.length c0_1) ∧ w'.cell? (ad106.add (x6_1).toNat) = some (.slice A106_0 (rd_L12 t103 x6_1).length c106_0)) (ds := []) #[false, false, false, false, false, false, false, false, false, false, false] (by kernel_rfl) rfl rfl ⟨(bkC BK101.out 0).trans rfl, (bkC BK101.out 1).trans rfl, hx106_0⟩ (fun hHeld => ?_); refine with_tabW trishawref02_Settled.tab8 trishawref02_Settled.bits8 (fun HT_ HW_ => ?_)
        generalize wr.drew = w19 at HO_4 HO_5 BK101 HB HL106_0 HR106_0 hx106_0 hHeld ⊢
        refine pure_ (i := 1) (N := some 22) (v := ?_) (a' := ?_) #[false, true, false, false, false, false, false, false, false, false, false] rfl rfl (any_of HT_.out (by kernel_rfl)) (fun _ _ _ h => h) (Or.inl ⟨by rfl, ?_⟩) ?_ ?_
        rotate_left
        ·intro w'
         go_simp
         with_reducible rfl
        rotate_left
        ·simp only [Act.put, List.setIfInBounds_toArray, List.set_cons_zero, List.set_cons_succ, i64_w, i32_w]
         rfl
        refine pure_ (i := 2) (N := some 23) (v := ?_) (a' := ?_) #[false, true, true, false, false, false, false, false, false, false, false] rfl rfl (any_of HT_.out (by kernel_rfl)) (fun _ _ _ h => h) (Or.inl ⟨by rfl, ?_⟩) ?_ ?_
        rotate_left
        ·intro w'
         go_simp
         with_reducible rfl
        rotate_left
        ·simp only [Act.put, List.setIfInBounds_toArray, List.set_cons_zero, List.set_cons_succ, i64_w, i32_w]
         rfl
        refine pure_ (i := 3) (N := some 24) (v := ?_) (a' := ?_) #[false, true, true, true, false, false, false, false, false, false, false] rfl rfl (any_of HT_.out (by kernel_rfl)) (fun _ _ _ h => h) (Or.inl ⟨by rfl, ?_⟩) ?_ ?_
        rotate_left
        ·intro w'
         go_simp
         with_reducible rfl
        rotate_left
        ·simp only [Act.put, List.setIfInBounds_toArray, List.set_cons_zero, List.set_cons_succ, i64_w, i32_w]
         rfl
        refine take_ (i := 0) (N := some 21) (v := ?_) (a' := ?_) #[true, true, true, true, false, false, false, false, false, false, false] rfl rfl (take_ofW HT_.out HW_.out (by kernel_rfl)) (fun _ _ _ h => h) (Or.inl ⟨by rfl, ?_⟩) hHeld ?_ ?_
        rotate_left
        ·rintro w' ⟨s0, s1, s2⟩
         go_simp
         with_reducible rfl
        rotate_left
        ·simp only [Act.put, List.setIfInBounds_toArray, List.set_cons_zero, List.set_cons_succ, i64_w, i32_w]
         rfl
        refine take_ (i := 4) (N := some 25) (v := ?_) (a' := ?_) #[true, true, true, true, true, false, false, false, false, false, false] rfl rfl (take_ofW HT_.out HW_.out (by kernel_rfl)) (fun _ _ _ h => h) (Or.inl ⟨by rfl, ?_⟩) hHeld ?_ ?_
        rotate_left
        ·rintro w' ⟨s0, s1, s2⟩
         go_simp
         with_reducible rfl
        rotate_left
        ·simp only [Act.put, List.setIfInBounds_toArray, List.set_cons_zero, List.set_cons_succ, i64_w, i32_w]
         rfl
        refine one_ (i := 5) (N := some 26) #[true, true, true, true, true, true, false, false, false, false, false] rfl rfl (one_of HT_.out (by kernel_rfl)) (by decide) (fun K hK => ?_)
        refine goes_ Try.func69 (by kernel_rfl) rfl #[.agg #[.slice A0_0 l0_0.length c0_0, .slice A0_1 l0_1.length c0_1], .slice A106_0 (rd_L12 t103 x6_1).length c106_0] (by rfl) rfl rfl (by (try simp only [List.map_toArray, List.map_cons, List.map_nil]); first | done | rfl | (simp only [List.length_drop, List.length_take]; rfl)) ?_
        with_reducible refine (trishawref02_step.calls k1 _ _ l0_0 _ _ l0_1 _ _ (rd_L12 t103 x6_1) t107 false _ ?side1 ?side2 ?side3 ?side4 ?side5 ?side6 A12.out).mono ?_
        (case side1 => repeat (first | exact (Kd.C_below HR0_0.out HB.out) | (with_reducible refine Kd.C_alloc ?_ _) | (with_reducible refine Kd.C_drewN ?_ _) | (with_reducible refine Kd.C_drew ?_)))
        (case side2 => exact HC0_0.out)
        (case side3 => repeat (first | exact (Kd.C_below HR0_1.out HB.out) | (with_reducible refine Kd.C_alloc ?_ _) | (with_reducible refine Kd.C_drewN ?_ _) | (with_reducible refine Kd.C_drew ?_)))
        (case side4 => exact HC0_1.out)
        (case side5 => repeat (first | exact (by repeat (first | (with_reducible exact HR106_0.out) | (with_reducible refine Kd.C_alloc ?_ _) | (with_reducible refine Kd.C_drewN ?_ _) | (with_reducible refine Kd.C_drew ?_) | exact HR106_0.out)) | (with_reducible refine Kd.C_alloc ?_ _) | (with_reducible refine Kd.C_drewN ?_ _) | (with_reducible refine Kd.C_drew ?_)))
        (case side6 => exact HC106_0.out)
        rintro e w20 ⟨v108, rfl, ho0, hb⟩
        have HS2_ := (hb.cell (World.block_lt_of_cell? _ _ (hHeld.2.2))).trans (hHeld.2.2)
        refine ⟨_, rfl, ?_⟩
        have n0_ := Az0.mk (Kd.N_elder' (by (with_reducible repeat (first | apply Kd.N_alloc | apply Kd.N_drewN | apply Kd.N_drew)); exact HO_4.out) (Kd.R_base ho0) hb)
        have n1_ := Az0.mk (Kd.N_elder' (by (with_reducible repeat (first | apply Kd.N_alloc | apply Kd.N_drewN | apply Kd.N_drew)); exact HO_5.out) (Kd.R_base ho0) hb)
        have n2_ := Az0.mk (Kd.V_elder' (by (with_reducible repeat (first | apply Kd.V_alloc | apply Kd.V_drewN | apply Kd.V_drew)); exact HL106_0.out) (Kd.R_base ho0) hb)
        have n3_ := Az0.mk (Kd.R_lower (Kd.R_newM (M := fun k_ => (w.heap.size ≤ k_)) ho0 (below_size (by repeat (first | (with_reducible first | exact HB.out | apply baA_ | apply pbN_ | apply bD1_ | refine below_set ?_ GE101.out) | exact HB.out))) (fun k_ h_ => h_)) (below_size (by repeat (first | (with_reducible first | exact HB.out | apply baA_ | apply pbN_ | apply bD1_ | refine below_set ?_ GE101.out) | exact HB.out))))
        have n4_ := Az0.mk (blk_below (g := gb101) (o := .cells #[.slice A0_0 l0_0.length c0_0, .slice A0_1 l0_1.length c0_1] 41 (0, 0)) (by (with_reducible repeat (first | refine blk_drewN ?_ _ | refine blk_drew ?_ | refine blk_alloc ?_ _)); exact BK101.out) hb)
        have n5_ := Az0.mk (Kd.C_below (by repeat (first | (with_reducible exact HR106_0.out) | (with_reducible refine Kd.C_alloc ?_ _) | (with_reducible refine Kd.C_drewN ?_ _) | (with_reducible refine Kd.C_drew ?_) | exact HR106_0.out)) hb)
        have n6_ := Az0.mk (below_step (by repeat (first | (with_reducible first | exact HB.out | apply baA_ | apply pbN_ | apply bD1_ | refine below_set ?_ GE101.out) | exact HB.out)) hb)
        clear HO_4
        clear HO_5
        clear HL106_0
        clear BK101
        clear HR106_0
        clear HB
        have HO_4 := n0_
        have HO_5 := n1_
        have HL106_0 := n2_
        have HO109 := n3_
        have BK101 := n4_
        have HR106_0 := n5_
        have HB := n6_
        clear n0_ n1_ n2_ n3_ n4_ n5_ n6_
        (try clear hb)
        (try clear hb2)
        (try clear hk)
        (try clear hi)
        (try clear ho0)
        refine hK.out _ _ ⟨(bkC BK101.out 0).trans rfl, (bkC BK101.out 1).trans rfl, HS2_⟩ (fun hHeld => ?_)
        clear hK K
        refine norm_ (a' := ?_) ?_ ?_
        rotate_left
        ·show Act.put _ (some 26) _ = _
         simp only [Act.put, List.setIfInBounds_toArray, List.set_cons_zero, List.set_cons_succ, i64_w, i32_w]
         rfl
        refine pure_ (i := 6) (N := some 20) (v := ?_) (a' := ?_) #[true, true, true, true, true, true, true, false, false, false, false] rfl rfl (any_of HT_.out (by kernel_rfl)) (fun _ _ _ h => h) (Or.inl ⟨by rfl, ?_⟩) ?_ ?_
        rotate_left
        ·intro w'
         go_simp
         with_reducible rfl
        rotate_left
        ·simp only [Act.put, List.setIfInBounds_toArray, List.set_cons_zero, List.set_cons_succ, i64_w, i32_w]
         rfl
        refine pure_ (i := 7) (N := some 27) (v := ?_) (a' := ?_) #[true, true, true, true, true, true, true, true, false, false, false] rfl rfl (any_of HT_.out (by kernel_rfl)) (fun _ _ _ h => h) (Or.inl ⟨by rfl, ?_⟩) ?_ ?_
        rotate_left
        ·intro w'
         go_simp
         with_reducible rfl
        rotate_left
        ·simp only [Act.put, List.setIfInBounds_toArray, List.set_cons_zero, List.set_cons_succ, i64_w, i32_w]
         rfl
        refine pure_ (i := 8) (N := some 28) (v := ?_) (a' := ?_) #[true, true, true, true, true, true, true, true, true, false, false] rfl rfl (any_of HT_.out (by kernel_rfl)) (fun _ _ _ h => h) (Or.inl ⟨by rfl, ?_⟩) ?_ ?_
        rotate_left
        ·intro w'
         go_simp
         with_reducible rfl
        rotate_left
        ·simp only [Act.put, List.setIfInBounds_toArray, List.set_cons_zero, List.set_cons_succ, i64_w, i32_w]
         rfl
        refine pure_ (i := 9) (N := some 7) (v := ?_) (a' := ?_) #[true, true, true, true, true, true, true, true, true, true, false] rfl rfl (any_of HT_.out (by kernel_rfl)) (fun _ _ _ h => h) (Or.inl ⟨by rfl, ?_⟩) ?_ ?_
        rotate_left
        ·intro w'
         go_simp
         with_reducible rfl
        rotate_left
        ·simp only [Act.put, List.setIfInBounds_toArray, List.set_cons_zero, List.set_cons_succ, i64_w, i32_w]
         rfl
        refine pure_ (i := 10) (N := some 8) (v := ?_) (a' := ?_) #[true, true, true, true, true, true, true, true, true, true, true] rfl rfl (any_of HT_.out (by kernel_rfl)) (fun _ _ _ h => h) (Or.inl ⟨by rfl, ?_⟩) ?_ ?_
        rotate_left
        ·intro w'
         go_simp
         with_reducible rfl
        rotate_left
        ·simp only [Act.put, List.setIfInBounds_toArray, List.set_cons_zero, List.set_cons_succ, i64_w, i32_w]
         rfl
        refine done_ (done_of HT_.out (by kernel_rfl)) ?_
        have p111 : 0 ≤ (x6_1 : Int) := of_decide_eq_true (by first | (with_reducible assumption) | assumption)
        have q111 : x6_1 < (t103.length : Int) := of_decide_eq_true (by first | (with_reducible assumption) | assumption)
        obtain ⟨ad111, A111_0, c111_0, e111, hx111_0, hl111_0, hi111_0⟩ := at_L12 (Kd.N_reads' HO_5.out).2.2 x6_1 p111 q111
        obtain rfl : ad106 = ad111 := (by injection e111)
        obtain ⟨ce111, hce111, hMe111, hcc111⟩ := Kd.N_get HO_5.out [] x6_1 p111 (by first | exact q111 | exact of_decide_eq_true (by first | (with_reducible assumption) | assumption) | (have e_ := (Kd.N_reads' HO_5.out).1; omega))
        obtain ⟨ua111_0, uc111_0, rfl, ul111_0, ge111_0⟩ := Kd.FK_slice_open hMe111
        have hv111_0 := hcc111 0 _ rfl
        rw [Nat.add_zero, show ((Kd.slice 3 (Kd.int .i64))).sz = 1 from rfl, Nat.mul_one] at hv111_0
        replace hv111_0 := Option.some.inj (hv111_0.symm.trans hx111_0)
        injection hv111_0 with hva_ hvn_ hvc_
        rw [hva_] at ge111_0
        rw [hvc_] at ul111_0
        have HL111_0 := Az0.mk (show Kd.V (Kd.int .i64) 3 _ w.heap.size _ _ (rd_L12 t103 x6_1) from Kd.V_mk ul111_0 ge111_0)
        clear hva_ hvn_ hvc_ ge111_0 ul111_0
        clear hcc111 hce111
        have HR111_0 := Az0.mk hi111_0
        have HC111_0 := Az0.mk hl111_0
        clear hi111_0 hl111_0
        replace p111 := eq_true p111
        replace q111 := eq_true q111
        try go_wp2_with (first | ((with_reducible refine gate_builtin (b := .append) (xs := #[.tmp 31, .tmp 36]) rfl ?_); at_builtin; refine Kd.N_append (Kd.slice 3 (Kd.int .i64)) (w0 := w) w.heap.size rfl (.tmp 31) (.tmp 36) 39 24 (.slice none 0 0) 24 rfl Try.underlying39 info24 rfl (by decide) (by omega) u4 x4_1 (rd_L12 t103 x6_1) [.slice A106_0 (rd_L12 t103 x6_1).length c106_0] (fun k_ => (w.heap.size ≤ k_) ∧ some k_ ≠ (.slice (some ad106) t103.length co18 : Value).ownBlock ∧ some k_ ≠ (v108 : Value).ownBlock ∧ k_ ≠ gb101) (fun k_ => ((fun k_ => (w.heap.size ≤ k_) ∧ some k_ ≠ (.slice (some ad106) t103.length co18 : Value).ownBlock ∧ some k_ ≠ (v108 : Value).ownBlock ∧ k_ ≠ gb101)) k_ ∧ some k_ ≠ (u4 : Value).ownBlock) rfl rfl ?aP (fun _ hk => hk) ?aF ?aO ?aB ?aS ?aL ?_; (case aP => exact (Kd.FK_slice_mk (Kd.V_reads' (Kd.V_mono (ok' := (fun k_ => ((fun k_ => (w.heap.size ≤ k_) ∧ some k_ ≠ (.slice (some ad106) t103.length co18 : Value).ownBlock ∧ some k_ ≠ (v108 : Value).ownBlock ∧ k_ ≠ gb101)) k_ ∧ some k_ ≠ (u4 : Value).ownBlock)) (HL106_0.out) (fun k_ hk => ⟨⟨hk.1.1.1, ⟨hk.1.2, ⟨hk.2, hk.1.1.2.2⟩⟩⟩, hk.1.1.2.1⟩))).2.1 (Kd.V_F (Kd.V_mono (ok' := (fun k_ => ((fun k_ => (w.heap.size ≤ k_) ∧ some k_ ≠ (.slice (some ad106) t103.length co18 : Value).ownBlock ∧ some k_ ≠ (v108 : Value).ownBlock ∧ k_ ≠ gb101)) k_ ∧ some k_ ≠ (u4 : Value).ownBlock)) (HL106_0.out) (fun k_ hk => ⟨⟨hk.1.1.1, ⟨hk.1.2, ⟨hk.2, hk.1.1.2.2⟩⟩⟩, hk.1.1.2.1⟩))))); (case aB => exact (by repeat (first | (with_reducible first | exact HB.out | apply baA_ | apply pbN_ | apply bD1_ | refine below_set ?_ GE101.out) | exact HB.out))); (case aF => exact (fun k_ hk => ⟨(Nat.le_trans (below_size (by repeat (first | (with_reducible first | exact HB.out | apply baA_ | apply pbN_ | apply bD1_ | refine below_set ?_ GE101.out) | exact HB.out))) hk), Kd.fresh' (Kd.N_lt (by (with_reducible repeat (first | apply Kd.N_alloc | apply Kd.N_drewN | apply Kd.N_drew)); exact HO_5.out)) k_ hk, Kd.fresh' (Kd.R_lt (by (with_reducible repeat (first | apply Kd.R_alloc | apply Kd.R_drewN | apply Kd.R_drew)); exact HO109.out)) k_ hk, Kd.freshB (g := gb101) (o := .cells #[.slice A0_0 l0_0.length c0_0, .slice A0_1 l0_1.length c0_1] 41 (0, 0)) (by (with_reducible repeat (first | refine blk_drewN ?_ _ | refine blk_drew ?_ | refine blk_alloc ?_ _)); exact BK101.out) k_ hk⟩)); (case aO => exact (by (with_reducible repeat (first | apply Kd.N_alloc | apply Kd.N_drewN | apply Kd.N_drew)); exact Kd.N_mono HO_4.out (fun _ hk => ⟨hk.1.1, ⟨hk.1.2.1, ⟨hk.2, hk.1.2.2⟩⟩⟩))); (case aS => exact (below_size (by repeat (first | (with_reducible first | exact HB.out | apply baA_ | apply pbN_ | apply bD1_ | refine below_set ?_ GE101.out) | exact HB.out)))); (case aL => have := LMc17.out; omega); intro v113 w21 ho hb hg hat; rw [← Ny112.out] at ho; have n0_ := Az0.mk (Kd.N_afterv (ok := (fun k_ => (w.heap.size ≤ k_) ∧ some k_ ≠ (v108 : Value).ownBlock ∧ k_ ≠ gb101)) (by (with_reducible repeat (first | apply Kd.N_alloc | apply Kd.N_drewN | apply Kd.N_drew)); exact Kd.N_mono HO_5.out (fun _ hk => ⟨⟨hk.1.1, ⟨hk.2, hk.1.2.2⟩⟩, hk.1.2.1⟩)) hg hat); have n1_ := Az0.mk (blk_grown (g := gb101) (o := .cells #[.slice A0_0 l0_0.length c0_0, .slice A0_1 l0_1.length c0_1] 41 (0, 0)) (by (with_reducible repeat (first | refine blk_drewN ?_ _ | refine blk_drew ?_ | refine blk_alloc ?_ _)); exact BK101.out) hg (Kd.N_ne HO_4.out BK101.out (by decide))); have n2_ := Az0.mk (Kd.V_afterv (ok := (fun k_ => (w.heap.size ≤ k_) ∧ some k_ ≠ (.slice (some ad106) t103.length co18 : Value).ownBlock ∧ some k_ ≠ (v108 : Value).ownBlock ∧ k_ ≠ gb101)) (by (with_reducible repeat (first | apply Kd.V_alloc | apply Kd.V_drewN | apply Kd.V_drew)); exact Kd.V_mono HL106_0.out (fun _ hk => ⟨⟨hk.1.1.1, ⟨hk.1.2, ⟨hk.2, hk.1.1.2.2⟩⟩⟩, hk.1.1.2.1⟩)) hg hat); have n3_ := Az0.mk (Kd.R_over' (by (with_reducible repeat (first | apply Kd.R_alloc | apply Kd.R_drewN | apply Kd.R_drew)); exact HO109.out) (Kd.N_typed (by (with_reducible repeat (first | apply Kd.N_alloc | apply Kd.N_drewN | apply Kd.N_drew)); exact HO_4.out)) (by decide) hg); have n4_ := Az0.mk (Kd.V_afterv (ok := (fun k_ => (w.heap.size ≤ k_) ∧ some k_ ≠ (.slice (some ad106) t103.length co18 : Value).ownBlock ∧ some k_ ≠ (v108 : Value).ownBlock ∧ k_ ≠ gb101)) (by (with_reducible repeat (first | apply Kd.V_alloc | apply Kd.V_drewN | apply Kd.V_drew)); exact Kd.V_mono HL111_0.out (fun _ hk => ⟨⟨hk.1.1.1, ⟨hk.2, ⟨hk.1.2, hk.1.1.2.2⟩⟩⟩, hk.1.1.2.1⟩)) hg hat); have n5_ := Az0.mk (hb); have n6_ := Az0.mk (ho); clear HO_5; clear BK101; clear HL106_0; clear HO109; clear HL111_0; clear HB; clear HO_4; have HO_5 := n0_; have BK101 := n1_; have HL106_0 := n2_; have HO109 := n3_; have HL111_0 := n4_; have HB := n5_; have HO114 := n6_; clear n0_ n1_ n2_ n3_ n4_ n5_ n6_; clear ho hb hg hat))
        go_roundg k1
        case measure => have := HK1.out; omega
        case rel => exact ⟨(y112), (wrap64 (x6_1 + 1)), (by first | rfl | (simp; done) | (simp [*]; done)), H', ⟨by have := HK1.out; omega⟩, ⟨by (with_reducible repeat (first | apply Kd.N_alloc | apply Kd.N_drewN | apply Kd.N_drew)); exact Kd.N_mono HO114.out (fun _ hk => ⟨hk.1, ⟨hk.2.1, hk.2.2.2⟩⟩)⟩, ⟨by (with_reducible repeat (first | apply Kd.N_alloc | apply Kd.N_drewN | apply Kd.N_drew)); exact Kd.N_mono HO_5.out (fun _ hk => ⟨hk.1.1, ⟨hk.2, hk.1.2.2⟩⟩)⟩, ⟨by (with_reducible repeat (first | refine blk_drewN ?_ _ | refine blk_drew ?_ | refine blk_alloc ?_ _)); exact BK101.out⟩, ⟨by repeat (first | (with_reducible first | exact HB.out | apply baA_ | apply pbN_ | apply bD1_ | refine below_set ?_ GE101.out) | exact HB.out)⟩⟩
       ·rw [if_neg c17] at H
        exact absurd H (by simp)
     ·rw [if_neg c11] at H
      exact absurd H (by simp)
    ·rw [if_neg c10] at H
     have c10b0 : decide (x6_1 < (t103.length : Int)) = false := decide_eq_false c10
     clear c10
     simp only [Option.some.injEq, Prod.mk.injEq] at H
     obtain ⟨rfl, rfl⟩ := H
     obtain ⟨Ao22, co22, eo22⟩ := Kd.N_slice HO_5.out
     subst eo22
     go_wp2
     go_ret2
     exact ⟨_, by first | rfl | (simp [errW_none, errW_some] <;> rfl) | (simp [*, errW_none, errW_some] <;> rfl), by (with_reducible repeat (first | apply Kd.N_alloc | apply Kd.N_drewN | apply Kd.N_drew)); exact Kd.N_mono HO_4.out (fun _ hk => hk.1), by repeat (first | (with_reducible first | exact HB.out | apply baA_ | apply pbN_ | apply bD1_ | refine below_set ?_ GE101.out) | exact HB.out)⟩
 ·replace c3 := Bool.eq_false_iff.mpr c3
  subst c3
  have H1 : (some (([] : List (List Int)), 2)) = some (r1, r2) := by rw [if_neg (show ¬ (false = true) by decide)] at H; exact H
  clear H
  have H := H1
  clear H1
  simp only [Option.some.injEq, Prod.mk.injEq] at H
  obtain ⟨rfl, rfl⟩ := H
  go_enter Try.func36, Try.ntmps36
  go_wp2_with (first | ((with_reducible refine gate_dst (N := 1) rfl ?_); refine box_event ?hg (N := 1) ?hd (cs := #[.slice A0_0 l0_0.length c0_0, .slice A0_1 l0_1.length c0_1]) (t := 41) ?hr ?_; (case hd => rfl); (case hg => rfl); (case hr => first | (go_simp; done) | (go_simp; rfl)); intro gb101 hg w23 hbox hb; have n0_ := Az0.mk (below_step (by repeat (first | (with_reducible first | exact HB.out | apply baA_ | apply pbN_ | apply bD1_) | exact HB.out)) hb); have n1_ := Az0.mk (hbox); have n2_ := Az0.mk ((by rw [hg]; exact (below_size (by repeat (first | (with_reducible first | exact HB.out | apply baA_ | apply pbN_ | apply bD1_) | exact HB.out))) : w.heap.size ≤ gb101)); have n3_ := Az0.mk ((by rw [hg]; exact (below_size (by repeat (first | (with_reducible first | exact HB.out | apply baA_ | apply pbN_ | apply bD1_) | exact HB.out))) : w.heap.size ≤ gb101)); clear HB; have HB := n0_; have BK101 := n1_; have GW101 := n2_; have GE101 := n3_; clear n0_ n1_ n2_ n3_; clear hb hbox hg; have hcz24_0 : w23.cell? ⟨gb101, 0, none⟩ = some (.slice A0_0 l0_0.length c0_0) := (bkC BK101.out 0).trans rfl; have hcz24_1 : w23.cell? ⟨gb101, 1, none⟩ = some (.slice A0_1 l0_1.length c0_1) := (bkC BK101.out 1).trans rfl; have hfz24_0 := blk_frozen BK101.out 0; have hfz24_1 := blk_frozen BK101.out 1) | ((with_reducible refine gate_callee (f := 25) rfl ?_); refine goesL_ (some 10) rfl rfl Try.func25 (by kernel_rfl) rfl #[.agg #[.slice A0_0 l0_0.length c0_0, .slice A0_1 l0_1.length c0_1]] rfl (by (try simp only [List.map_toArray, List.map_cons, List.map_nil]); first | done | rfl | (simp only [List.length_drop, List.length_take]; rfl)) ?_; (with_reducible refine (trishawref02_IsGame.calls k _ _ l0_0 _ _ l0_1 false _ ?side1 ?side2 ?side3 ?side4 A2.out).mono ?_); (case side1 => repeat (first | exact (Kd.C_below HR0_0.out HB.out) | (with_reducible refine Kd.C_alloc ?_ _) | (with_reducible refine Kd.C_drewN ?_ _) | (with_reducible refine Kd.C_drew ?_))); (case side2 => exact HC0_0.out); (case side3 => repeat (first | exact (Kd.C_below HR0_1.out HB.out) | (with_reducible refine Kd.C_alloc ?_ _) | (with_reducible refine Kd.C_drewN ?_ _) | (with_reducible refine Kd.C_drew ?_))); (case side4 => exact HC0_1.out); rintro e w25 ⟨rfl, hb⟩; refine ⟨_, rfl, ?_⟩; have n0_ := Az0.mk (blk_below (g := gb101) (o := .cells #[.slice A0_0 l0_0.length c0_0, .slice A0_1 l0_1.length c0_1] 41 (0, 0)) (by (with_reducible repeat (first | refine blk_drewN ?_ _ | refine blk_drew ?_ | refine blk_alloc ?_ _)); exact BK101.out) hb); have n1_ := Az0.mk (below_step (by repeat (first | (with_reducible first | exact HB.out | apply baA_ | apply pbN_ | apply bD1_ | refine below_set ?_ GE101.out) | exact HB.out)) hb); clear BK101; clear HB; have BK101 := n0_; have HB := n1_; clear n0_ n1_; (try clear hb); (try clear hb2); (try clear hk); (try clear hi)))
  go_ret2
  exact ⟨_, by first | rfl | (simp [errW_none, errW_some] <;> rfl) | (simp [*, errW_none, errW_some] <;> rfl), by first | exact Kd.S_nil _ _ _ _ _ | exact Kd.N_nil _ _ _ _ _ | exact Kd.V_nil _ _ _ _ _ | exact Kd.Q_nil _ _ _ _ _ | exact Kd.R_nil _ _ _ _ _, by repeat (first | (with_reducible first | exact HB.out | apply baA_ | apply pbN_ | apply bD1_ | refine below_set ?_ GE101.out) | exact HB.out)⟩
end Go.Proofs.Ytjgbdicbdlollaa.B
namespace Go.Proofs.Ytjgbdicbdlollaa.B
open Go.RowKit Go.Proofs.YtjgbdicbdlollaaW.PrintWords Go.Proofs.YtjgbdicbdlollaaW.PrintLast Go.Proofs.YtjgbdicbdlollaaW.PrintMore
set_option linter.unusedVariables false
set_option linter.unusedSimpArgs false
/-- What Best's visitor does to the best choice and the least total. -/
def visB (k : Nat) (R T : List (List Int)) (s : List Int × Int) (ch : List Int) : Option (List Int × Int) :=
  (jam_game_costs.f k R (unitsOf T) (payF T) ch).bind fun r => if s.1 = [] ∨ r.2 < s.2 then (slices_Clone.f ch).bind fun c => some (c, r.2) else some s
theorem visB_mono (k : Nat) (R T : List (List Int)) (s : List Int × Int) (ch : List Int) : LeO (visB k R T s ch) (visB (k + 1) R T s ch) := by
  unfold visB
  exact LeO.bind (jam_game_costs.mono _ _ _ _ k) fun r => LeO.refl _
def jam_Best.f (k : Nat) (R T : List (List Int)) : Option (List Int × Int × Int) :=
  if readOk R T = true then (onF R (visB k R T) R.length 0 (List.replicate R.length 0) ([], 0)).bind fun q => some (q.2.1, q.2.2, 0) else some ([], 0, 2)
theorem jam_Best.mono : ∀ R T k, LeO (jam_Best.f k R T) (jam_Best.f (k + 1) R T) := by
  intro R T k
  unfold jam_Best.f
  exact LeO.ite (LeO.bind (onF_mono R (visB_mono k R T) _ _ _ _) fun q => LeO.refl _) (LeO.refl _)
theorem readOk_routes {R T : List (List Int)} (h : readOk R T = true) : 1 ≤ R.length ∧ R.length ≤ 5 ∧ ∀ i, (rd_L12 R i).length ≤ 5 := by
  unfold readOk at h
  simp only [Bool.and_eq_true, decide_eq_true_eq] at h
  refine ⟨h.1.1.1.1.1, h.1.1.1.1.2, fun i => ?_⟩
  have h2 := h.2
  rw [List.all_eq_true] at h2
  unfold rd_L12
  rcases Nat.lt_or_ge i.toNat R.length with hj | hj
  · rw [List.getD_eq_getElem?_getD, List.getElem?_eq_getElem hj]
    have h3 := h2 _ (List.getElem_mem hj)
    unfold routeOk at h3
    simp only [Bool.and_eq_true, decide_eq_true_eq] at h3
    exact h3.1.1.2
  · rw [List.getD_eq_getElem?_getD, List.getElem?_eq_none hj]; simp
/-- What Best's variables say. -/
structure InvB (wG : World) (n1 b5 b7 b8 g : Nat) (R T : List (List Int)) (N0 : Nat) (W : World) (s : List Int × Int) : Prop where
  hB : Below wG.heap.size wG W
  hG : Gm wG g R T
  c5 : W.heap[b5]? = some (.cells #[.pointer (some ⟨g, 0, none⟩)] 82 (0, 0))
  c7 : ∃ vb, W.heap[b7]? = some (.cells #[vb] 24 (0, 0)) ∧ ((vb = .slice none 0 0 ∧ s.1 = []) ∨ s.1 ≠ []) ∧ Kd.R (Kd.int .i64) 3 W N0 (fun k => N0 ≤ k) vb s.1
  c8 : W.heap[b8]? = some (.cells #[.int .i64 s.2] 3 (0, 0))
  o5 : wG.heap.size ≤ b5 ∧ b5 < n1
  o7 : wG.heap.size ≤ b7 ∧ b7 < n1
  o8 : wG.heap.size ≤ b8 ∧ b8 < n1
  oN : n1 ≤ N0
section
variable {wG W W' : World} {n1 b5 b7 b8 g N0 : Nat} {R T : List (List Int)} {s : List Int × Int}
theorem InvB.gm (h : InvB wG n1 b5 b7 b8 g R T N0 W s) : Gm W g R T := h.hG.below h.hB
theorem InvB.side (h : InvB wG n1 b5 b7 b8 g R T N0 W s) (hs : Side n1 N0 W W') : InvB wG n1 b5 b7 b8 g R T N0 W' s := by
  obtain ⟨vb, h1, h2, h3⟩ := h.c7
  refine ⟨⟨hs.os.trans h.hB.os, hs.tape.trans h.hB.tape, hs.output.trans h.hB.output, Nat.le_trans h.hB.size hs.size, fun k hk => (hs.blk k (Nat.lt_of_lt_of_le hk h.hB.size) (.inl (by have := h.o5; omega))).trans (h.hB.block k hk)⟩, h.hG, (hs.blk _ (blk_lt h.c5) (.inl h.o5.2)).trans h.c5, ⟨vb, (hs.blk _ (blk_lt h1) (.inl h.o7.2)).trans h1, h2, Kd.R_step h3 (fun k hk hlt => hs.blk k hlt (.inr hk))⟩, (hs.blk _ (blk_lt h.c8) (.inl h.o8.2)).trans h.c8, h.o5, h.o7, h.o8, h.oN⟩
theorem InvB.below (h : InvB wG n1 b5 b7 b8 g R T N0 W s) (hb : Below W.heap.size W W') : InvB wG n1 b5 b7 b8 g R T N0 W' s := by
  obtain ⟨vb, h1, h2, h3⟩ := h.c7
  exact ⟨below_step h.hB hb, h.hG, blk_below h.c5 hb, ⟨vb, blk_below h1 hb, h2, Kd.R_below h3 hb⟩, blk_below h.c8 hb, h.o5, h.o7, h.o8, h.oN⟩
theorem InvB.ne78 (h : InvB wG n1 b5 b7 b8 g R T N0 W s) : b7 ≠ b8 := by
  obtain ⟨vb, h1, h2, h3⟩ := h.c7
  rintro rfl
  have := h1.symm.trans h.c8
  injection this with this
  injection this with _ this
  exact absurd this (by decide)
theorem Mid.of_below (hb : Below W.heap.size W W') (hN : N0 ≤ W.heap.size) : Mid n1 N0 W W' := ⟨hb.size, fun k _ hk => hb.block k (Nat.lt_of_lt_of_le hk hN)⟩
/-- A better choice. -/
theorem InvB.put (h : InvB wG n1 b5 b7 b8 g R T N0 W s) (hN : N0 ≤ W.heap.size) {v : Value} {c : List Int} {t : Int} (hc : c ≠ []) (hR : Kd.R (Kd.int .i64) 3 W N0 (fun k => N0 ≤ k) v c) :
    InvB wG n1 b5 b7 b8 g R T N0 ((W.setCell ⟨b7, 0, none⟩ v).setCell ⟨b8, 0, none⟩ (.int .i64 t)) (c, t) ∧ Mid n1 N0 W ((W.setCell ⟨b7, 0, none⟩ v).setCell ⟨b8, 0, none⟩ (.int .i64 t)) := by
  obtain ⟨vb, h1, h2, h3⟩ := h.c7
  have hk : ∀ k, k ≠ b7 → k ≠ b8 → ((W.setCell ⟨b7, 0, none⟩ v).setCell ⟨b8, 0, none⟩ (.int .i64 t)).heap[k]? = W.heap[k]? := fun k e7 e8 => (Below.heap_setCell _ ⟨b8, 0, none⟩ _ k e8).trans (Below.heap_setCell _ ⟨b7, 0, none⟩ _ k e7)
  have n57 : b5 ≠ b7 := by
    rintro rfl
    have := h.c5.symm.trans h1
    injection this with this
    injection this with _ this
    exact absurd this (by decide)
  have n58 : b5 ≠ b8 := by
    rintro rfl
    have := h.c5.symm.trans h.c8
    injection this with this
    injection this with _ this
    exact absurd this (by decide)
  have n78 : b7 ≠ b8 := by
    rintro rfl
    have := h1.symm.trans h.c8
    injection this with this
    injection this with _ this
    exact absurd this (by decide)
  have hA := below_set (j := 0) (v := v) h.hB h.o7.1
  have hB := below_set (j := 0) (v := .int .i64 t) hA h.o8.1
  refine ⟨⟨hB, h.hG, (hk _ n57 n58).trans h.c5, ⟨v, ?_, .inr hc, Kd.R_step hR (fun k hk2 _ => hk k (by have := h.o7; have := h.oN; omega) (by have := h.o8; have := h.oN; omega))⟩, ?_, h.o5, h.o7, h.o8, h.oN⟩, ?_, fun k h1 h2 => hk k (by have := h.o7; omega) (by have := h.o8; omega)⟩
  · exact blk_far (blk_put (cs := #[vb]) h1 0 v rfl) n78 _
  · exact blk_put (cs := #[.int .i64 s.2]) (blk_far h.c8 (fun e => n78 e.symm) _) 0 _ rfl
  · simp
end
set_option maxHeartbeats 8000000 in
set_option maxRecDepth 100000 in
theorem best1_calls (k : Nat) (wG : World) (n1 b5 b7 b8 g : Nat) (R T : List (List Int)) (N0 : Nat) (W : World) (s s' : List Int × Int) (A : Option Addr) (c : Nat) (l : List Int) (hN : N0 ≤ W.heap.size) (hI : InvB wG n1 b5 b7 b8 g R T N0 W s) (hr : Kd.C (Kd.int .i64) W A l.length l) (hc : l.length ≤ c) (hl : l.length ≠ 0) (h : visB k R T s l = some s') :
  Calls Try.prog 60 #[.slice A l.length c, .pointer (some ⟨b5, 0, none⟩), .pointer (some ⟨b7, 0, none⟩), .pointer (some ⟨b8, 0, none⟩)] W fun e W' => e = .returned (.tuple #[]) ∧ InvB wG n1 b5 b7 b8 g R T N0 W' s' ∧ Mid n1 N0 W W' := by
 have qT : ∀ (w : World) (a : Option Addr) (n c n' c' : Nat), (binOp .eql 24 (.slice a n c) (.slice none n' c')).run Try.prog w = .ok (.bool a.isNone) w := fun w a n c n' c' => Lib.run_eql_slice_nil w _ _ a n c n' c' Try.underlying24
 unfold visB at h
 obtain ⟨⟨r1, r2⟩, hx, h⟩ := Option.bind_eq_some_iff.1 h
 simp only at h
 have HX := Az0.mk hx
 have HR := Az0.mk hr
 have HC := Az0.mk hc
 have HN := Az0.mk hN
 have HL := Az0.mk hl
 have HI0 := Az0.mk hI
 have HM := Az0.mk (Mid.of_below (n1 := n1) (Below.refl W.heap.size W) hN)
 have HB := Az0.mk (Below.refl W.heap.size W)
 have h5 : W.cell? ⟨b5, 0, none⟩ = some (.pointer (some ⟨g, 0, none⟩)) := (bkC hI.c5 0).trans rfl
 have n78 := hI.ne78
 have n87 : b8 ≠ b7 := fun e => n78 e.symm
 clear hx hr hc hN hI hl

 by_cases hn : s.1 = []
 ·rw [if_pos (.inl hn)] at h
  obtain ⟨c2, hcl, h⟩ := Option.bind_eq_some_iff.1 h
  obtain rfl := Option.some.inj h
  have HCL := Az0.mk hcl
  have HNX := Az0.mk hn
  clear hcl hn h
  go_enter Try.func60, Try.ntmps60
  go_wp2_with (first | (go_at_call 61; (refine (costs_g k g R T A c l r1 r2 _ HI0.out.gm HR.out HC.out HX.out).mono ?_); rintro e w3 ⟨v1, rfl, _, hb⟩; have HI := Az0.mk (HI0.out.below hb); clear HB h5; have HB := Az0.mk hb; clear hb; obtain ⟨vb, hc7, hnil, hRb⟩ := HI.out.c7; have h7 : w3.cell? ⟨b7, 0, none⟩ = some vb := (bkC hc7 0).trans rfl; have f7 := blk_frozen hc7 0; have h8 : w3.cell? ⟨b8, 0, none⟩ = some (.int .i64 s.2) := (bkC HI.out.c8 0).trans rfl; have f8 := blk_frozen HI.out.c8 0; obtain rfl : vb = .slice none 0 0 := (by rcases hnil with ⟨h1, _⟩ | h2; exact h1; exact absurd HNX.out h2); clear hnil; clear hRb hc7) | (go_at_call 62; (refine (slices_Clone.calls A c l c2 _ (Kd.C_below HR.out HB.out) HC.out HCL.out).mono ?_); rintro e w4 ⟨v2, rfl, ho, hb⟩; obtain ⟨Ac, cc, hv2⟩ := Kd.R_slice ho; subst hv2; have HI2 := Az0.mk (HI.out.below hb); have HR2 := Az0.mk (Kd.R_mono (Kd.R_bound (Kd.R_lower ho (Nat.le_trans HN.out HB.out.size))) (fun _ hk => hk.2.1)); have n0_ := Az0.mk (below_step HB.out hb); clear HB ho h7 h8 f7 f8; have HB := n0_; clear n0_ hb; obtain ⟨vb4, hc74, _, _⟩ := HI2.out.c7; have h7 : w4.cell? ⟨b7, 0, none⟩ = some vb4 := (bkC hc74 0).trans rfl; have f7 := blk_frozen hc74 0; have h8 : w4.cell? ⟨b8, 0, none⟩ = some (.int .i64 s.2) := (bkC HI2.out.c8 0).trans rfl; have f8 := blk_frozen HI2.out.c8 0; clear hc74))
  have HP := Az0.mk (HI2.out.put (t := r2) (Nat.le_trans HN.out HB.out.size) (by intro e; have := HCL.out; unfold slices_Clone.f at this; split at this; (have h1 := Option.some.inj this; rw [← h1] at e; exact HL.out (by rw [e]; rfl)); exact absurd this (by simp)) HR2.out)
  go_end0
  try go_wp2
  first | exact ⟨HP.out.1, Nat.le_trans HB.out.size HP.out.2.size, fun k h1 h2 => (HP.out.2.blk k h1 h2).trans (HB.out.block k (Nat.lt_of_lt_of_le h2 HN.out))⟩ | exact ⟨by first | rfl | (simp; done), HP.out.1, Nat.le_trans HB.out.size HP.out.2.size, fun k h1 h2 => (HP.out.2.blk k h1 h2).trans (HB.out.block k (Nat.lt_of_lt_of_le h2 HN.out))⟩
 ·have HNX := Az0.mk hn
  by_cases ht : r2 < s.2
  ·rw [if_pos (.inr ht)] at h
   obtain ⟨c2, hcl, h⟩ := Option.bind_eq_some_iff.1 h
   obtain rfl := Option.some.inj h
   have HCL := Az0.mk hcl
   have c0 : decide (r2 < s.2) = true := decide_eq_true ht
   clear hcl hn h ht
   go_enter Try.func60, Try.ntmps60
   go_wp2_with (first | (go_at_call 61; (refine (costs_g k g R T A c l r1 r2 _ HI0.out.gm HR.out HC.out HX.out).mono ?_); rintro e w3 ⟨v1, rfl, _, hb⟩; have HI := Az0.mk (HI0.out.below hb); clear HB h5; have HB := Az0.mk hb; clear hb; obtain ⟨vb, hc7, hnil, hRb⟩ := HI.out.c7; have h7 : w3.cell? ⟨b7, 0, none⟩ = some vb := (bkC hc7 0).trans rfl; have f7 := blk_frozen hc7 0; have h8 : w3.cell? ⟨b8, 0, none⟩ = some (.int .i64 s.2) := (bkC HI.out.c8 0).trans rfl; have f8 := blk_frozen HI.out.c8 0; obtain ⟨g5, cc5, hv5, _⟩ := Kd.R_form hRb (List.length_pos_iff.2 HNX.out); subst hv5; clear hnil; clear hRb hc7) | (go_at_call 62; (refine (slices_Clone.calls A c l c2 _ (Kd.C_below HR.out HB.out) HC.out HCL.out).mono ?_); rintro e w4 ⟨v2, rfl, ho, hb⟩; obtain ⟨Ac, cc, hv2⟩ := Kd.R_slice ho; subst hv2; have HI2 := Az0.mk (HI.out.below hb); have HR2 := Az0.mk (Kd.R_mono (Kd.R_bound (Kd.R_lower ho (Nat.le_trans HN.out HB.out.size))) (fun _ hk => hk.2.1)); have n0_ := Az0.mk (below_step HB.out hb); clear HB ho h7 h8 f7 f8; have HB := n0_; clear n0_ hb; obtain ⟨vb4, hc74, _, _⟩ := HI2.out.c7; have h7 : w4.cell? ⟨b7, 0, none⟩ = some vb4 := (bkC hc74 0).trans rfl; have f7 := blk_frozen hc74 0; have h8 : w4.cell? ⟨b8, 0, none⟩ = some (.int .i64 s.2) := (bkC HI2.out.c8 0).trans rfl; have f8 := blk_frozen HI2.out.c8 0; clear hc74))
   have HP := Az0.mk (HI2.out.put (t := r2) (Nat.le_trans HN.out HB.out.size) (by intro e; have := HCL.out; unfold slices_Clone.f at this; split at this; (have h1 := Option.some.inj this; rw [← h1] at e; exact HL.out (by rw [e]; rfl)); exact absurd this (by simp)) HR2.out)
   go_end0
   try go_wp2
   first | exact ⟨HP.out.1, Nat.le_trans HB.out.size HP.out.2.size, fun k h1 h2 => (HP.out.2.blk k h1 h2).trans (HB.out.block k (Nat.lt_of_lt_of_le h2 HN.out))⟩ | exact ⟨by first | rfl | (simp; done), HP.out.1, Nat.le_trans HB.out.size HP.out.2.size, fun k h1 h2 => (HP.out.2.blk k h1 h2).trans (HB.out.block k (Nat.lt_of_lt_of_le h2 HN.out))⟩
  ·rw [if_neg (by rintro (h1 | h1); exact hn h1; exact ht h1)] at h
   obtain rfl := Option.some.inj h
   have c0 : decide (r2 < s.2) = false := decide_eq_false ht
   clear hn h ht
   go_enter Try.func60, Try.ntmps60
   go_wp2_with (first | (go_at_call 61; (refine (costs_g k g R T A c l r1 r2 _ HI0.out.gm HR.out HC.out HX.out).mono ?_); rintro e w3 ⟨v1, rfl, _, hb⟩; have HI := Az0.mk (HI0.out.below hb); clear HB h5; have HB := Az0.mk hb; clear hb; obtain ⟨vb, hc7, hnil, hRb⟩ := HI.out.c7; have h7 : w3.cell? ⟨b7, 0, none⟩ = some vb := (bkC hc7 0).trans rfl; have f7 := blk_frozen hc7 0; have h8 : w3.cell? ⟨b8, 0, none⟩ = some (.int .i64 s.2) := (bkC HI.out.c8 0).trans rfl; have f8 := blk_frozen HI.out.c8 0; obtain ⟨g5, cc5, hv5, _⟩ := Kd.R_form hRb (List.length_pos_iff.2 HNX.out); subst hv5; clear hnil; clear hRb hc7))
   go_end0
   try go_wp2
   first | exact ⟨HI.out, Mid.of_below HB.out HN.out⟩ | exact ⟨by first | rfl | (simp; done), HI.out, Mid.of_below HB.out HN.out⟩
set_option maxHeartbeats 8000000 in
set_option maxRecDepth 100000 in
theorem jam_Best.calls (k : Nat) (A0_0 : Option Addr) (c0_0 : Nat) (l0_0 : List (List Int)) (A0_1 : Option Addr) (c0_1 : Nat) (l0_1 : List (List Int)) (r1 : List Int) (r2 r3 : Int) (w : World) (hr0_0 : Kd.C (Kd.slice 3 (Kd.int .i64)) w A0_0 l0_0.length l0_0) (hc0_0 : l0_0.length ≤ c0_0) (hr0_1 : Kd.C (Kd.slice 3 (Kd.int .i64)) w A0_1 l0_1.length l0_1) (hc0_1 : l0_1.length ≤ c0_1) (h : jam_Best.f k l0_0 l0_1 = some (r1, r2, r3)) :
  Calls Try.prog 27 #[.agg #[.slice A0_0 l0_0.length c0_0, .slice A0_1 l0_1.length c0_1]] w fun e w' => ∃ v0_ : Value, e = .returned (.tuple #[v0_, .int .i64 r2, .int .i64 r3]) ∧ Kd.R (Kd.int .i64) 3 w' w.heap.size (fun _ => True) v0_ r1 ∧ Below w.heap.size w w' := by
 have hu41 := Try.underlying41
 have hmf : ∀ (fn : Fn) (first cap : Array Value) (w : World), (Instr.makeFunc fn first cap).run Try.prog w = .ok (.func fn first cap) w := fun _ _ _ _ => rfl
 have HR0 := Az0.mk hr0_0
 have HC0 := Az0.mk hc0_0
 have HR1 := Az0.mk hr0_1
 have HC1 := Az0.mk hc0_1
 clear hr0_0 hc0_0 hr0_1 hc0_1
 have HB := Az0.mk (Below.refl w.heap.size w)
 unfold jam_Best.f at h
 by_cases hp : readOk l0_0 l0_1 = true
 case neg =>
  rw [if_neg hp] at h
  have HPO := Az0.mk (Bool.eq_false_iff.mpr hp)
  clear hp
  simp only [Option.some.injEq, Prod.mk.injEq] at h
  obtain ⟨rfl, rfl, rfl⟩ := h
  go_enter Try.func27, Try.ntmps27
  go_wp2_with (first | ((with_reducible refine gate_dst (N := 1) rfl ?_); refine box_event ?hg (N := 1) ?hd (cs := #[.slice A0_0 l0_0.length c0_0, .slice A0_1 l0_1.length c0_1]) (t := 41) ?hr ?_; (case hd => rfl); (case hg => rfl); (case hr => first | (go_simp; done) | (go_simp; rfl)); intro gb hg w1 hbox hb; have BB := Az0.mk hbox; clear HB; have HB := Az0.mk hb; clear hg hbox hb; have hb_0 : w1.cell? ⟨gb, 0, none⟩ = some (.slice A0_0 l0_0.length c0_0) := (bkC BB.out 0).trans rfl; have hb_1 : w1.cell? ⟨gb, 1, none⟩ = some (.slice A0_1 l0_1.length c0_1) := (bkC BB.out 1).trans rfl) | (go_at_call 58; (refine (read_err A0_0 c0_0 l0_0 A0_1 c0_1 l0_1 _ (Kd.C_below HR0.out HB.out) HC0.out (Kd.C_below HR1.out HB.out) HC1.out HPO.out).mono ?_); rintro e w2 ⟨rfl, hb⟩; have n0_ := Az0.mk (below_step HB.out hb); clear HB BB hb hb_0 hb_1; have HB := n0_; clear n0_))
  go_ret3
  exact ⟨_, by first | rfl | (simp; done), Kd.R_nil _ _ _ _ _, by repeat (first | (with_reducible first | exact HB.out | apply baA_ | apply pbN_ | apply bD1_) | exact HB.out)⟩
 rw [if_pos hp] at h
 have HPO := Az0.mk hp
 clear hp
 obtain ⟨⟨ch1, x1, x2⟩, hx, h⟩ := Option.bind_eq_some_iff.1 h
 have HX := Az0.mk hx
 clear hx
 simp only [Option.some.injEq, Prod.mk.injEq] at h
 obtain ⟨rfl, rfl, rfl⟩ := h
 go_enter Try.func27, Try.ntmps27
 go_upto_region 4 with (first | ((with_reducible refine gate_dst (N := 1) rfl ?_); refine box_event ?hg (N := 1) ?hd (cs := #[.slice A0_0 l0_0.length c0_0, .slice A0_1 l0_1.length c0_1]) (t := 41) ?hr ?_; (case hd => rfl); (case hg => rfl); (case hr => first | (go_simp; done) | (go_simp; rfl)); intro gb hg w1 hbox hb; have BB := Az0.mk hbox; clear HB; have HB := Az0.mk hb; clear hg hbox hb; have hb_0 : w1.cell? ⟨gb, 0, none⟩ = some (.slice A0_0 l0_0.length c0_0) := (bkC BB.out 0).trans rfl; have hb_1 : w1.cell? ⟨gb, 1, none⟩ = some (.slice A0_1 l0_1.length c0_1) := (bkC BB.out 1).trans rfl) | (go_at_call 58; (refine (read_ok A0_0 c0_0 l0_0 A0_1 c0_1 l0_1 _ (Kd.C_below HR0.out HB.out) HC0.out (Kd.C_below HR1.out HB.out) HC1.out HPO.out).mono ?_); rintro e w2 ⟨g, rfl, _, hG, hb⟩; have GM := Az0.mk hG; have n0_ := Az0.mk (below_step HB.out hb); clear HB BB hb hG hb_0 hb_1; have HB := n0_; clear n0_))
 obtain ⟨b5, hb5⟩ : ∃ b5, w2.heap.size = b5 := ⟨_, rfl⟩
 rw [hb5]
 obtain ⟨wa, hwa⟩ : ∃ wa, w2.alloc (.cells #[.pointer (some ⟨g, 0, none⟩)] 82) = wa := ⟨_, rfl⟩
 rw [hwa]
 have n0_ : Below w2.heap.size w2 wa := hwa ▸ baA_ (Below.refl _ _) _
 have B5 := Az0.mk (hb5 ▸ hwa ▸ heap_alloc_new w2 _ : wa.heap[b5]? = some (.cells #[.pointer (some ⟨g, 0, none⟩)] 82 (0, 0)))
 have O5 := Az0.mk (show w2.heap.size ≤ b5 by rw [hb5]; exact Nat.le_refl _)
 have HBA := Az0.mk n0_
 clear hwa hb5 n0_
 go_upto_region 5 with (fail)
 obtain ⟨b7, hb7⟩ : ∃ b7, wa.heap.size = b7 := ⟨_, rfl⟩
 rw [hb7]
 obtain ⟨wb, hwb⟩ : ∃ wb, wa.alloc (.cells #[.slice none 0 0] 24) = wb := ⟨_, rfl⟩
 rw [hwb]
 have n0_ : Below wa.heap.size wa wb := hwb ▸ baA_ (Below.refl _ _) _
 have B7 := Az0.mk (hb7 ▸ hwb ▸ heap_alloc_new wa _ : wb.heap[b7]? = some (.cells #[.slice none 0 0] 24 (0, 0)))
 have O7 := Az0.mk (show w2.heap.size ≤ b7 by rw [← hb7]; exact HBA.out.size)
 have n1_ := Az0.mk (below_step HBA.out n0_)
 have n2_ := Az0.mk (blk_below B5.out n0_)
 clear HBA B5 hwb hb7 n0_
 have HBA := n1_; have B5 := n2_
 clear n1_ n2_
 go_upto_region 6 with (fail)
 obtain ⟨b8, hb8⟩ : ∃ b8, wb.heap.size = b8 := ⟨_, rfl⟩
 rw [hb8]
 obtain ⟨wz, hwz⟩ : ∃ wz, wb.alloc (.cells #[.int .i64 0] 3) = wz := ⟨_, rfl⟩
 rw [hwz]
 have n0_ : Below wb.heap.size wb wz := hwz ▸ baA_ (Below.refl _ _) _
 have B8 := Az0.mk (hb8 ▸ hwz ▸ heap_alloc_new wb _ : wz.heap[b8]? = some (.cells #[.int .i64 0] 3 (0, 0)))
 have O8 := Az0.mk (show w2.heap.size ≤ b8 by rw [← hb8]; exact HBA.out.size)
 have n1_ := Az0.mk (below_step HBA.out n0_)
 have n2_ := Az0.mk (blk_below B5.out n0_)
 have n3_ := Az0.mk (blk_below B7.out n0_)
 clear HBA B5 B7 hwz hb8 n0_
 have HBA := n1_; have B5 := n2_; have B7 := n3_
 clear n1_ n2_ n3_
 have HRO := Az0.mk (readOk_routes HPO.out)
 have HST := Az0.mk (show ∀ W, Below wz.heap.size wz W → InvB w2 wz.heap.size b5 b7 b8 g l0_0 l0_1 W.heap.size W ([], 0) from fun W hW => ⟨below_step HBA.out hW, GM.out, blk_below B5.out hW, ⟨_, blk_below B7.out hW, .inl ⟨rfl, rfl⟩, Kd.R_nil _ _ _ _ _⟩, blk_below B8.out hW, ⟨O5.out, blk_lt B5.out⟩, ⟨O7.out, blk_lt B7.out⟩, ⟨O8.out, blk_lt B8.out⟩, hW.size⟩)
 have h5 : wz.cell? ⟨b5, 0, none⟩ = some (.pointer (some ⟨g, 0, none⟩)) := (bkC B5.out 0).trans rfl
 go_upto_region 7 with (first | (go_at_call 59; go_loud ((refine (all_calls l0_0 l0_1 g 60 #[.pointer (some ⟨b5, 0, none⟩), .pointer (some ⟨b7, 0, none⟩), .pointer (some ⟨b8, 0, none⟩)] _ Try.func60 (by kernel_rfl) rfl (visB k l0_0 l0_1) (InvB w2 wz.heap.size b5 b7 b8 g l0_0 l0_1) wz ([], 0) (x1, x2) ch1 HST.out (fun N0 W s h => h.gm) (fun N0 W W' s _ h hs => h.side hs) (fun N0 W s s' A c l hn hN hI hC hc hl hv => best1_calls k w2 wz.heap.size b5 b7 b8 g l0_0 l0_1 N0 W s s' A c l hN hI hC hc (by have := HRO.out.1; omega) hv) HRO.out.1 HRO.out.2.1 HRO.out.2.2 HX.out).mono ?_); rintro e w5 ⟨rfl, N0, hn, hI⟩; have HN := Az0.mk hn; have HI := Az0.mk hI; clear hn hI h5)))
 obtain ⟨vb, hc7, hnil, hRb⟩ := HI.out.c7
 have HRB := Az0.mk hRb
 have h7 : w5.cell? ⟨b7, 0, none⟩ = some vb := (bkC hc7 0).trans rfl
 have h8 : w5.cell? ⟨b8, 0, none⟩ = some (.int .i64 x2) := (bkC HI.out.c8 0).trans rfl
 obtain ⟨Ab, cb, hvb⟩ := Kd.R_slice hRb
 subst hvb
 clear hc7 hnil hRb
 go_region_held3 (fun w' => w'.cell? ⟨b7, 0, none⟩ = some (.slice Ab x1.length cb) ∧ w'.cell? ⟨b8, 0, none⟩ = some (.int .i64 x2)) (go_keep) (fail)
 go_wp2
 go_ret3
 exact ⟨_, by first | rfl | (simp; done), by (with_reducible repeat (first | apply Kd.R_alloc | apply Kd.R_drewN | apply Kd.R_drew)); exact Kd.R_mono (Kd.R_lower HRB.out (Nat.le_trans (Nat.le_trans (below_size HB.out) HBA.out.size) HN.out)) (fun _ _ => trivial), by repeat (first | (with_reducible first | exact (below_step HB.out HI.out.hB) | apply baA_ | apply pbN_ | apply bD1_) | exact (below_step HB.out HI.out.hB))⟩
end Go.Proofs.Ytjgbdicbdlollaa.B
namespace Go.Proofs.Ytjgbdicbdlollaa.B
open Go.RowKit Go.Proofs.YtjgbdicbdlollaaW.PrintWords Go.Proofs.YtjgbdicbdlollaaW.PrintLast Go.Proofs.YtjgbdicbdlollaaW.PrintMore
set_option linter.unusedVariables false
set_option linter.unusedSimpArgs false
/-- What Settled's visitor does to the rows. -/
def visS (k : Nat) (R T : List (List Int)) (s : List (List Int)) (ch : List Int) : Option (List (List Int)) :=
  (jam_game_step.f k R (unitsOf T) (payF T) ch).bind fun nx => if nx = [] then (slices_Clone.f ch).bind fun c => if s.length < 1000000 then some (s ++ [c]) else none else some s
def jam_Settled.f (k : Nat) (R T : List (List Int)) : Option (List (List Int) × Int) :=
  if readOk R T = true then (onF R (visS k R T) R.length 0 (List.replicate R.length 0) []).bind fun q => some (q.2, 0) else some ([], 2)
/-- What Settled's variables say. -/
structure InvS (wG : World) (n1 b5 b6 g : Nat) (R T : List (List Int)) (N0 : Nat) (W : World) (s : List (List Int)) : Prop where
  hB : Below wG.heap.size wG W
  hG : Gm wG g R T
  c5 : W.heap[b5]? = some (.cells #[.pointer (some ⟨g, 0, none⟩)] 82 (0, 0))
  c6 : ∃ vb, W.heap[b6]? = some (.cells #[vb] 39 (0, 0)) ∧ Kd.R (Kd.slice 3 (Kd.int .i64)) 24 W N0 (fun k => N0 ≤ k) vb s
  o5 : wG.heap.size ≤ b5 ∧ b5 < n1
  o6 : wG.heap.size ≤ b6 ∧ b6 < n1
  oN : n1 ≤ N0
section
variable {wG W W' : World} {n1 b5 b6 g N0 : Nat} {R T : List (List Int)} {s : List (List Int)}
theorem InvS.gm (h : InvS wG n1 b5 b6 g R T N0 W s) : Gm W g R T := h.hG.below h.hB
theorem InvS.side (h : InvS wG n1 b5 b6 g R T N0 W s) (hs : Side n1 N0 W W') : InvS wG n1 b5 b6 g R T N0 W' s := by
  obtain ⟨vb, h1, h3⟩ := h.c6
  refine ⟨⟨hs.os.trans h.hB.os, hs.tape.trans h.hB.tape, hs.output.trans h.hB.output, Nat.le_trans h.hB.size hs.size, fun k hk => (hs.blk k (Nat.lt_of_lt_of_le hk h.hB.size) (.inl (by have := h.o5; omega))).trans (h.hB.block k hk)⟩, h.hG, (hs.blk _ (blk_lt h.c5) (.inl h.o5.2)).trans h.c5, ⟨vb, (hs.blk _ (blk_lt h1) (.inl h.o6.2)).trans h1, Kd.R_step h3 (fun k hk hlt => hs.blk k hlt (.inr hk))⟩, h.o5, h.o6, h.oN⟩
theorem InvS.below (h : InvS wG n1 b5 b6 g R T N0 W s) (hb : Below W.heap.size W W') : InvS wG n1 b5 b6 g R T N0 W' s := by
  obtain ⟨vb, h1, h3⟩ := h.c6
  exact ⟨below_step h.hB hb, h.hG, blk_below h.c5 hb, ⟨vb, blk_below h1 hb, Kd.R_below h3 hb⟩, h.o5, h.o6, h.oN⟩
/-- A row more. -/
theorem InvS.put (h : InvS wG n1 b5 b6 g R T N0 W s) (hN : N0 ≤ W.heap.size) (hb : Below N0 W W') {v : Value} {s2 : List (List Int)} (hR : Kd.R (Kd.slice 3 (Kd.int .i64)) 24 W' N0 (fun k => N0 ≤ k) v s2) :
    (∃ vb, W'.heap[b6]? = some (.cells #[vb] 39 (0, 0))) ∧ InvS wG n1 b5 b6 g R T N0 (W'.setCell ⟨b6, 0, none⟩ v) s2 ∧ Mid n1 N0 W (W'.setCell ⟨b6, 0, none⟩ v) := by
  obtain ⟨vb, h1, h3⟩ := h.c6
  have k6 : b6 < N0 := by have := h.o6; have := h.oN; omega
  have k5 : b5 < N0 := by have := h.o5; have := h.oN; omega
  have n56 : b5 ≠ b6 := by
    rintro rfl
    have := h.c5.symm.trans h1
    injection this with this
    injection this with _ this
    exact absurd this (by decide)
  have hk : ∀ k, k ≠ b6 → (W'.setCell ⟨b6, 0, none⟩ v).heap[k]? = W'.heap[k]? := fun k e6 => Below.heap_setCell _ ⟨b6, 0, none⟩ _ k e6
  have hB9 : Below wG.heap.size wG W' := ⟨hb.os.trans h.hB.os, hb.tape.trans h.hB.tape, hb.output.trans h.hB.output, Nat.le_trans h.hB.size hb.size, fun k hk => (hb.block k (by have := h.o5; omega)).trans (h.hB.block k hk)⟩
  have h19 := (hb.block b6 k6).trans h1
  refine ⟨⟨vb, h19⟩, ⟨below_set (j := 0) (v := v) hB9 h.o6.1, h.hG, (hk _ n56).trans ((hb.block b5 k5).trans h.c5), ⟨v, blk_put (cs := #[vb]) h19 0 v rfl, Kd.R_step hR (fun k hk2 _ => hk k (by omega))⟩, h.o5, h.o6, h.oN⟩, ⟨?_, fun k h1 h2 => (hk k (by have := h.o6; omega)).trans (hb.block k h2)⟩⟩
  have := hb.size
  simpa using this
end
def settled1.T1 : Bool × List (List Nat × List Nat) := (true, [([], []), ([], []), ([1], [1]), ([2], [2]), ([0, 3, 2], [0, 3]), ([4, 4, 0, 1, 2, 3, 4], [4])])
def settled1.B1 : List Nat := [0, 0, 2, 6, 15, 31]
theorem settled1.tab1 : rtab .any (opsOf Try.f70 1) = settled1.T1 := by kernel_rfl
theorem settled1.bits1 : waitsOk settled1.T1.2 settled1.B1 = true := by kernel_rfl
end Go.Proofs.Ytjgbdicbdlollaa.B
namespace Go.Proofs.Ytjgbdicbdlollaa.B
open Go.RowKit Go.Proofs.YtjgbdicbdlollaaW.PrintWords Go.Proofs.YtjgbdicbdlollaaW.PrintLast Go.Proofs.YtjgbdicbdlollaaW.PrintMore
set_option linter.unusedVariables false
set_option linter.unusedSimpArgs false
def jam_SettledS.f (k : Nat) (R T : List (List Int)) : Option (List (List Int) × Int) := jam_Settled.f k R T
/-- What Settled's variables say. -/
structure InvT (wG : World) (n1 b5 b6 g : Nat) (R T : List (List Int)) (N0 : Nat) (W : World) (s : List (List Int)) : Prop where
  hB : Below wG.heap.size wG W
  hG : Gm wG g R T
  c5 : W.heap[b5]? = some (.cells #[.pointer (some ⟨g, 0, none⟩)] 82 (0, 0))
  c6 : ∃ vb, W.heap[b6]? = some (.cells #[vb] 39 (0, 0)) ∧ Kd.S (Kd.slice 3 (Kd.int .i64)) 24 W N0 (fun k => N0 ≤ k) vb s
  o5 : wG.heap.size ≤ b5 ∧ b5 < n1
  o6 : wG.heap.size ≤ b6 ∧ b6 < n1
  oN : n1 ≤ N0
section
variable {wG W W' : World} {n1 b5 b6 g N0 : Nat} {R T : List (List Int)} {s : List (List Int)}
theorem InvT.gm (h : InvT wG n1 b5 b6 g R T N0 W s) : Gm W g R T := h.hG.below h.hB
theorem InvT.side (h : InvT wG n1 b5 b6 g R T N0 W s) (hs : Side n1 N0 W W') : InvT wG n1 b5 b6 g R T N0 W' s := by
  obtain ⟨vb, h1, h3⟩ := h.c6
  refine ⟨⟨hs.os.trans h.hB.os, hs.tape.trans h.hB.tape, hs.output.trans h.hB.output, Nat.le_trans h.hB.size hs.size, fun k hk => (hs.blk k (Nat.lt_of_lt_of_le hk h.hB.size) (.inl (by have := h.o5; omega))).trans (h.hB.block k hk)⟩, h.hG, (hs.blk _ (blk_lt h.c5) (.inl h.o5.2)).trans h.c5, ⟨vb, (hs.blk _ (blk_lt h1) (.inl h.o6.2)).trans h1, Kd.S_step h3 (fun k hk hlt => hs.blk k hlt (.inr hk))⟩, h.o5, h.o6, h.oN⟩
theorem InvT.below (h : InvT wG n1 b5 b6 g R T N0 W s) (hb : Below W.heap.size W W') : InvT wG n1 b5 b6 g R T N0 W' s := by
  obtain ⟨vb, h1, h3⟩ := h.c6
  exact ⟨below_step h.hB hb, h.hG, blk_below h.c5 hb, ⟨vb, blk_below h1 hb, Kd.S_below h3 hb⟩, h.o5, h.o6, h.oN⟩
/-- A row more. -/
theorem InvT.put (h : InvT wG n1 b5 b6 g R T N0 W s) (hN : N0 ≤ W.heap.size) (hb : Below N0 W W') {v : Value} {s2 : List (List Int)} (hR : Kd.S (Kd.slice 3 (Kd.int .i64)) 24 W' N0 (fun k => N0 ≤ k) v s2) :
    (∃ vb, W'.heap[b6]? = some (.cells #[vb] 39 (0, 0))) ∧ InvT wG n1 b5 b6 g R T N0 (W'.setCell ⟨b6, 0, none⟩ v) s2 ∧ Mid n1 N0 W (W'.setCell ⟨b6, 0, none⟩ v) := by
  obtain ⟨vb, h1, h3⟩ := h.c6
  have k6 : b6 < N0 := by have := h.o6; have := h.oN; omega
  have k5 : b5 < N0 := by have := h.o5; have := h.oN; omega
  have n56 : b5 ≠ b6 := by
    rintro rfl
    have := h.c5.symm.trans h1
    injection this with this
    injection this with _ this
    exact absurd this (by decide)
  have hk : ∀ k, k ≠ b6 → (W'.setCell ⟨b6, 0, none⟩ v).heap[k]? = W'.heap[k]? := fun k e6 => Below.heap_setCell _ ⟨b6, 0, none⟩ _ k e6
  have hB9 : Below wG.heap.size wG W' := ⟨hb.os.trans h.hB.os, hb.tape.trans h.hB.tape, hb.output.trans h.hB.output, Nat.le_trans h.hB.size hb.size, fun k hk => (hb.block k (by have := h.o5; omega)).trans (h.hB.block k hk)⟩
  have h19 := (hb.block b6 k6).trans h1
  refine ⟨⟨vb, h19⟩, ⟨below_set (j := 0) (v := v) hB9 h.o6.1, h.hG, (hk _ n56).trans ((hb.block b5 k5).trans h.c5), ⟨v, blk_put (cs := #[vb]) h19 0 v rfl, Kd.S_step hR (fun k hk2 _ => hk k (by omega))⟩, h.o5, h.o6, h.oN⟩, ⟨?_, fun k h1 h2 => (hk k (by have := h.o6; omega)).trans (hb.block k h2)⟩⟩
  have := hb.size
  simpa using this
end
def settled2.T1 : Bool × List (List Nat × List Nat) := (true, [([], []), ([], []), ([1], [1]), ([2], [2]), ([0, 3, 2], [0, 3]), ([4, 4, 0, 1, 2, 3, 4], [4])])
def settled2.B1 : List Nat := [0, 0, 2, 6, 15, 31]
theorem settled2.tab1 : rtab .any (opsOf Try.f70 1) = settled2.T1 := by kernel_rfl
theorem settled2.bits1 : waitsOk settled2.T1.2 settled2.B1 = true := by kernel_rfl
set_option maxHeartbeats 8000000 in
set_option maxRecDepth 100000 in
theorem settled2_calls (k : Nat) (wG : World) (n1 b5 b6 g : Nat) (R T : List (List Int)) (N0 : Nat) (W : World) (s s' : List (List Int)) (A : Option Addr) (c : Nat) (l : List Int) (hN : N0 ≤ W.heap.size) (hI : InvT wG n1 b5 b6 g R T N0 W s) (hr : Kd.C (Kd.int .i64) W A l.length l) (hc : l.length ≤ c) (h : visS k R T s l = some s') :
  Calls Try.prog 70 #[.slice A l.length c, .pointer (some ⟨b5, 0, none⟩), .pointer (some ⟨b6, 0, none⟩)] W fun e W' => e = .returned (.tuple #[]) ∧ InvT wG n1 b5 b6 g R T N0 W' s' ∧ Mid n1 N0 W W' := by
 have qT : ∀ (w : World) (a : Option Addr) (n c n' c' : Nat), (binOp .eql 24 (.slice a n c) (.slice none n' c')).run Try.prog w = .ok (.bool a.isNone) w := fun w a n c n' c' => Lib.run_eql_slice_nil w _ _ a n c n' c' Try.underlying24
 unfold visS at h
 obtain ⟨nx, hx, h⟩ := Option.bind_eq_some_iff.1 h
 have HX := Az0.mk hx
 have HR := Az0.mk hr
 have HC := Az0.mk hc
 have HN := Az0.mk hN
 have HI0 := Az0.mk hI
 have HB := Az0.mk (Below.refl W.heap.size W)
 have h5 : W.cell? ⟨b5, 0, none⟩ = some (.pointer (some ⟨g, 0, none⟩)) := (bkC hI.c5 0).trans rfl
 clear hx hr hc hN hI
 by_cases hn : nx = []
 case neg =>
  rw [if_neg hn] at h
  obtain rfl := Option.some.inj h
  have HNX := Az0.mk hn
  clear hn h
  go_enter Try.func70, Try.ntmps70
  go_wp2_with (first | (go_at_call 71; (refine (step_g k g R T A c l nx _ HI0.out.gm HR.out HC.out HX.out).mono ?_); rintro e w3 ⟨v1, rfl, hnil, ho, hb⟩; have HI := Az0.mk (HI0.out.below hb); clear HB h5; have HB := Az0.mk hb; clear hb; obtain ⟨g5, cc5, hv5, _⟩ := Kd.R_form ho (List.length_pos_iff.2 HNX.out); subst hv5; clear hnil ho))
  go_end0
  try go_wp2
  first | exact ⟨HI.out, Mid.of_below HB.out HN.out⟩ | exact ⟨by first | rfl | (simp; done), HI.out, Mid.of_below HB.out HN.out⟩
 subst hn
 rw [if_pos rfl] at h
 obtain ⟨c2, hcl, h⟩ := Option.bind_eq_some_iff.1 h
 split at h
 case isFalse => exact absurd h (by simp)
 rename_i hsl
 have HSL := Az0.mk hsl
 have HCL := Az0.mk hcl
 have HS := Az0.mk (Option.some.inj h)
 clear hcl h hsl
 go_enter Try.func70, Try.ntmps70
 go_upto_region 1 with (first | (go_at_call 71; (refine (step_g k g R T A c l [] _ HI0.out.gm HR.out HC.out HX.out).mono ?_); rintro e w3 ⟨v1, rfl, hnil, ho, hb⟩; have HI := Az0.mk (HI0.out.below hb); clear HB h5; have HB := Az0.mk hb; clear hb; obtain rfl : v1 = .slice none 0 0 := (by rcases hnil with ⟨h1, _⟩ | h2; exact h1; exact absurd rfl h2); clear hnil ho))
 have n0_ := Az0.mk (HI.out.below (bD1_ (Below.refl _ _)))
 have n1_ := Az0.mk (below_step HB.out (bD1_ (Below.refl _ w3)))
 clear HI HB
 have HI := n0_; have HB := n1_
 clear n0_ n1_
 obtain ⟨vb, hc6, hRb⟩ := HI.out.c6
 obtain ⟨Ao, co, hvb⟩ := Kd.S_slice hRb
 subst hvb
 have HC6 := Az0.mk hc6
 have HRB := Az0.mk hRb
 clear hc6 hRb
 refine start_ (n := 6) (S := fun w' => w'.cell? ⟨b6, 0, none⟩ = some (.slice Ao s.length co)) (ds := [5]) #[false, false, false, false, false, false] (by kernel_rfl) rfl rfl ((bkC HC6.out 0).trans rfl) (fun hHeld => ?_); refine with_tabW settled2.tab1 settled2.bits1 (fun HT_ HW_ => ?_)
 generalize World.drew _ = wd at HI HB HC6 HRB hHeld ⊢
 refine pure_ (i := 1) (N := some 9) (v := ?_) (a' := ?_) #[false, true, false, false, false, false] rfl rfl (any_of HT_.out (by kernel_rfl)) (fun _ _ _ h => h) (Or.inl ⟨by rfl, ?_⟩) ?_ ?_
 rotate_left
 ·intro w'
  go_simp
  first | with_reducible rfl | rfl
 rotate_left
 ·simp only [Act.put, List.setIfInBounds_toArray, List.set_cons_zero, List.set_cons_succ, i64_w, i32_w]
  rfl
 refine take_ (i := 0) (N := some 8) (v := ?_) (a' := ?_) #[true, true, false, false, false, false] rfl rfl (take_ofW HT_.out HW_.out (by kernel_rfl)) (fun _ _ _ h => h) (Or.inl ⟨by rfl, ?_⟩) hHeld ?_ ?_
 rotate_left
 ·rintro w' s0
  go_simp
  first | with_reducible rfl | rfl
 rotate_left
 ·simp only [Act.put, List.setIfInBounds_toArray, List.set_cons_zero, List.set_cons_succ, i64_w, i32_w]
  rfl
 refine one_ (i := 2) (N := some 10) #[true, true, true, false, false, false] rfl rfl (one_of HT_.out (by kernel_rfl)) (by decide) (fun K hK => ?_)
 refine goes_ Try.func62 (by kernel_rfl) rfl #[.slice A l.length c] (by rfl) rfl rfl (by (try simp only [List.map_toArray, List.map_cons, List.map_nil]); first | done | rfl) ?_
 refine (slices_Clone.calls A c l c2 _ (Kd.C_below HR.out HB.out) HC.out HCL.out).mono ?_
 rintro e w4 ⟨v2, rfl, ho, hb⟩
 obtain ⟨A2, d2, hv2⟩ := Kd.R_slice ho
 subst hv2
 refine ⟨_, rfl, ?_⟩
 have HLT := Az0.mk (show ∀ k_, (Value.slice Ao s.length co).ownBlock = some k_ → k_ < wd.heap.size by obtain ⟨inner, ho_⟩ := Kd.S_own HRB.out; exact own_lt ho_)
 have HNW := Az0.mk (show N0 ≤ wd.heap.size from Nat.le_trans HN.out HB.out.size)
 have HR2 := Az0.mk (Kd.R_lower (Kd.R_mono (Kd.R_bound ho) (fun _ hk => hk.2.1)) HNW.out)
 have n0_ := Az0.mk (HI.out.below hb)
 have n1_ := Az0.mk (below_step HB.out hb)
 have n2_ := Az0.mk (blk_below HC6.out hb)
 have n3_ := Az0.mk (Kd.S_mono (Kd.S_old HRB.out hb) (fun k_ hk => (⟨hk.1, Nat.not_le.2 hk.2⟩ : N0 ≤ k_ ∧ ¬ wd.heap.size ≤ k_)))
 have HSZ := Az0.mk hb.size
 clear HI HB HC6 HRB hb ho
 have HI := n0_; have HB := n1_; have HC6 := n2_; have HRB := n3_
 clear n0_ n1_ n2_ n3_
 refine hK.out _ _ ((bkC HC6.out 0).trans rfl) (fun hHeld => ?_)
 clear hK K
 refine norm_ (a' := ?_) ?_ ?_
 rotate_left
 ·show Act.put _ (some 10) _ = _
  simp only [Act.put, List.setIfInBounds_toArray, List.set_cons_zero, List.set_cons_succ, i64_w, i32_w]
  rfl
 refine one_ (i := 3) (N := some 11) #[true, true, true, true, false, false] rfl rfl (one_of HT_.out (by kernel_rfl)) (by decide) (fun K hK => ?_)
 refine value_ (w1 := ?_) (v := ?_) (by rfl) rfl ?_ ?_
 rotate_left 2
 ·go_simp
  constructor
  ·rfl
  ·rfl
 refine hK.out _ _ ((bkC (blk_alloc HC6.out _) 0).trans rfl) (fun hHeld => ?_)
 clear hK K
 refine norm_ (a' := ?_) ?_ ?_
 rotate_left
 ·show Act.put _ (some 11) _ = _
  simp only [Act.put, List.setIfInBounds_toArray, List.set_cons_zero, List.set_cons_succ, i64_w, i32_w]
  rfl
 refine one_ (i := 4) (N := some 12) #[true, true, true, true, true, false] rfl rfl (one_of HT_.out (by kernel_rfl)) (by decide) (fun K hK => ?_)
 refine Kd.S_append_step (Kd.slice 3 (Kd.int .i64)) (w0 := W) N0 (by rfl) (.tmp 8) (.tmp 11) 39 24 (.slice none 0 0) 24 rfl Try.underlying39 info24 rfl (by decide) (by omega) (.slice Ao s.length co) s c2 [.slice A2 c2.length d2] (fun k_ => N0 ≤ k_) (fun k_ => wd.heap.size ≤ k_) rfl rfl ?aP ?aD ?aF ?aO ?aB ?aS ?aL ?_
 (case aP => exact ⟨_, rfl, HR2.out⟩)
 (case aD => exact (fun k_ hk => ⟨Nat.le_trans HNW.out hk, fun e => absurd (HLT.out k_ e.symm) (by omega)⟩))
 (case aF => exact (fun k_ hk => Nat.le_trans (Nat.le_trans HNW.out HSZ.out) hk))
 (case aO => exact HRB.out)
 (case aB => exact ⟨HB.out.os, HB.out.tape, HB.out.output, HB.out.size, fun k_ hk => HB.out.block k_ (Nat.lt_of_lt_of_le hk HN.out)⟩)
 (case aS => exact Nat.le_trans HNW.out HSZ.out)
 (case aL => have := HSL.out; omega)
 intro v9 w9 ho hb hg hat
 have hm := HI0.out.put HN.out hb ho
 rw [HS.out] at hm
 obtain ⟨⟨vx, hvx⟩, hm1, hm2⟩ := hm
 obtain ⟨Ax, cx, eo⟩ := Kd.S_slice ho
 subst eo
 rw [show (s ++ [c2]).length = s.length + 1 by simp] at hm1 hm2
 have HM0 := Az0.mk hvx
 have HM1 := Az0.mk hm1
 have HM2 := Az0.mk hm2
 have HC9 := Az0.mk (blk_grown HC6.out hg (Kd.S_ne HRB.out HC6.out (by decide)))
 clear HI HB HC6 HRB ho hb hg hat hvx hm1 hm2
 refine hK.out _ _ ((bkC HC9.out 0).trans rfl) (fun hHeld => ?_)
 clear hK K
 refine norm_ (a' := ?_) ?_ ?_
 rotate_left
 ·show Act.put _ (some 12) _ = _
  simp only [Act.put, List.setIfInBounds_toArray, List.set_cons_zero, List.set_cons_succ, i64_w, i32_w]
  rfl
 refine last_ (i := 5) (N := none) #[true, true, true, true, true, true] rfl rfl (one_of HT_.out (by kernel_rfl)) (by decide) (fun K hK => ?_)
 have hs := (bkC HC9.out 0).trans rfl
 have hfs := blk_frozen HC9.out 0
 refine skip_ (w1 := ?_) (by rfl) rfl ?_ ?_
 rotate_left
 ·go_simp
  rfl
 refine hK.out _ _ ?_
 clear hK K
 refine done_ (done_of HT_.out (by kernel_rfl)) ?_
 try go_wp2
 go_end0
 try go_wp2
 first | exact ⟨HM1.out, HM2.out⟩ | exact ⟨by first | rfl | (simp; done), HM1.out, HM2.out⟩
set_option maxHeartbeats 8000000 in
set_option maxRecDepth 100000 in
theorem jam_SettledS.calls (k : Nat) (A0_0 : Option Addr) (c0_0 : Nat) (l0_0 : List (List Int)) (A0_1 : Option Addr) (c0_1 : Nat) (l0_1 : List (List Int)) (r1 : List (List Int)) (r2 : Int) (w : World) (hr0_0 : Kd.C (Kd.slice 3 (Kd.int .i64)) w A0_0 l0_0.length l0_0) (hc0_0 : l0_0.length ≤ c0_0) (hr0_1 : Kd.C (Kd.slice 3 (Kd.int .i64)) w A0_1 l0_1.length l0_1) (hc0_1 : l0_1.length ≤ c0_1) (h : jam_SettledS.f k l0_0 l0_1 = some (r1, r2)) :
  Calls Try.prog 37 #[.agg #[.slice A0_0 l0_0.length c0_0, .slice A0_1 l0_1.length c0_1]] w fun e w' => ∃ v0_ : Value, e = .returned (.tuple #[v0_, .int .i64 r2]) ∧ Kd.S (Kd.slice 3 (Kd.int .i64)) 24 w' w.heap.size (fun _ => True) v0_ r1 ∧ Below w.heap.size w w' := by
 have hu41 := Try.underlying41
 have hmf : ∀ (fn : Fn) (first cap : Array Value) (w : World), (Instr.makeFunc fn first cap).run Try.prog w = .ok (.func fn first cap) w := fun _ _ _ _ => rfl
 have HR0 := Az0.mk hr0_0
 have HC0 := Az0.mk hc0_0
 have HR1 := Az0.mk hr0_1
 have HC1 := Az0.mk hc0_1
 clear hr0_0 hc0_0 hr0_1 hc0_1
 have HB := Az0.mk (Below.refl w.heap.size w)
 unfold jam_SettledS.f jam_Settled.f at h
 by_cases hp : readOk l0_0 l0_1 = true
 case neg =>
  rw [if_neg hp] at h
  have HPO := Az0.mk (Bool.eq_false_iff.mpr hp)
  clear hp
  simp only [Option.some.injEq, Prod.mk.injEq] at h
  obtain ⟨rfl, rfl⟩ := h
  go_enter Try.func37, Try.ntmps37
  go_wp2_with (first | ((with_reducible refine gate_dst (N := 1) rfl ?_); refine box_event ?hg (N := 1) ?hd (cs := #[.slice A0_0 l0_0.length c0_0, .slice A0_1 l0_1.length c0_1]) (t := 41) ?hr ?_; (case hd => rfl); (case hg => rfl); (case hr => first | (go_simp; done) | (go_simp; rfl)); intro gb hg w1 hbox hb; have BB := Az0.mk hbox; clear HB; have HB := Az0.mk hb; clear hg hbox hb; have hb_0 : w1.cell? ⟨gb, 0, none⟩ = some (.slice A0_0 l0_0.length c0_0) := (bkC BB.out 0).trans rfl; have hb_1 : w1.cell? ⟨gb, 1, none⟩ = some (.slice A0_1 l0_1.length c0_1) := (bkC BB.out 1).trans rfl) | (go_at_call 58; (refine (read_err A0_0 c0_0 l0_0 A0_1 c0_1 l0_1 _ (Kd.C_below HR0.out HB.out) HC0.out (Kd.C_below HR1.out HB.out) HC1.out HPO.out).mono ?_); rintro e w2 ⟨rfl, hb⟩; have n0_ := Az0.mk (below_step HB.out hb); clear HB BB hb hb_0 hb_1; have HB := n0_; clear n0_))
  go_ret2
  exact ⟨_, by first | rfl | (simp; done), Kd.S_nil _ _ _ _ _, by repeat (first | (with_reducible first | exact HB.out | apply baA_ | apply pbN_ | apply bD1_) | exact HB.out)⟩
 rw [if_pos hp] at h
 have HPO := Az0.mk hp
 clear hp
 obtain ⟨⟨ch1, x1⟩, hx, h⟩ := Option.bind_eq_some_iff.1 h
 have HX := Az0.mk hx
 clear hx
 simp only [Option.some.injEq, Prod.mk.injEq] at h
 obtain ⟨rfl, rfl⟩ := h
 go_enter Try.func37, Try.ntmps37
 go_upto_region 4 with (first | ((with_reducible refine gate_dst (N := 1) rfl ?_); refine box_event ?hg (N := 1) ?hd (cs := #[.slice A0_0 l0_0.length c0_0, .slice A0_1 l0_1.length c0_1]) (t := 41) ?hr ?_; (case hd => rfl); (case hg => rfl); (case hr => first | (go_simp; done) | (go_simp; rfl)); intro gb hg w1 hbox hb; have BB := Az0.mk hbox; clear HB; have HB := Az0.mk hb; clear hg hbox hb; have hb_0 : w1.cell? ⟨gb, 0, none⟩ = some (.slice A0_0 l0_0.length c0_0) := (bkC BB.out 0).trans rfl; have hb_1 : w1.cell? ⟨gb, 1, none⟩ = some (.slice A0_1 l0_1.length c0_1) := (bkC BB.out 1).trans rfl) | (go_at_call 58; (refine (read_ok A0_0 c0_0 l0_0 A0_1 c0_1 l0_1 _ (Kd.C_below HR0.out HB.out) HC0.out (Kd.C_below HR1.out HB.out) HC1.out HPO.out).mono ?_); rintro e w2 ⟨g, rfl, _, hG, hb⟩; have GM := Az0.mk hG; have n0_ := Az0.mk (below_step HB.out hb); clear HB BB hb hG hb_0 hb_1; have HB := n0_; clear n0_))
 obtain ⟨b5, hb5⟩ : ∃ b5, w2.heap.size = b5 := ⟨_, rfl⟩
 rw [hb5]
 obtain ⟨wa, hwa⟩ : ∃ wa, w2.alloc (.cells #[.pointer (some ⟨g, 0, none⟩)] 82) = wa := ⟨_, rfl⟩
 rw [hwa]
 have n0_ : Below w2.heap.size w2 wa := hwa ▸ baA_ (Below.refl _ _) _
 have B5 := Az0.mk (hb5 ▸ hwa ▸ heap_alloc_new w2 _ : wa.heap[b5]? = some (.cells #[.pointer (some ⟨g, 0, none⟩)] 82 (0, 0)))
 have O5 := Az0.mk (show w2.heap.size ≤ b5 by rw [hb5]; exact Nat.le_refl _)
 have HBA := Az0.mk n0_
 clear hwa hb5 n0_
 go_upto_region 5 with (fail)
 obtain ⟨b7, hb7⟩ : ∃ b7, wa.heap.size = b7 := ⟨_, rfl⟩
 rw [hb7]
 obtain ⟨wz, hwb⟩ : ∃ wz, wa.alloc (.cells #[.slice none 0 0] 39) = wz := ⟨_, rfl⟩
 rw [hwb]
 have n0_ : Below wa.heap.size wa wz := hwb ▸ baA_ (Below.refl _ _) _
 have B7 := Az0.mk (hb7 ▸ hwb ▸ heap_alloc_new wa _ : wz.heap[b7]? = some (.cells #[.slice none 0 0] 39 (0, 0)))
 have O7 := Az0.mk (show w2.heap.size ≤ b7 by rw [← hb7]; exact HBA.out.size)
 have n1_ := Az0.mk (below_step HBA.out n0_)
 have n2_ := Az0.mk (blk_below B5.out n0_)
 clear HBA B5 hwb hb7 n0_
 have HBA := n1_; have B5 := n2_
 clear n1_ n2_
 have HRO := Az0.mk (readOk_routes HPO.out)
 have HST := Az0.mk (show ∀ W, Below wz.heap.size wz W → InvT w2 wz.heap.size b5 b7 g l0_0 l0_1 W.heap.size W [] from fun W hW => ⟨below_step HBA.out hW, GM.out, blk_below B5.out hW, ⟨_, blk_below B7.out hW, Kd.S_nil _ _ _ _ _⟩, ⟨O5.out, blk_lt B5.out⟩, ⟨O7.out, blk_lt B7.out⟩, hW.size⟩)
 have h5 : wz.cell? ⟨b5, 0, none⟩ = some (.pointer (some ⟨g, 0, none⟩)) := (bkC B5.out 0).trans rfl
 go_upto_region 6 with (first | (go_at_call 59; go_loud ((refine (all_calls l0_0 l0_1 g 70 #[.pointer (some ⟨b5, 0, none⟩), .pointer (some ⟨b7, 0, none⟩)] _ Try.func70 (by kernel_rfl) rfl (visS k l0_0 l0_1) (InvT w2 wz.heap.size b5 b7 g l0_0 l0_1) wz [] x1 ch1 HST.out (fun N0 W s h => h.gm) (fun N0 W W' s _ h hs => h.side hs) (fun N0 W s s' A c l hn hN hI hC hc hl hv => settled2_calls k w2 wz.heap.size b5 b7 g l0_0 l0_1 N0 W s s' A c l hN hI hC hc hv) HRO.out.1 HRO.out.2.1 HRO.out.2.2 HX.out).mono ?_); rintro e w5 ⟨rfl, N0, hn, hI⟩; have HN := Az0.mk hn; have HI := Az0.mk hI; clear hn hI h5)))
 obtain ⟨vb, hc7, hRb⟩ := HI.out.c6
 have HRB := Az0.mk hRb
 have h7 : w5.cell? ⟨b7, 0, none⟩ = some vb := (bkC hc7 0).trans rfl
 obtain ⟨Ab, cb, hvb⟩ := Kd.S_slice hRb
 subst hvb
 clear hc7 hRb
 go_wp2
 go_ret2
 exact ⟨_, by first | rfl | (simp; done), by (with_reducible repeat (first | apply Kd.S_alloc | apply Kd.S_drewN | apply Kd.S_drew)); exact Kd.S_mono (Kd.S_lower HRB.out (Nat.le_trans (Nat.le_trans (below_size HB.out) HBA.out.size) HN.out)) (fun _ _ => trivial), by repeat (first | (with_reducible first | exact (below_step HB.out HI.out.hB) | apply baA_ | apply pbN_ | apply bD1_) | exact (below_step HB.out HI.out.hB))⟩
end Go.Proofs.Ytjgbdicbdlollaa.B
namespace Go.Proofs.Ytjgbdicbdlollaa.B
open Go.RowKit Go.Proofs.YtjgbdicbdlollaaW.PrintWords Go.Proofs.YtjgbdicbdlollaaW.PrintLast Go.Proofs.YtjgbdicbdlollaaW.PrintMore
attribute [local go_sem] max2_int min2_int max_two min_two max_three min_three max_four min_four   -- for this text's walks alone
set_option linter.unusedVariables false
set_option linter.unusedSimpArgs false
theorem eqA28 (d : Nat) (w : World) (x0 y0 : Int) (x1 y1 : Int) :
    (Op.equalIn (d + 2) 28 (.agg #[.int .i64 x0, .int .i64 x1]) (.agg #[.int .i64 y0, .int .i64 y1])).run Try.prog w = .ok (x0 == y0 && (x1 == y1)) w := by
  refine eqA_of Try.underlying28 (by kernel_rfl) ?_
  refine eqf_cons (by rfl) (by go_simp; rfl) (by go_simp; rfl) (by go_simp) ?_
  exact eqf_last (by rfl) (by go_simp; rfl) (by go_simp; rfl) (by go_simp)
end Go.Proofs.Ytjgbdicbdlollaa.B
namespace Go.Proofs.Ytjgbdicbdlollaa.B
open Go.RowKit Go.Proofs.YtjgbdicbdlollaaW.PrintWords Go.Proofs.YtjgbdicbdlollaaW.PrintLast Go.Proofs.YtjgbdicbdlollaaW.PrintMore
attribute [local go_sem] max2_int min2_int max_two min_two max_three min_three max_four min_four   -- for this text's walks alone
set_option linter.unusedVariables false
set_option linter.unusedSimpArgs false
def trishawlaw02_same.l0 : Nat → List Int → List Int → Int → Option (Bool)
  | 0, _, _, _ => none
  | k + 1, x0, x1, x5 => if x5 < (x0.length : Int) then (if 0 ≤ x5 then (if x5 < (x1.length : Int) then (if (rd x0 x5) = (rd x1 x5) then (trishawlaw02_same.l0 k x0 x1 (wrap64 (x5 + 1))) else (some false)) else (none)) else (none)) else (some true)
def trishawlaw02_same.f (k : Nat) (l0 : List Int) (l1 : List Int) : Option (Bool) := if (l0.length : Int) = (l1.length : Int) then (trishawlaw02_same.l0 k l0 l1 0) else (some false)
theorem trishawlaw02_same.mono_l : ∀ k, (∀ y0 y1 y2, LeO (trishawlaw02_same.l0 k y0 y1 y2) (trishawlaw02_same.l0 (k + 1) y0 y1 y2))
  | 0 => fun _ _ _ r h => by simp [trishawlaw02_same.l0] at h
  | k + 1 => by
    have ih0 := trishawlaw02_same.mono_l k
    · intro y0 y1 y2
      unfold trishawlaw02_same.l0
      repeat' first
      | (with_reducible exact ih0 _ _ _)
      | (with_reducible exact LeO.refl _)
      | (with_reducible exact LeO.none _)
      | (with_reducible refine LeO.ite ?_ ?_)
      | (with_reducible refine LeO.bind ?_ (fun _ => ?_))
      | exact ih0 _ _ _
      | exact LeO.none _
      | refine LeO.ite ?_ ?_
      | refine LeO.bind ?_ (fun _ => ?_)
theorem trishawlaw02_same.mono : ∀ a0 a1 k, LeO (trishawlaw02_same.f k a0 a1) (trishawlaw02_same.f (k + 1) a0 a1) := by
  intro a0 a1 k
  have ih0 := trishawlaw02_same.mono_l k
  unfold trishawlaw02_same.f
  repeat' first
      | (with_reducible exact ih0 _ _ _)
      | (with_reducible exact LeO.refl _)
      | (with_reducible exact LeO.none _)
      | (with_reducible refine LeO.ite ?_ ?_)
      | (with_reducible refine LeO.bind ?_ (fun _ => ?_))
      | exact ih0 _ _ _
      | exact LeO.none _
      | refine LeO.ite ?_ ?_
      | refine LeO.bind ?_ (fun _ => ?_)
set_option maxHeartbeats 8000000 in
set_option maxRecDepth 100000 in
theorem trishawlaw02_same.calls (k : Nat) (A0 : Option Addr) (c0 : Nat) (l0 : List Int) (A1 : Option Addr) (c1 : Nat) (l1 : List Int) (r : Bool) (w : World) (hr0 : Kd.C (Kd.int .i64) w A0 l0.length l0) (hc0 : l0.length ≤ c0) (hr1 : Kd.C (Kd.int .i64) w A1 l1.length l1) (hc1 : l1.length ≤ c1) (h : trishawlaw02_same.f k l0 l1 = some r) :
  Calls Try.prog 31 #[.slice A0 l0.length c0, .slice A1 l1.length c1] w fun e w' => e = .returned (.bool r) ∧ Drawn0 w w' := by
 have HR0 := Az0.mk hr0
 have HC0 := Az0.mk hc0
 clear hr0 hc0
 have HR1 := Az0.mk hr1
 have HC1 := Az0.mk hc1
 clear hr1 hc1
 have H : (if (l0.length : Int) = (l1.length : Int) then (trishawlaw02_same.l0 k l0 l1 0) else (some false)) = some r := h
 clear h
 by_cases c3 : (l0.length : Int) = (l1.length : Int)
 ·rw [if_pos c3] at H
  have c3b0 : ((l0.length : Int) == (l1.length : Int)) = true := beq_iff_eq.mpr c3
  have c3b1 : ((l0.length : Int) != (l1.length : Int)) = false := bne_eq_false_iff_eq.mpr c3
  have c3b2 : (l0.length == l1.length) = true := by first | simpa using c3 | (simp at c3 ⊢; omega)
  clear c3
  have H' := Az0.mk H
  clear H
  go_enter Try.func31, Try.ntmps31
  go_wp2
  repeat (go_quiet (fail); try go_wp2)
  go_loopg [5] k (fun kq v5 w' => ∃ (x5_1 : Int), v5 = .int .i64 x5_1 ∧ Az0 (trishawlaw02_same.l0 kq l0 l1 x5_1 = some r) ∧ Az0 (kq ≤ k) ∧ Drawn0 w w')
  case atStart => exact ⟨(0), (by first | rfl | (simp; done) | (simp [*]; done)), H', ⟨Nat.le_refl _⟩, by repeat (first | exact Drawn0.refl _ | apply Drawn0.step)⟩
  case round =>
   clear H'
   try clear c1
   try clear p2
   try clear c3
   try clear c3b0
   try clear c3b1
   try clear c3b2
   obtain ⟨x5_1, rfl, HA, HK1, ⟨m1, rfl⟩⟩ := hrel
   cases gk with
   | zero => exact absurd HA.out (by simp [trishawlaw02_same.l0])
   | succ k1 =>
    have H := HA.out
    clear HA
    simp only [trishawlaw02_same.l0] at H
    by_cases c4 : x5_1 < (l0.length : Int)
    ·rw [if_pos c4] at H
     have c4b0 : decide (x5_1 < (l0.length : Int)) = true := decide_eq_true c4
     clear c4
     by_cases c5 : 0 ≤ x5_1
     ·rw [if_pos c5] at H
      have c5b0 : decide (0 ≤ x5_1) = true := decide_eq_true c5
      clear c5
      by_cases c6 : x5_1 < (l1.length : Int)
      ·rw [if_pos c6] at H
       have c6b0 : decide (x5_1 < (l1.length : Int)) = true := decide_eq_true c6
       clear c6
       by_cases c7 : (rd l0 x5_1) = (rd l1 x5_1)
       ·rw [if_pos c7] at H
        have c7b0 : ((rd l0 x5_1) == (rd l1 x5_1)) = true := beq_iff_eq.mpr c7
        have c7b1 : ((rd l0 x5_1) != (rd l1 x5_1)) = false := bne_eq_false_iff_eq.mpr c7
        clear c7
        have H' := Az0.mk H
        clear H
        have p121 : 0 ≤ (x5_1 : Int) := of_decide_eq_true (by first | (with_reducible assumption) | assumption)
        have q121 : x5_1 < (l0.length : Int) := of_decide_eq_true (by first | (with_reducible assumption) | assumption)
        obtain ⟨ad121, e121, hx121_0⟩ := Kd.at_int HR0.out x5_1 p121 q121
        cases e121
        replace p121 := eq_true p121
        replace q121 := eq_true q121
        have p122 : 0 ≤ (x5_1 : Int) := of_decide_eq_true (by first | (with_reducible assumption) | assumption)
        have q122 : x5_1 < (l1.length : Int) := of_decide_eq_true (by first | (with_reducible assumption) | assumption)
        obtain ⟨ad122, e122, hx122_0⟩ := Kd.at_int HR1.out x5_1 p122 q122
        cases e122
        replace p122 := eq_true p122
        replace q122 := eq_true q122
        go_wp2
        repeat (go_quiet (fail); try go_wp2)
        go_roundg k1
        case measure => have := HK1.out; omega
        case rel => exact ⟨(wrap64 (x5_1 + 1)), (by first | rfl | (simp; done) | (simp [*]; done)), H', ⟨by have := HK1.out; omega⟩, by repeat (first | exact Drawn0.refl _ | apply Drawn0.step)⟩
       ·rw [if_neg c7] at H
        have c7b0 : ((rd l0 x5_1) == (rd l1 x5_1)) = false := beq_eq_false_iff_ne.mpr c7
        have c7b1 : ((rd l0 x5_1) != (rd l1 x5_1)) = true := bne_iff_ne.mpr c7
        obtain rfl := Option.some.inj H
        have p121 : 0 ≤ (x5_1 : Int) := of_decide_eq_true (by first | (with_reducible assumption) | assumption)
        have q121 : x5_1 < (l0.length : Int) := of_decide_eq_true (by first | (with_reducible assumption) | assumption)
        obtain ⟨ad121, e121, hx121_0⟩ := Kd.at_int HR0.out x5_1 p121 q121
        cases e121
        replace p121 := eq_true p121
        replace q121 := eq_true q121
        have p122 : 0 ≤ (x5_1 : Int) := of_decide_eq_true (by first | (with_reducible assumption) | assumption)
        have q122 : x5_1 < (l1.length : Int) := of_decide_eq_true (by first | (with_reducible assumption) | assumption)
        obtain ⟨ad122, e122, hx122_0⟩ := Kd.at_int HR1.out x5_1 p122 q122
        cases e122
        replace p122 := eq_true p122
        replace q122 := eq_true q122
        go_wp2
        repeat (go_quiet (fail); try go_wp2)
        go_ret
        exact ⟨by first | rfl | (simp; done) | (simp [*]; done), by repeat (first | exact Drawn0.refl _ | apply Drawn0.step)⟩
      ·rw [if_neg c6] at H
       exact absurd H (by simp)
     ·rw [if_neg c5] at H
      exact absurd H (by simp)
    ·rw [if_neg c4] at H
     have c4b0 : decide (x5_1 < (l0.length : Int)) = false := decide_eq_false c4
     clear c4
     obtain rfl := Option.some.inj H
     go_wp2
     repeat (go_quiet (fail); try go_wp2)
     go_ret
     exact ⟨by first | rfl | (simp; done) | (simp [*]; done), by repeat (first | exact Drawn0.refl _ | apply Drawn0.step)⟩
 ·rw [if_neg c3] at H
  have c3b0 : ((l0.length : Int) == (l1.length : Int)) = false := beq_eq_false_iff_ne.mpr c3
  have c3b1 : ((l0.length : Int) != (l1.length : Int)) = true := bne_iff_ne.mpr c3
  have c3b2 : (l0.length == l1.length) = false := by first | simpa using c3 | (simp at c3 ⊢; omega)
  obtain rfl := Option.some.inj H
  go_enter Try.func31, Try.ntmps31
  go_wp2
  repeat (go_quiet (fail); try go_wp2)
  go_ret
  exact ⟨by first | rfl | (simp; done) | (simp [*]; done), by repeat (first | exact Drawn0.refl _ | apply Drawn0.step)⟩
end Go.Proofs.Ytjgbdicbdlollaa.B
namespace Go.Proofs.Ytjgbdicbdlollaa.B
open Go.RowKit Go.Proofs.YtjgbdicbdlollaaW.PrintWords Go.Proofs.YtjgbdicbdlollaaW.PrintLast Go.Proofs.YtjgbdicbdlollaaW.PrintMore
attribute [local go_sem] max2_int min2_int max_two min_two max_three min_three max_four min_four   -- for this text's walks alone
set_option linter.unusedVariables false
set_option linter.unusedSimpArgs false
def trishawlaw02_parts.f (k : Nat) (l0_0 : List Int) (a0_1 : Int) (l1_0 : List Int) (a1_1 : Int) : Option (Bool) := if a0_1 = a1_1 then ((trishawlaw02_same.f k l0_0 l1_0).bind fun t133 => (some t133)) else (some false)
theorem trishawlaw02_parts.mono : ∀ a0 a1 a2 a3 k, LeO (trishawlaw02_parts.f k a0 a1 a2 a3) (trishawlaw02_parts.f (k + 1) a0 a1 a2 a3) := by
  intro a0 a1 a2 a3 k
  unfold trishawlaw02_parts.f
  repeat' first
      | (with_reducible exact trishawlaw02_same.mono _ _ _)
      | (with_reducible exact LeO.refl _)
      | (with_reducible exact LeO.none _)
      | (with_reducible refine LeO.ite ?_ ?_)
      | (with_reducible refine LeO.bind ?_ (fun _ => ?_))
      | exact trishawlaw02_same.mono _ _ _
      | exact LeO.none _
      | refine LeO.ite ?_ ?_
      | refine LeO.bind ?_ (fun _ => ?_)
set_option maxHeartbeats 8000000 in
set_option maxRecDepth 100000 in
theorem trishawlaw02_parts.calls (k : Nat) (A0_0 : Option Addr) (c0_0 : Nat) (l0_0 : List Int) (a0_1 : Int) (A1_0 : Option Addr) (c1_0 : Nat) (l1_0 : List Int) (a1_1 : Int) (r : Bool) (w : World) (hr0_0 : Kd.C (Kd.int .i64) w A0_0 l0_0.length l0_0) (hc0_0 : l0_0.length ≤ c0_0) (hr1_0 : Kd.C (Kd.int .i64) w A1_0 l1_0.length l1_0) (hc1_0 : l1_0.length ≤ c1_0) (h : trishawlaw02_parts.f k l0_0 a0_1 l1_0 a1_1 = some r) :
  Calls Try.prog 19 #[.agg #[.slice A0_0 l0_0.length c0_0, .int .i64 a0_1], .agg #[.slice A1_0 l1_0.length c1_0, .int .i64 a1_1]] w fun e w' => e = .returned (.bool r) ∧ Below w.heap.size w w' := by
 have hu26 := Try.underlying26
 have HR0_0 := Az0.mk hr0_0
 have HC0_0 := Az0.mk hc0_0
 clear hr0_0 hc0_0
 have HR1_0 := Az0.mk hr1_0
 have HC1_0 := Az0.mk hc1_0
 clear hr1_0 hc1_0
 have HB := Az0.mk (Below.refl w.heap.size w)
 have H : (if a0_1 = a1_1 then ((trishawlaw02_same.f k l0_0 l1_0).bind fun t133 => (some t133)) else (some false)) = some r := h
 clear h
 by_cases c3 : a0_1 = a1_1
 ·rw [if_pos c3] at H
  have c3b0 : (a0_1 == a1_1) = true := beq_iff_eq.mpr c3
  have c3b1 : (a0_1 != a1_1) = false := bne_eq_false_iff_eq.mpr c3
  clear c3
  replace H := Option.bind_eq_some_iff.mp H
  obtain ⟨t133, A40, H⟩ := H
  replace H : (some t133) = some r := H
  have A4 := Az0.mk A40
  clear A40
  obtain rfl := Option.some.inj H
  go_enter Try.func19, Try.ntmps19
  go_wp2_with (first | ((with_reducible refine gate_dst (N := 2) rfl ?_); refine box_event ?hg (N := 2) ?hd (cs := #[.slice A0_0 l0_0.length c0_0, .int .i64 a0_1]) (t := 26) ?hr ?_; (case hd => rfl); (case hg => rfl); (case hr => first | (go_simp; done) | (go_simp; rfl)); intro gb131 hg w5 hbox hb; have n0_ := Az0.mk (below_step (by repeat (first | (with_reducible first | exact HB.out | apply baA_ | apply pbN_ | apply bD1_) | exact HB.out)) hb); have n1_ := Az0.mk (hbox); have n2_ := Az0.mk ((by rw [hg]; exact (below_size (by repeat (first | (with_reducible first | exact HB.out | apply baA_ | apply pbN_ | apply bD1_) | exact HB.out))) : w.heap.size ≤ gb131)); have n3_ := Az0.mk ((by rw [hg]; exact (below_size (by repeat (first | (with_reducible first | exact HB.out | apply baA_ | apply pbN_ | apply bD1_) | exact HB.out))) : w.heap.size ≤ gb131)); clear HB; have HB := n0_; have BK131 := n1_; have GW131 := n2_; have GE131 := n3_; clear n0_ n1_ n2_ n3_; clear hb hbox hg) | ((with_reducible refine gate_dst (N := 3) rfl ?_); refine box_event ?hg (N := 3) ?hd (cs := #[.slice A1_0 l1_0.length c1_0, .int .i64 a1_1]) (t := 26) ?hr ?_; (case hd => rfl); (case hg => rfl); (case hr => first | (go_simp; done) | (go_simp; rfl)); intro gb132 hg w6 hbox hb; have n0_ := Az0.mk (blk_below (g := gb131) (o := .cells #[.slice A0_0 l0_0.length c0_0, .int .i64 a0_1] 26 (0, 0)) (by (with_reducible repeat (first | refine blk_drewN ?_ _ | refine blk_drew ?_ | refine blk_alloc ?_ _)); exact BK131.out) hb); have n1_ := Az0.mk (below_step (by repeat (first | (with_reducible first | exact HB.out | apply baA_ | apply pbN_ | apply bD1_ | refine below_set ?_ GE131.out) | exact HB.out)) hb); have n2_ := Az0.mk (hbox); have n3_ := Az0.mk ((by rw [hg]; exact (below_size (by repeat (first | (with_reducible first | exact HB.out | apply baA_ | apply pbN_ | apply bD1_ | refine below_set ?_ GE131.out) | exact HB.out))) : w.heap.size ≤ gb132)); have n4_ := Az0.mk ((by rw [hg]; exact (below_size (by repeat (first | (with_reducible first | exact HB.out | apply baA_ | apply pbN_ | apply bD1_ | refine below_set ?_ GE131.out) | exact HB.out))) : w.heap.size ≤ gb132)); have n5_ := Az0.mk ((by rw [hg]; exact Nat.ne_of_lt (blk_lt (g := gb131) (o := .cells #[.slice A0_0 l0_0.length c0_0, .int .i64 a0_1] 26 (0, 0)) (by (with_reducible repeat (first | refine blk_drewN ?_ _ | refine blk_drew ?_ | refine blk_alloc ?_ _)); exact BK131.out)) : gb131 ≠ gb132)); have n6_ := Az0.mk ((by rw [hg]; exact Nat.ne_of_gt (blk_lt (g := gb131) (o := .cells #[.slice A0_0 l0_0.length c0_0, .int .i64 a0_1] 26 (0, 0)) (by (with_reducible repeat (first | refine blk_drewN ?_ _ | refine blk_drew ?_ | refine blk_alloc ?_ _)); exact BK131.out)) : gb132 ≠ gb131)); clear BK131; clear HB; have BK131 := n0_; have HB := n1_; have BK132 := n2_; have GW132 := n3_; have GE132 := n4_; have NB131_132 := n5_; have NB132_131 := n6_; clear n0_ n1_ n2_ n3_ n4_ n5_ n6_; clear hb hbox hg; have hnb7 := NB131_132.out; have hnc7 := NB132_131.out; have hcz8_0 : w6.cell? ⟨gb131, 0, none⟩ = some (.slice A0_0 l0_0.length c0_0) := (bkC BK131.out 0).trans rfl; have hcz8_1 : w6.cell? ⟨gb131, 1, none⟩ = some (.int .i64 a0_1) := (bkC BK131.out 1).trans rfl; have hfz8_0 := blk_frozen BK131.out 0; have hfz8_1 := blk_frozen BK131.out 1; have hcz9_0 : w6.cell? ⟨gb132, 0, none⟩ = some (.slice A1_0 l1_0.length c1_0) := (bkC BK132.out 0).trans rfl; have hcz9_1 : w6.cell? ⟨gb132, 1, none⟩ = some (.int .i64 a1_1) := (bkC BK132.out 1).trans rfl; have hfz9_0 := blk_frozen BK132.out 0; have hfz9_1 := blk_frozen BK132.out 1) | (go_at_call 31; (with_reducible refine (trishawlaw02_same.calls k _ _ l0_0 _ _ l1_0 t133 _ ?side1 ?side2 ?side3 ?side4 A4.out).mono ?_); (case side1 => repeat (first | exact (Kd.C_below HR0_0.out HB.out) | (with_reducible refine Kd.C_alloc ?_ _) | (with_reducible refine Kd.C_drewN ?_ _) | (with_reducible refine Kd.C_drew ?_))); (case side2 => exact HC0_0.out); (case side3 => repeat (first | exact (Kd.C_below HR1_0.out HB.out) | (with_reducible refine Kd.C_alloc ?_ _) | (with_reducible refine Kd.C_drewN ?_ _) | (with_reducible refine Kd.C_drew ?_))); (case side4 => exact HC1_0.out); rintro e w' ⟨rfl, ⟨nd, rfl⟩⟩))
  go_ret
  exact ⟨by first | rfl | (simp [errW_none, errW_some] <;> rfl) | (simp [*, errW_none, errW_some] <;> rfl), by repeat (first | (with_reducible first | exact HB.out | apply baA_ | apply pbN_ | apply bD1_ | refine below_set ?_ GE131.out | refine below_set ?_ GE132.out) | exact HB.out)⟩
 ·rw [if_neg c3] at H
  have c3b0 : (a0_1 == a1_1) = false := beq_eq_false_iff_ne.mpr c3
  have c3b1 : (a0_1 != a1_1) = true := bne_iff_ne.mpr c3
  obtain rfl := Option.some.inj H
  go_enter Try.func19, Try.ntmps19
  go_wp2_with (first | ((with_reducible refine gate_dst (N := 2) rfl ?_); refine box_event ?hg (N := 2) ?hd (cs := #[.slice A0_0 l0_0.length c0_0, .int .i64 a0_1]) (t := 26) ?hr ?_; (case hd => rfl); (case hg => rfl); (case hr => first | (go_simp; done) | (go_simp; rfl)); intro gb131 hg w10 hbox hb; have n0_ := Az0.mk (below_step (by repeat (first | (with_reducible first | exact HB.out | apply baA_ | apply pbN_ | apply bD1_) | exact HB.out)) hb); have n1_ := Az0.mk (hbox); have n2_ := Az0.mk ((by rw [hg]; exact (below_size (by repeat (first | (with_reducible first | exact HB.out | apply baA_ | apply pbN_ | apply bD1_) | exact HB.out))) : w.heap.size ≤ gb131)); have n3_ := Az0.mk ((by rw [hg]; exact (below_size (by repeat (first | (with_reducible first | exact HB.out | apply baA_ | apply pbN_ | apply bD1_) | exact HB.out))) : w.heap.size ≤ gb131)); clear HB; have HB := n0_; have BK131 := n1_; have GW131 := n2_; have GE131 := n3_; clear n0_ n1_ n2_ n3_; clear hb hbox hg) | ((with_reducible refine gate_dst (N := 3) rfl ?_); refine box_event ?hg (N := 3) ?hd (cs := #[.slice A1_0 l1_0.length c1_0, .int .i64 a1_1]) (t := 26) ?hr ?_; (case hd => rfl); (case hg => rfl); (case hr => first | (go_simp; done) | (go_simp; rfl)); intro gb132 hg w11 hbox hb; have n0_ := Az0.mk (blk_below (g := gb131) (o := .cells #[.slice A0_0 l0_0.length c0_0, .int .i64 a0_1] 26 (0, 0)) (by (with_reducible repeat (first | refine blk_drewN ?_ _ | refine blk_drew ?_ | refine blk_alloc ?_ _)); exact BK131.out) hb); have n1_ := Az0.mk (below_step (by repeat (first | (with_reducible first | exact HB.out | apply baA_ | apply pbN_ | apply bD1_ | refine below_set ?_ GE131.out) | exact HB.out)) hb); have n2_ := Az0.mk (hbox); have n3_ := Az0.mk ((by rw [hg]; exact (below_size (by repeat (first | (with_reducible first | exact HB.out | apply baA_ | apply pbN_ | apply bD1_ | refine below_set ?_ GE131.out) | exact HB.out))) : w.heap.size ≤ gb132)); have n4_ := Az0.mk ((by rw [hg]; exact (below_size (by repeat (first | (with_reducible first | exact HB.out | apply baA_ | apply pbN_ | apply bD1_ | refine below_set ?_ GE131.out) | exact HB.out))) : w.heap.size ≤ gb132)); have n5_ := Az0.mk ((by rw [hg]; exact Nat.ne_of_lt (blk_lt (g := gb131) (o := .cells #[.slice A0_0 l0_0.length c0_0, .int .i64 a0_1] 26 (0, 0)) (by (with_reducible repeat (first | refine blk_drewN ?_ _ | refine blk_drew ?_ | refine blk_alloc ?_ _)); exact BK131.out)) : gb131 ≠ gb132)); have n6_ := Az0.mk ((by rw [hg]; exact Nat.ne_of_gt (blk_lt (g := gb131) (o := .cells #[.slice A0_0 l0_0.length c0_0, .int .i64 a0_1] 26 (0, 0)) (by (with_reducible repeat (first | refine blk_drewN ?_ _ | refine blk_drew ?_ | refine blk_alloc ?_ _)); exact BK131.out)) : gb132 ≠ gb131)); clear BK131; clear HB; have BK131 := n0_; have HB := n1_; have BK132 := n2_; have GW132 := n3_; have GE132 := n4_; have NB131_132 := n5_; have NB132_131 := n6_; clear n0_ n1_ n2_ n3_ n4_ n5_ n6_; clear hb hbox hg; have hnb12 := NB131_132.out; have hnc12 := NB132_131.out; have hcz13_0 : w11.cell? ⟨gb131, 0, none⟩ = some (.slice A0_0 l0_0.length c0_0) := (bkC BK131.out 0).trans rfl; have hcz13_1 : w11.cell? ⟨gb131, 1, none⟩ = some (.int .i64 a0_1) := (bkC BK131.out 1).trans rfl; have hfz13_0 := blk_frozen BK131.out 0; have hfz13_1 := blk_frozen BK131.out 1; have hcz14_0 : w11.cell? ⟨gb132, 0, none⟩ = some (.slice A1_0 l1_0.length c1_0) := (bkC BK132.out 0).trans rfl; have hcz14_1 : w11.cell? ⟨gb132, 1, none⟩ = some (.int .i64 a1_1) := (bkC BK132.out 1).trans rfl; have hfz14_0 := blk_frozen BK132.out 0; have hfz14_1 := blk_frozen BK132.out 1))
  go_ret
  exact ⟨by first | rfl | (simp [errW_none, errW_some] <;> rfl) | (simp [*, errW_none, errW_some] <;> rfl), by repeat (first | (with_reducible first | exact HB.out | apply baA_ | apply pbN_ | apply bD1_ | refine below_set ?_ GE131.out | refine below_set ?_ GE132.out) | exact HB.out)⟩
def trishawlaw02_two.f  : Option ((List (List Int)) × (List (List Int))) := some ((([(([1, 2] : List Int)), (([1, 2] : List Int))] : List (List Int))), (([(([1, 2] : List Int)), (([2, 2] : List Int))] : List (List Int))))
set_option maxHeartbeats 8000000 in
set_option maxRecDepth 100000 in
theorem trishawlaw02_two.calls  (r1 : List (List Int)) (r2 : List (List Int)) (w : World) (h : trishawlaw02_two.f  = some (r1, r2)) :
  Calls Try.prog 47 #[] w fun e w' => ∃ v0_ v1_ : Value, e = .returned (.agg #[v0_, v1_]) ∧ Kd.N (Kd.slice 3 (Kd.int .i64)) 24 w' w.heap.size (fun k_ => (w.heap.size ≤ k_) ∧ some k_ ≠ (v1_ : Value).ownBlock) v0_ r1 ∧ Kd.N (Kd.slice 3 (Kd.int .i64)) 24 w' w.heap.size (fun k_ => (w.heap.size ≤ k_) ∧ some k_ ≠ (v0_ : Value).ownBlock) v1_ r2 ∧ Below w.heap.size w w' := by
 have hu41 := Try.underlying41
 have HB := Az0.mk (Below.refl w.heap.size w)
 have H : (some ((([(([1, 2] : List Int)), (([1, 2] : List Int))] : List (List Int))), (([(([1, 2] : List Int)), (([2, 2] : List Int))] : List (List Int))))) = some (r1, r2) := h
 clear h
 obtain ⟨y135, hy135⟩ : ∃ y_ : List Int, y_ = (([1, 2] : List Int)) := ⟨_, rfl⟩
 replace H : (some ((([y135, (([1, 2] : List Int))] : List (List Int))), (([(([1, 2] : List Int)), (([2, 2] : List Int))] : List (List Int))))) = some (r1, r2) := by first | (rw [hy135]; with_reducible exact H) | (have H2_ := (Option.bind_some _ _).symm.trans H; rw [hy135]; with_reducible exact H2_) | (have H2_ := (Option.bind_some _ _).symm.trans H; with_reducible exact H2_) | with_reducible exact H | (rw [hy135]; exact H) | exact H
 have Ny135 := Az0.mk hy135
 clear hy135
 obtain ⟨y138, hy138⟩ : ∃ y_ : List Int, y_ = (([1, 2] : List Int)) := ⟨_, rfl⟩
 replace H : (some ((([y135, y138] : List (List Int))), (([(([1, 2] : List Int)), (([2, 2] : List Int))] : List (List Int))))) = some (r1, r2) := by first | (rw [hy138]; with_reducible exact H) | (have H2_ := (Option.bind_some _ _).symm.trans H; rw [hy138]; with_reducible exact H2_) | (have H2_ := (Option.bind_some _ _).symm.trans H; with_reducible exact H2_) | with_reducible exact H | (rw [hy138]; exact H) | exact H
 have Ny138 := Az0.mk hy138
 clear hy138
 obtain ⟨y141, hy141⟩ : ∃ y_ : List (List Int), y_ = (([y135, y138] : List (List Int))) := ⟨_, rfl⟩
 replace H : (some (y141, (([(([1, 2] : List Int)), (([2, 2] : List Int))] : List (List Int))))) = some (r1, r2) := by first | (rw [hy141]; with_reducible exact H) | (have H2_ := (Option.bind_some _ _).symm.trans H; rw [hy141]; with_reducible exact H2_) | (have H2_ := (Option.bind_some _ _).symm.trans H; with_reducible exact H2_) | with_reducible exact H | (rw [hy141]; exact H) | exact H
 have Ny141 := Az0.mk hy141
 clear hy141
 obtain ⟨y144, hy144⟩ : ∃ y_ : List Int, y_ = (([1, 2] : List Int)) := ⟨_, rfl⟩
 replace H : (some (y141, (([y144, (([2, 2] : List Int))] : List (List Int))))) = some (r1, r2) := by first | (rw [hy144]; with_reducible exact H) | (have H2_ := (Option.bind_some _ _).symm.trans H; rw [hy144]; with_reducible exact H2_) | (have H2_ := (Option.bind_some _ _).symm.trans H; with_reducible exact H2_) | with_reducible exact H | (rw [hy144]; exact H) | exact H
 have Ny144 := Az0.mk hy144
 clear hy144
 obtain ⟨y147, hy147⟩ : ∃ y_ : List Int, y_ = (([2, 2] : List Int)) := ⟨_, rfl⟩
 replace H : (some (y141, (([y144, y147] : List (List Int))))) = some (r1, r2) := by first | (rw [hy147]; with_reducible exact H) | (have H2_ := (Option.bind_some _ _).symm.trans H; rw [hy147]; with_reducible exact H2_) | (have H2_ := (Option.bind_some _ _).symm.trans H; with_reducible exact H2_) | with_reducible exact H | (rw [hy147]; exact H) | exact H
 have Ny147 := Az0.mk hy147
 clear hy147
 obtain ⟨y150, hy150⟩ : ∃ y_ : List (List Int), y_ = (([y144, y147] : List (List Int))) := ⟨_, rfl⟩
 replace H : (some (y141, y150)) = some (r1, r2) := by first | (rw [hy150]; with_reducible exact H) | (have H2_ := (Option.bind_some _ _).symm.trans H; rw [hy150]; with_reducible exact H2_) | (have H2_ := (Option.bind_some _ _).symm.trans H; with_reducible exact H2_) | with_reducible exact H | (rw [hy150]; exact H) | exact H
 have Ny150 := Az0.mk hy150
 clear hy150
 simp only [Option.some.injEq, Prod.mk.injEq] at H
 obtain ⟨rfl, rfl⟩ := H
 go_enter Try.func47, Try.ntmps47
 go_wp2_with (first | ((with_reducible refine gate_dst (N := 0) rfl ?_); refine box_event ?hg (N := 0) ?hd (cs := #[.slice none 0 0, .slice none 0 0]) (t := 41) ?hr ?_; (case hd => rfl); (case hg => rfl); (case hr => first | (go_simp; done) | (go_simp; rfl)); intro gb134 hg w1 hbox hb; have n0_ := Az0.mk (below_step (by repeat (first | (with_reducible first | exact HB.out | apply baA_ | apply pbN_ | apply bD1_) | exact HB.out)) hb); have n1_ := Az0.mk (hbox); have n2_ := Az0.mk ((by rw [hg]; exact (below_size (by repeat (first | (with_reducible first | exact HB.out | apply baA_ | apply pbN_ | apply bD1_) | exact HB.out))) : w.heap.size ≤ gb134)); have n3_ := Az0.mk ((by rw [hg]; exact (below_size (by repeat (first | (with_reducible first | exact HB.out | apply baA_ | apply pbN_ | apply bD1_) | exact HB.out))) : w.heap.size ≤ gb134)); clear HB; have HB := n0_; have BK134 := n1_; have GW134 := n2_; have GE134 := n3_; clear n0_ n1_ n2_ n3_; clear hb hbox hg) | ((with_reducible refine gate_dst (N := 1) rfl ?_); refine Kd.R_lit (Kd.int .i64) _ 3 ?hg (N := 1) ?hd (xs := ([1, 2] : List Int)) (inner := [.int .i64 1, .int .i64 2]) (ok := fun _ => True) (okp := fun _ => True) ?hr ?hp (fun _ hk => hk) trivial (Below.refl _ _) (Nat.le_refl _) (by simp) ?_; (case hd => rfl); (case hg => rfl); (case hr => first | (go_simp; done) | (go_simp; rfl)); (case hp => exact (Reps.one (show Kd.M (Kd.int .i64) _ _ _ 1 [.int .i64 1] from rfl) (Reps.one (show Kd.M (Kd.int .i64) _ _ _ 2 [.int .i64 2] from rfl) (Reps.none _ _)))); intro v136 w2 ho3 hb hg_ hnew_; clear hg_ hnew_; (first | rw [← Ny135.out] at ho3 | (simp only [Int.reduceToNat] at ho3; rw [← Ny135.out] at ho3)); have n0_ := Az0.mk (Kd.R_lower (Kd.R_newM (M := fun k_ => (w.heap.size ≤ k_)) ho3 (below_size (by repeat (first | (with_reducible first | exact HB.out | apply baA_ | apply pbN_ | apply bD1_ | refine below_set ?_ GE134.out) | exact HB.out))) (fun k_ h_ => h_)) (below_size (by repeat (first | (with_reducible first | exact HB.out | apply baA_ | apply pbN_ | apply bD1_ | refine below_set ?_ GE134.out) | exact HB.out)))); have n1_ := Az0.mk (blk_below (g := gb134) (o := .cells #[.slice none 0 0, .slice none 0 0] 41 (0, 0)) (by (with_reducible repeat (first | refine blk_drewN ?_ _ | refine blk_drew ?_ | refine blk_alloc ?_ _)); exact BK134.out) hb); have n2_ := Az0.mk (below_step (by repeat (first | (with_reducible first | exact HB.out | apply baA_ | apply pbN_ | apply bD1_ | refine below_set ?_ GE134.out) | exact HB.out)) hb); clear BK134; clear HB; have HO137 := n0_; have BK134 := n1_; have HB := n2_; clear n0_ n1_ n2_; clear hb ho3) | ((with_reducible refine gate_dst (N := 2) rfl ?_); refine Kd.R_lit (Kd.int .i64) _ 3 ?hg (N := 2) ?hd (xs := ([1, 2] : List Int)) (inner := [.int .i64 1, .int .i64 2]) (ok := fun _ => True) (okp := fun _ => True) ?hr ?hp (fun _ hk => hk) trivial (Below.refl _ _) (Nat.le_refl _) (by simp) ?_; (case hd => rfl); (case hg => rfl); (case hr => first | (go_simp; done) | (go_simp; rfl)); (case hp => exact (Reps.one (show Kd.M (Kd.int .i64) _ _ _ 1 [.int .i64 1] from rfl) (Reps.one (show Kd.M (Kd.int .i64) _ _ _ 2 [.int .i64 2] from rfl) (Reps.none _ _)))); intro v139 w4 ho5 hb hg_ hnew_; clear hg_ hnew_; (first | rw [← Ny138.out] at ho5 | (simp only [Int.reduceToNat] at ho5; rw [← Ny138.out] at ho5)); have n0_ := Az0.mk (Kd.R_elder' (by (with_reducible repeat (first | apply Kd.R_alloc | apply Kd.R_drewN | apply Kd.R_drew)); exact HO137.out) (Kd.R_base ho5) hb); have n1_ := Az0.mk (Kd.R_lower (Kd.R_new' (Kd.R_newM (M := fun k_ => (w.heap.size ≤ k_)) ho5 (below_size (by repeat (first | (with_reducible first | exact HB.out | apply baA_ | apply pbN_ | apply bD1_ | refine below_set ?_ GE134.out) | exact HB.out))) (fun k_ h_ => h_)) (Kd.R_lt (by (with_reducible repeat (first | apply Kd.R_alloc | apply Kd.R_drewN | apply Kd.R_drew)); exact HO137.out))) (below_size (by repeat (first | (with_reducible first | exact HB.out | apply baA_ | apply pbN_ | apply bD1_ | refine below_set ?_ GE134.out) | exact HB.out)))); have n2_ := Az0.mk (blk_below (g := gb134) (o := .cells #[.slice none 0 0, .slice none 0 0] 41 (0, 0)) (by (with_reducible repeat (first | refine blk_drewN ?_ _ | refine blk_drew ?_ | refine blk_alloc ?_ _)); exact BK134.out) hb); have n3_ := Az0.mk (below_step (by repeat (first | (with_reducible first | exact HB.out | apply baA_ | apply pbN_ | apply bD1_ | refine below_set ?_ GE134.out) | exact HB.out)) hb); clear HO137; clear BK134; clear HB; have HO137 := n0_; have HO140 := n1_; have BK134 := n2_; have HB := n3_; clear n0_ n1_ n2_ n3_; clear hb ho5; obtain ⟨Ao6, co6, eo6⟩ := Kd.R_slice HO137.out; subst eo6; obtain ⟨Ao7, co7, eo7⟩ := Kd.R_slice HO140.out; subst eo7) | ((with_reducible refine gate_dst (N := 3) rfl ?_); refine Kd.N_lit (Kd.slice 3 (Kd.int .i64)) _ 24 ?hg (N' := 3) ?hd (xs := ([y135, y138] : List (List Int))) (inner := [.slice Ao6 y135.length co6, .slice Ao7 y138.length co7]) (ok := (fun k_ => (w.heap.size ≤ k_) ∧ k_ ≠ gb134)) (okp := (fun k_ => (w.heap.size ≤ k_) ∧ k_ ≠ gb134)) ?hr ?hp (fun _ hk => hk) ((show ∀ k_, w4.heap.size ≤ k_ → (fun k_ => (w.heap.size ≤ k_) ∧ k_ ≠ gb134) k_ from fun k_ hk => ⟨(Nat.le_trans (below_size (by repeat (first | (with_reducible first | exact HB.out | apply baA_ | apply pbN_ | apply bD1_ | refine below_set ?_ GE134.out) | exact HB.out))) hk), Kd.freshB (g := gb134) (o := .cells #[.slice none 0 0, .slice none 0 0] 41 (0, 0)) (by (with_reducible repeat (first | refine blk_drewN ?_ _ | refine blk_drew ?_ | refine blk_alloc ?_ _)); exact BK134.out) k_ hk⟩) _ (Nat.le_refl _)) (Below.refl _ _) (Nat.le_refl _) (by simp) ?_; (case hd => rfl); (case hg => rfl); (case hr => first | (go_simp; done) | (go_simp; rfl)); (case hp => exact (Reps.one (show Kd.FK (Kd.slice 3 (Kd.int .i64)) _ _ y135 [.slice Ao6 y135.length co6] from (Kd.FK_slice_mk (Kd.R_reads' (Kd.R_mono (ok' := (fun k_ => (w.heap.size ≤ k_) ∧ k_ ≠ gb134)) (Kd.R_types (HO137.out) BK134.out (by decide)) (fun k_ hk => ⟨hk.1.1.1, hk.2⟩))).2.1 (Kd.R_F (Kd.R_mono (ok' := (fun k_ => (w.heap.size ≤ k_) ∧ k_ ≠ gb134)) (Kd.R_types (HO137.out) BK134.out (by decide)) (fun k_ hk => ⟨hk.1.1.1, hk.2⟩))))) (Reps.one (show Kd.FK (Kd.slice 3 (Kd.int .i64)) _ _ y138 [.slice Ao7 y138.length co7] from (Kd.FK_slice_mk (Kd.R_reads' (Kd.R_mono (ok' := (fun k_ => (w.heap.size ≤ k_) ∧ k_ ≠ gb134)) (Kd.R_types (HO140.out) BK134.out (by decide)) (fun k_ hk => ⟨hk.1.1.1, hk.2⟩))).2.1 (Kd.R_F (Kd.R_mono (ok' := (fun k_ => (w.heap.size ≤ k_) ∧ k_ ≠ gb134)) (Kd.R_types (HO140.out) BK134.out (by decide)) (fun k_ hk => ⟨hk.1.1.1, hk.2⟩))))) (Reps.none _ _)))); intro v142 w8 ho9 hb hg_ hnew_; clear hg_ hnew_; (first | rw [← Ny141.out] at ho9 | (simp only [Int.reduceToNat] at ho9; rw [← Ny141.out] at ho9)); have n0_ := Az0.mk (Kd.N_lower ho9 (below_size (by repeat (first | (with_reducible first | exact HB.out | apply baA_ | apply pbN_ | apply bD1_ | refine below_set ?_ GE134.out) | exact HB.out)))); have n1_ := Az0.mk (blk_below (g := gb134) (o := .cells #[.slice none 0 0, .slice none 0 0] 41 (0, 0)) (by (with_reducible repeat (first | refine blk_drewN ?_ _ | refine blk_drew ?_ | refine blk_alloc ?_ _)); exact BK134.out) hb); have n2_ := Az0.mk (below_step (by repeat (first | (with_reducible first | exact HB.out | apply baA_ | apply pbN_ | apply bD1_ | refine below_set ?_ GE134.out) | exact HB.out)) hb); clear BK134; clear HB; clear HO137; clear HO140; have HO143 := n0_; have BK134 := n1_; have HB := n2_; clear n0_ n1_ n2_; clear hb ho9) | ((with_reducible refine gate_dst (N := 4) rfl ?_); refine Kd.R_lit (Kd.int .i64) _ 3 ?hg (N := 4) ?hd (xs := ([1, 2] : List Int)) (inner := [.int .i64 1, .int .i64 2]) (ok := fun _ => True) (okp := fun _ => True) ?hr ?hp (fun _ hk => hk) trivial (Below.refl _ _) (Nat.le_refl _) (by simp) ?_; (case hd => rfl); (case hg => rfl); (case hr => first | (go_simp; done) | (go_simp; rfl)); (case hp => exact (Reps.one (show Kd.M (Kd.int .i64) _ _ _ 1 [.int .i64 1] from rfl) (Reps.one (show Kd.M (Kd.int .i64) _ _ _ 2 [.int .i64 2] from rfl) (Reps.none _ _)))); intro v145 w10 ho11 hb hg_ hnew_; clear hg_ hnew_; (first | rw [← Ny144.out] at ho11 | (simp only [Int.reduceToNat] at ho11; rw [← Ny144.out] at ho11)); have n0_ := Az0.mk (Kd.N_elder' (by (with_reducible repeat (first | apply Kd.N_alloc | apply Kd.N_drewN | apply Kd.N_drew)); exact HO143.out) (Kd.R_base ho11) hb); have n1_ := Az0.mk (Kd.R_lower (Kd.R_newM (M := fun k_ => (w.heap.size ≤ k_)) ho11 (below_size (by repeat (first | (with_reducible first | exact HB.out | apply baA_ | apply pbN_ | apply bD1_ | refine below_set ?_ GE134.out) | exact HB.out))) (fun k_ h_ => h_)) (below_size (by repeat (first | (with_reducible first | exact HB.out | apply baA_ | apply pbN_ | apply bD1_ | refine below_set ?_ GE134.out) | exact HB.out)))); have n2_ := Az0.mk (blk_below (g := gb134) (o := .cells #[.slice none 0 0, .slice none 0 0] 41 (0, 0)) (by (with_reducible repeat (first | refine blk_drewN ?_ _ | refine blk_drew ?_ | refine blk_alloc ?_ _)); exact BK134.out) hb); have n3_ := Az0.mk (below_step (by repeat (first | (with_reducible first | exact HB.out | apply baA_ | apply pbN_ | apply bD1_ | refine below_set ?_ GE134.out) | exact HB.out)) hb); clear HO143; clear BK134; clear HB; have HO143 := n0_; have HO146 := n1_; have BK134 := n2_; have HB := n3_; clear n0_ n1_ n2_ n3_; clear hb ho11) | ((with_reducible refine gate_dst (N := 5) rfl ?_); refine Kd.R_lit (Kd.int .i64) _ 3 ?hg (N := 5) ?hd (xs := ([2, 2] : List Int)) (inner := [.int .i64 2, .int .i64 2]) (ok := fun _ => True) (okp := fun _ => True) ?hr ?hp (fun _ hk => hk) trivial (Below.refl _ _) (Nat.le_refl _) (by simp) ?_; (case hd => rfl); (case hg => rfl); (case hr => first | (go_simp; done) | (go_simp; rfl)); (case hp => exact (Reps.one (show Kd.M (Kd.int .i64) _ _ _ 2 [.int .i64 2] from rfl) (Reps.one (show Kd.M (Kd.int .i64) _ _ _ 2 [.int .i64 2] from rfl) (Reps.none _ _)))); intro v148 w12 ho13 hb hg_ hnew_; clear hg_ hnew_; (first | rw [← Ny147.out] at ho13 | (simp only [Int.reduceToNat] at ho13; rw [← Ny147.out] at ho13)); have n0_ := Az0.mk (Kd.N_elder' (by (with_reducible repeat (first | apply Kd.N_alloc | apply Kd.N_drewN | apply Kd.N_drew)); exact HO143.out) (Kd.R_base ho13) hb); have n1_ := Az0.mk (Kd.R_elder' (by (with_reducible repeat (first | apply Kd.R_alloc | apply Kd.R_drewN | apply Kd.R_drew)); exact HO146.out) (Kd.R_base ho13) hb); have n2_ := Az0.mk (Kd.R_lower (Kd.R_new' (Kd.R_newM (M := fun k_ => (w.heap.size ≤ k_)) ho13 (below_size (by repeat (first | (with_reducible first | exact HB.out | apply baA_ | apply pbN_ | apply bD1_ | refine below_set ?_ GE134.out) | exact HB.out))) (fun k_ h_ => h_)) (Kd.R_lt (by (with_reducible repeat (first | apply Kd.R_alloc | apply Kd.R_drewN | apply Kd.R_drew)); exact HO146.out))) (below_size (by repeat (first | (with_reducible first | exact HB.out | apply baA_ | apply pbN_ | apply bD1_ | refine below_set ?_ GE134.out) | exact HB.out)))); have n3_ := Az0.mk (blk_below (g := gb134) (o := .cells #[.slice none 0 0, .slice none 0 0] 41 (0, 0)) (by (with_reducible repeat (first | refine blk_drewN ?_ _ | refine blk_drew ?_ | refine blk_alloc ?_ _)); exact BK134.out) hb); have n4_ := Az0.mk (below_step (by repeat (first | (with_reducible first | exact HB.out | apply baA_ | apply pbN_ | apply bD1_ | refine below_set ?_ GE134.out) | exact HB.out)) hb); clear HO143; clear HO146; clear BK134; clear HB; have HO143 := n0_; have HO146 := n1_; have HO149 := n2_; have BK134 := n3_; have HB := n4_; clear n0_ n1_ n2_ n3_ n4_; clear hb ho13; obtain ⟨Ao14, co14, eo14⟩ := Kd.R_slice HO146.out; subst eo14; obtain ⟨Ao15, co15, eo15⟩ := Kd.R_slice HO149.out; subst eo15) | ((with_reducible refine gate_dst (N := 6) rfl ?_); refine Kd.N_lit (Kd.slice 3 (Kd.int .i64)) _ 24 ?hg (N' := 6) ?hd (xs := ([y144, y147] : List (List Int))) (inner := [.slice Ao14 y144.length co14, .slice Ao15 y147.length co15]) (ok := (fun k_ => (w.heap.size ≤ k_) ∧ some k_ ≠ (v142 : Value).ownBlock ∧ k_ ≠ gb134)) (okp := (fun k_ => (w.heap.size ≤ k_) ∧ some k_ ≠ (v142 : Value).ownBlock ∧ k_ ≠ gb134)) ?hr ?hp (fun _ hk => hk) ((show ∀ k_, w12.heap.size ≤ k_ → (fun k_ => (w.heap.size ≤ k_) ∧ some k_ ≠ (v142 : Value).ownBlock ∧ k_ ≠ gb134) k_ from fun k_ hk => ⟨(Nat.le_trans (below_size (by repeat (first | (with_reducible first | exact HB.out | apply baA_ | apply pbN_ | apply bD1_ | refine below_set ?_ GE134.out) | exact HB.out))) hk), Kd.fresh' (Kd.N_lt (by (with_reducible repeat (first | apply Kd.N_alloc | apply Kd.N_drewN | apply Kd.N_drew)); exact HO143.out)) k_ hk, Kd.freshB (g := gb134) (o := .cells #[.slice none 0 0, .slice none 0 0] 41 (0, 0)) (by (with_reducible repeat (first | refine blk_drewN ?_ _ | refine blk_drew ?_ | refine blk_alloc ?_ _)); exact BK134.out) k_ hk⟩) _ (Nat.le_refl _)) (Below.refl _ _) (Nat.le_refl _) (by simp) ?_; (case hd => rfl); (case hg => rfl); (case hr => first | (go_simp; done) | (go_simp; rfl)); (case hp => exact (Reps.one (show Kd.FK (Kd.slice 3 (Kd.int .i64)) _ _ y144 [.slice Ao14 y144.length co14] from (Kd.FK_slice_mk (Kd.R_reads' (Kd.R_mono (ok' := (fun k_ => (w.heap.size ≤ k_) ∧ some k_ ≠ (v142 : Value).ownBlock ∧ k_ ≠ gb134)) (Kd.R_types (Kd.R_apart' (HO146.out) (Kd.N_typed HO143.out) (by decide)) BK134.out (by decide)) (fun k_ hk => ⟨hk.1.1.1.1, ⟨hk.1.2, hk.2⟩⟩))).2.1 (Kd.R_F (Kd.R_mono (ok' := (fun k_ => (w.heap.size ≤ k_) ∧ some k_ ≠ (v142 : Value).ownBlock ∧ k_ ≠ gb134)) (Kd.R_types (Kd.R_apart' (HO146.out) (Kd.N_typed HO143.out) (by decide)) BK134.out (by decide)) (fun k_ hk => ⟨hk.1.1.1.1, ⟨hk.1.2, hk.2⟩⟩))))) (Reps.one (show Kd.FK (Kd.slice 3 (Kd.int .i64)) _ _ y147 [.slice Ao15 y147.length co15] from (Kd.FK_slice_mk (Kd.R_reads' (Kd.R_mono (ok' := (fun k_ => (w.heap.size ≤ k_) ∧ some k_ ≠ (v142 : Value).ownBlock ∧ k_ ≠ gb134)) (Kd.R_types (Kd.R_apart' (HO149.out) (Kd.N_typed HO143.out) (by decide)) BK134.out (by decide)) (fun k_ hk => ⟨hk.1.1.1.1, ⟨hk.1.2, hk.2⟩⟩))).2.1 (Kd.R_F (Kd.R_mono (ok' := (fun k_ => (w.heap.size ≤ k_) ∧ some k_ ≠ (v142 : Value).ownBlock ∧ k_ ≠ gb134)) (Kd.R_types (Kd.R_apart' (HO149.out) (Kd.N_typed HO143.out) (by decide)) BK134.out (by decide)) (fun k_ hk => ⟨hk.1.1.1.1, ⟨hk.1.2, hk.2⟩⟩))))) (Reps.none _ _)))); intro v151 w16 ho17 hb hg_ hnew_; clear hg_ hnew_; (first | rw [← Ny150.out] at ho17 | (simp only [Int.reduceToNat] at ho17; rw [← Ny150.out] at ho17)); have n0_ := Az0.mk (Kd.N_elder' (by (with_reducible repeat (first | apply Kd.N_alloc | apply Kd.N_drewN | apply Kd.N_drew)); exact HO143.out) (Kd.N_base ho17) hb); have n1_ := Az0.mk (Kd.N_lower ho17 (below_size (by repeat (first | (with_reducible first | exact HB.out | apply baA_ | apply pbN_ | apply bD1_ | refine below_set ?_ GE134.out) | exact HB.out)))); have n2_ := Az0.mk (blk_below (g := gb134) (o := .cells #[.slice none 0 0, .slice none 0 0] 41 (0, 0)) (by (with_reducible repeat (first | refine blk_drewN ?_ _ | refine blk_drew ?_ | refine blk_alloc ?_ _)); exact BK134.out) hb); have n3_ := Az0.mk (below_step (by repeat (first | (with_reducible first | exact HB.out | apply baA_ | apply pbN_ | apply bD1_ | refine below_set ?_ GE134.out) | exact HB.out)) hb); clear HO143; clear BK134; clear HB; clear HO146; clear HO149; have HO143 := n0_; have HO152 := n1_; have BK134 := n2_; have HB := n3_; clear n0_ n1_ n2_ n3_; clear hb ho17; obtain ⟨Ao18, co18, eo18⟩ := Kd.N_slice HO152.out; subst eo18; obtain ⟨Ao19, co19, eo19⟩ := Kd.N_slice HO143.out; subst eo19; have hcz20_0 : w16.cell? ⟨gb134, 0, none⟩ = some (.slice none 0 0) := (bkC BK134.out 0).trans rfl; have hcz20_1 : w16.cell? ⟨gb134, 1, none⟩ = some (.slice none 0 0) := (bkC BK134.out 1).trans rfl; have hfz20_0 := blk_frozen BK134.out 0; have hfz20_1 := blk_frozen BK134.out 1))
 refine bodyPost_ret (results_cell_row rfl _ _ gb134 41 #[.slice Ao19 y141.length co19, .slice Ao18 y150.length co18] (0, 0) _ rfl (by (with_reducible repeat (first | refine blk_drewN ?_ _ | refine blk_drew ?_ | refine blk_alloc ?_ _)); refine blk_put (cs := #[.slice Ao19 y141.length co19, .slice none 0 0]) ?_ 1 _ rfl; (with_reducible repeat (first | refine blk_drewN ?_ _ | refine blk_drew ?_ | refine blk_alloc ?_ _)); refine blk_put (cs := #[.slice none 0 0, .slice none 0 0]) ?_ 0 _ rfl; (with_reducible repeat (first | refine blk_drewN ?_ _ | refine blk_drew ?_ | refine blk_alloc ?_ _)); exact BK134.out) Try.underlying41 rfl (by kernel_rfl)) rfl ?_
 exact ⟨_, _, by first | rfl | (simp [errW_none, errW_some] <;> rfl) | (simp [*, errW_none, errW_some] <;> rfl), by (with_reducible repeat (first | apply Kd.N_alloc | apply Kd.N_drewN | apply Kd.N_drew)); exact Kd.N_mono (Kd.N_far (p := ⟨gb134, 1, none⟩) (Kd.N_far (p := ⟨gb134, 0, none⟩) (Kd.N_mono HO143.out (fun k_ hk => (⟨hk, hk.1.1.1.2⟩ : _ ∧ k_ ≠ gb134))) (fun _ hk => hk.2) (.slice Ao19 y141.length co19)) (fun _ hk => hk.2) (.slice Ao18 y150.length co18)) (fun _ hk => ⟨hk.1.1.1.1.1, hk.1.2⟩), by (with_reducible repeat (first | apply Kd.N_alloc | apply Kd.N_drewN | apply Kd.N_drew)); exact Kd.N_mono (Kd.N_far (p := ⟨gb134, 1, none⟩) (Kd.N_far (p := ⟨gb134, 0, none⟩) (Kd.N_mono HO152.out (fun k_ hk => (⟨hk, hk.2.2⟩ : _ ∧ k_ ≠ gb134))) (fun _ hk => hk.2) (.slice Ao19 y141.length co19)) (fun _ hk => hk.2) (.slice Ao18 y150.length co18)) (fun _ hk => ⟨hk.1.1, hk.1.2.1⟩), by repeat (first | (with_reducible first | exact HB.out | apply baA_ | apply pbN_ | apply bD1_ | refine below_set ?_ GE134.out) | exact HB.out)⟩
end Go.Proofs.Ytjgbdicbdlollaa.B
namespace Go.Proofs.Ytjgbdicbdlollaa.B
open Go.RowKit Go.Proofs.YtjgbdicbdlollaaW.PrintWords Go.Proofs.YtjgbdicbdlollaaW.PrintLast Go.Proofs.YtjgbdicbdlollaaW.PrintMore
attribute [local go_sem] max2_int min2_int max_two min_two max_three min_three max_four min_four   -- for this text's walks alone
set_option linter.unusedVariables false
set_option linter.unusedSimpArgs false
def ratio_divisor.f : Nat → Int → Int → Option (Int)
  | 0, _, _ => none
  | k + 1, a0, a1 => if a1 = 0 then (some (mx a0 (wrap64 (-a0)))) else ((ratio_divisor.f k a1 (Int.tmod a0 a1)).bind fun t343 => (some t343))
theorem ratio_divisor.mono_l : ∀ k, (∀ y0 y1, LeO (ratio_divisor.f k y0 y1) (ratio_divisor.f (k + 1) y0 y1))
  | 0 => fun _ _ r h => by simp [ratio_divisor.f] at h
  | k + 1 => by
    have ih0 := ratio_divisor.mono_l k
    · intro y0 y1
      unfold ratio_divisor.f
      repeat' first
      | (with_reducible exact ih0 _ _)
      | (with_reducible exact LeO.refl _)
      | (with_reducible exact LeO.none _)
      | (with_reducible refine LeO.ite ?_ ?_)
      | (with_reducible refine LeO.bind ?_ (fun _ => ?_))
      | exact ih0 _ _
      | exact LeO.none _
      | refine LeO.ite ?_ ?_
      | refine LeO.bind ?_ (fun _ => ?_)
theorem ratio_divisor.mono : ∀ a0 a1 k, LeO (ratio_divisor.f k a0 a1) (ratio_divisor.f (k + 1) a0 a1) := by
  intro a0 a1 k
  have ih0 := ratio_divisor.mono_l k
  exact ih0 a0 a1
set_option maxHeartbeats 8000000 in
set_option maxRecDepth 100000 in
theorem ratio_divisor.calls (k : Nat) : ∀ (a0 : Int) (a1 : Int) (r : Int) (w : World) (h : ratio_divisor.f k a0 a1 = some r),
  Calls Try.prog 99 #[.int .i64 a0, .int .i64 a1] w fun e w' => e = .returned (.int .i64 r) ∧ Below w.heap.size w w' := by
 induction k using Nat.strongRecOn with
 | _ k ih =>
 intro a0 a1 r w h
 cases k with
 | zero => exact absurd h (by simp [ratio_divisor.f])
 | succ k =>
 simp only [ratio_divisor.f] at h
 have HB := Az0.mk (Below.refl w.heap.size w)
 have H : (if a1 = 0 then (some (mx a0 (wrap64 (-a0)))) else ((ratio_divisor.f k a1 (Int.tmod a0 a1)).bind fun t343 => (some t343))) = some r := h
 clear h
 by_cases c3 : a1 = 0
 ·rw [if_pos c3] at H
  have c3b0 : (a1 == 0) = true := beq_iff_eq.mpr c3
  have c3b1 : (a1 != 0) = false := bne_eq_false_iff_eq.mpr c3
  clear c3
  obtain ⟨ji4, hji4⟩ : ∃ j_ : Int, (mx a0 (wrap64 (-a0))) = j_ := ⟨_, rfl⟩
  replace H : (some ji4) = some r := by first | (rw [hji4] at H; exact H) | (simp only [hji4] at H ⊢; exact H)
  have hji4_ : (if a0 < (wrap64 (-a0)) then (wrap64 (-a0)) else a0) = ji4 := hji4
  obtain rfl := Option.some.inj H
  go_enter Try.func99, Try.ntmps99
  go_wp2
  go_ret
  exact ⟨by first | rfl | (simp [errW_none, errW_some] <;> rfl) | (simp only [← hji4]; first | rfl | (simp [errW_none, errW_some] <;> rfl)) | (simp [*, errW_none, errW_some] <;> rfl), by repeat (first | (with_reducible first | exact HB.out | apply baA_ | apply pbN_ | apply bD1_) | exact HB.out)⟩
 ·rw [if_neg c3] at H
  have c3b0 : (a1 == 0) = false := beq_eq_false_iff_ne.mpr c3
  have c3b1 : (a1 != 0) = true := bne_iff_ne.mpr c3
  replace H := Option.bind_eq_some_iff.mp H
  obtain ⟨t343, A50, H⟩ := H
  replace H : (some t343) = some r := H
  have A5 := Az0.mk A50
  clear A50
  obtain rfl := Option.some.inj H
  go_enter Try.func99, Try.ntmps99
  go_wp2_with (first | ((with_reducible refine gate_callee (f := 99) rfl ?_); refine goesL_ (some 15) rfl rfl Try.func99 (by kernel_rfl) rfl #[.int .i64 a1, .int .i64 (Int.tmod a0 a1)] rfl (by (try simp only [List.map_toArray, List.map_cons, List.map_nil]); first | done | rfl | (simp only [List.length_drop, List.length_take]; rfl)) ?_; (with_reducible refine (ih k (by omega) a1 (Int.tmod a0 a1) t343 _ A5.out).mono ?_); rintro e w6 ⟨rfl, hb⟩; refine ⟨_, rfl, ?_⟩; have n0_ := Az0.mk (below_step (by repeat (first | (with_reducible first | exact HB.out | apply baA_ | apply pbN_ | apply bD1_) | exact HB.out)) hb); clear HB; have HB := n0_; clear n0_; (try clear hb); (try clear hb2); (try clear hk); (try clear hi)))
  go_ret
  exact ⟨by first | rfl | (simp [errW_none, errW_some] <;> rfl) | (simp [*, errW_none, errW_some] <;> rfl), by repeat (first | (with_reducible first | exact HB.out | apply baA_ | apply pbN_ | apply bD1_) | exact HB.out)⟩
mutual
def ratio_Parts.l0 : Nat → List Int → Int → Int → List Int → Int → Int → Option (List Int × Int)
  | 0, _, _, _, _, _, _ => none
  | k + 1, x0, x1, x5, x12, x13, x14 => if x14 < x13 then (if 0 ≤ x14 then (if x14 < (x12.length : Int) then ((ratio_divisor.f k x5 (rd x12 x14)).bind fun t352 => (ratio_Parts.l0 k x0 x1 t352 x12 x13 (wrap64 (x14 + 1)))) else (none)) else (none)) else (if 0 ≤ (x0.length : Int) then (if ((x0.length : Int) : Int).toNat ≤ 35184372088832 then (ratio_Parts.l1 k x1 (mx x5 (wrap64 (-x5))) (List.replicate ((x0.length : Int) : Int).toNat 0) x0 (x0.length : Int) 0) else (none)) else (none))
def ratio_Parts.l1 : Nat → Int → Int → List Int → List Int → Int → Int → Option (List Int × Int)
  | 0, _, _, _, _, _, _ => none
  | k + 1, x1, x5, x8, x29, x30, x31 => if x31 < x30 then (if 0 ≤ x31 then (if x31 < (x29.length : Int) then (if x5 = 0 then (none) else (if x31 < (x8.length : Int) then (ratio_Parts.l1 k x1 x5 (x8.set (x31 : Int).toNat (wrap64 (Int.tdiv (rd x29 x31) x5))) x29 x30 (wrap64 (x31 + 1))) else (none))) else (none)) else (none)) else (if x5 = 0 then (none) else (some (x8, wrap64 (Int.tdiv x1 x5))))
end
def ratio_Parts.f (k : Nat) (l0 : List Int) (a1 : Int) : Option (List Int × Int) := ratio_Parts.l0 k l0 a1 a1 l0 (l0.length : Int) 0
theorem ratio_Parts.mono_l : ∀ k, (∀ y0 y1 y2 y3 y4 y5, LeO (ratio_Parts.l0 k y0 y1 y2 y3 y4 y5) (ratio_Parts.l0 (k + 1) y0 y1 y2 y3 y4 y5)) ∧ (∀ y0 y1 y2 y3 y4 y5, LeO (ratio_Parts.l1 k y0 y1 y2 y3 y4 y5) (ratio_Parts.l1 (k + 1) y0 y1 y2 y3 y4 y5))
  | 0 => ⟨fun _ _ _ _ _ _ r h => by simp [ratio_Parts.l0] at h, fun _ _ _ _ _ _ r h => by simp [ratio_Parts.l1] at h⟩
  | k + 1 => by
    obtain ⟨ih0, ih1⟩ := ratio_Parts.mono_l k
    refine ⟨?_, ?_⟩
    · intro y0 y1 y2 y3 y4 y5
      unfold ratio_Parts.l0
      repeat' first
      | (with_reducible exact ih0 _ _ _ _ _ _)
      | (with_reducible exact ih1 _ _ _ _ _ _)
      | (with_reducible exact ratio_divisor.mono _ _ _)
      | (with_reducible exact LeO.refl _)
      | (with_reducible exact LeO.none _)
      | (with_reducible refine LeO.ite ?_ ?_)
      | (with_reducible refine LeO.bind ?_ (fun _ => ?_))
      | exact ih0 _ _ _ _ _ _
      | exact ih1 _ _ _ _ _ _
      | exact ratio_divisor.mono _ _ _
      | exact LeO.none _
      | refine LeO.ite ?_ ?_
      | refine LeO.bind ?_ (fun _ => ?_)
    · intro y0 y1 y2 y3 y4 y5
      unfold ratio_Parts.l1
      repeat' first
      | (with_reducible exact ih0 _ _ _ _ _ _)
      | (with_reducible exact ih1 _ _ _ _ _ _)
      | (with_reducible exact ratio_divisor.mono _ _ _)
      | (with_reducible exact LeO.refl _)
      | (with_reducible exact LeO.none _)
      | (with_reducible refine LeO.ite ?_ ?_)
      | (with_reducible refine LeO.bind ?_ (fun _ => ?_))
      | exact ih0 _ _ _ _ _ _
      | exact ih1 _ _ _ _ _ _
      | exact ratio_divisor.mono _ _ _
      | exact LeO.none _
      | refine LeO.ite ?_ ?_
      | refine LeO.bind ?_ (fun _ => ?_)
theorem ratio_Parts.mono : ∀ a0 a1 k, LeO (ratio_Parts.f k a0 a1) (ratio_Parts.f (k + 1) a0 a1) := by
  intro a0 a1 k
  obtain ⟨ih0, ih1⟩ := ratio_Parts.mono_l k
  unfold ratio_Parts.f
  repeat' first
      | (with_reducible exact ih0 _ _ _ _ _ _)
      | (with_reducible exact ih1 _ _ _ _ _ _)
      | (with_reducible exact ratio_divisor.mono _ _ _)
      | (with_reducible exact LeO.refl _)
      | (with_reducible exact LeO.none _)
      | (with_reducible refine LeO.ite ?_ ?_)
      | (with_reducible refine LeO.bind ?_ (fun _ => ?_))
      | exact ih0 _ _ _ _ _ _
      | exact ih1 _ _ _ _ _ _
      | exact ratio_divisor.mono _ _ _
      | exact LeO.none _
      | refine LeO.ite ?_ ?_
      | refine LeO.bind ?_ (fun _ => ?_)
set_option maxHeartbeats 8000000 in
set_option maxRecDepth 100000 in
theorem ratio_Parts.calls (k : Nat) (A0 : Option Addr) (c0 : Nat) (l0 : List Int) (a1 : Int) (r1 : List Int) (r2 : Int) (w : World) (hr0 : Kd.C (Kd.int .i64) w A0 l0.length l0) (hc0 : l0.length ≤ c0) (h : ratio_Parts.f k l0 a1 = some (r1, r2)) :
  Calls Try.prog 80 #[.slice A0 l0.length c0, .int .i64 a1] w fun e w' => ∃ v0_ : Value, e = .returned (.agg #[v0_, .int .i64 r2]) ∧ Kd.R (Kd.int .i64) 3 w' w.heap.size (fun _ => True) v0_ r1 ∧ Below w.heap.size w w' := by
 have hu26 := Try.underlying26
 have HR0 := Az0.mk hr0
 have HC0 := Az0.mk hc0
 clear hr0 hc0
 have HB := Az0.mk (Below.refl w.heap.size w)
 have H : (ratio_Parts.l0 k l0 a1 a1 l0 (l0.length : Int) 0) = some (r1, r2) := h
 clear h
 have H' := Az0.mk H
 clear H
 go_enter Try.func80, Try.ntmps80
 go_wp2_with (first | ((with_reducible refine gate_dst (N := 4) rfl ?_); refine box_event ?hg (N := 4) ?hd (cs := #[.slice none 0 0, .int .i64 0]) (t := 26) ?hr ?_; (case hd => rfl); (case hg => rfl); (case hr => first | (go_simp; done) | (go_simp; rfl)); intro gb350 hg w3 hbox hb; have n0_ := Az0.mk (below_step (by repeat (first | (with_reducible first | exact HB.out | apply baA_ | apply pbN_ | apply bD1_) | exact HB.out)) hb); have n1_ := Az0.mk (hbox); have n2_ := Az0.mk ((by rw [hg]; exact (below_size (by repeat (first | (with_reducible first | exact HB.out | apply baA_ | apply pbN_ | apply bD1_) | exact HB.out))) : w.heap.size ≤ gb350)); have n3_ := Az0.mk ((by rw [hg]; exact (below_size (by repeat (first | (with_reducible first | exact HB.out | apply baA_ | apply pbN_ | apply bD1_) | exact HB.out))) : w.heap.size ≤ gb350)); clear HB; have HB := n0_; have BK350 := n1_; have GW350 := n2_; have GE350 := n3_; clear n0_ n1_ n2_ n3_; clear hb hbox hg))
 go_loopg [5, 14] k (fun kq v5 v14 w' => ∃ (x5_1 : Int) (x14_1 : Int), v5 = .int .i64 x5_1 ∧ v14 = .int .i64 x14_1 ∧ Az0 (ratio_Parts.l0 kq l0 a1 x5_1 l0 (l0.length : Int) x14_1 = some (r1, r2)) ∧ Az0 (kq ≤ k) ∧ Az0 (w'.heap[gb350]? = some (.cells #[(.slice none 0 0), .int .i64 0] 26 (0, 0))) ∧ Az0 (Below w.heap.size w w'))
 case atStart => exact ⟨(a1), (0), (by first | rfl | (simp; done) | (simp [*]; done)), (by first | rfl | (simp; done) | (simp [*]; done)), H', ⟨Nat.le_refl _⟩, ⟨by (with_reducible repeat (first | refine blk_drewN ?_ _ | refine blk_drew ?_ | refine blk_alloc ?_ _)); exact BK350.out⟩, ⟨by repeat (first | (with_reducible first | exact HB.out | apply baA_ | apply pbN_ | apply bD1_ | refine below_set ?_ GE350.out) | exact HB.out)⟩⟩
 case round =>
  clear H'
  try clear p2
  obtain ⟨x5_1, x14_1, rfl, rfl, HA, HK1, BK350, HB⟩ := hrel
  cases gk with
  | zero => exact absurd HA.out (by simp [ratio_Parts.l0])
  | succ k1 =>
   have H := HA.out
   clear HA
   simp only [ratio_Parts.l0] at H
   by_cases c4 : x14_1 < (l0.length : Int)
   ·rw [if_pos c4] at H
    have c4b0 : decide (x14_1 < (l0.length : Int)) = true := decide_eq_true c4
    clear c4
    by_cases c5 : 0 ≤ x14_1
    ·rw [if_pos c5] at H
     have c5b0 : decide (0 ≤ x14_1) = true := decide_eq_true c5
     clear c5
     by_cases c6 : x14_1 < (l0.length : Int)
     ·rw [if_pos c6] at H
      have c6b0 : decide (x14_1 < (l0.length : Int)) = true := decide_eq_true c6
      clear c6
      replace H := Option.bind_eq_some_iff.mp H
      obtain ⟨t352, A70, H⟩ := H
      replace H : (ratio_Parts.l0 k1 l0 a1 t352 l0 (l0.length : Int) (wrap64 (x14_1 + 1))) = some (r1, r2) := H
      have A7 := Az0.mk A70
      clear A70
      have H' := Az0.mk H
      clear H
      have p351 : 0 ≤ (x14_1 : Int) := of_decide_eq_true (by first | (with_reducible assumption) | assumption)
      have q351 : x14_1 < (l0.length : Int) := of_decide_eq_true (by first | (with_reducible assumption) | assumption)
      obtain ⟨ad351, e351, hx351_0⟩ := Kd.at_int HR0.out x14_1 p351 q351
      cases e351
      replace hx351_0 := (HB.out.cell (World.block_lt_of_cell? w _ hx351_0)).trans hx351_0
      replace p351 := eq_true p351
      replace q351 := eq_true q351
      go_wp2_with (first | ((with_reducible refine gate_callee (f := 99) rfl ?_); refine goesL_ (some 20) rfl rfl Try.func99 (by kernel_rfl) rfl #[.int .i64 x5_1, .int .i64 (rd l0 x14_1)] rfl (by (try simp only [List.map_toArray, List.map_cons, List.map_nil]); first | done | rfl | (simp only [List.length_drop, List.length_take]; rfl)) ?_; (with_reducible refine (ratio_divisor.calls k1 x5_1 (rd l0 x14_1) t352 _ A7.out).mono ?_); rintro e w8 ⟨rfl, hb⟩; refine ⟨_, rfl, ?_⟩; have n0_ := Az0.mk (blk_below (g := gb350) (o := .cells #[.slice none 0 0, .int .i64 0] 26 (0, 0)) (by (with_reducible repeat (first | refine blk_drewN ?_ _ | refine blk_drew ?_ | refine blk_alloc ?_ _)); exact BK350.out) hb); have n1_ := Az0.mk (below_step (by repeat (first | (with_reducible first | exact HB.out | apply baA_ | apply pbN_ | apply bD1_ | refine below_set ?_ GE350.out) | exact HB.out)) hb); clear BK350; clear HB; have BK350 := n0_; have HB := n1_; clear n0_ n1_; (try clear hb); (try clear hb2); (try clear hk); (try clear hi)))
      go_roundg k1
      case measure => have := HK1.out; omega
      case rel => exact ⟨(t352), (wrap64 (x14_1 + 1)), (by first | rfl | (simp; done) | (simp [*]; done)), (by first | rfl | (simp; done) | (simp [*]; done)), H', ⟨by have := HK1.out; omega⟩, ⟨by (with_reducible repeat (first | refine blk_drewN ?_ _ | refine blk_drew ?_ | refine blk_alloc ?_ _)); exact BK350.out⟩, ⟨by repeat (first | (with_reducible first | exact HB.out | apply baA_ | apply pbN_ | apply bD1_ | refine below_set ?_ GE350.out) | exact HB.out)⟩⟩
     ·rw [if_neg c6] at H
      exact absurd H (by simp)
    ·rw [if_neg c5] at H
     exact absurd H (by simp)
   ·rw [if_neg c4] at H
    have c4b0 : decide (x14_1 < (l0.length : Int)) = false := decide_eq_false c4
    clear c4
    obtain ⟨ji9, hji9⟩ : ∃ j_ : Int, (mx x5_1 (wrap64 (-x5_1))) = j_ := ⟨_, rfl⟩
    replace H : (if 0 ≤ (l0.length : Int) then (if ((l0.length : Int) : Int).toNat ≤ 35184372088832 then (ratio_Parts.l1 k1 a1 ji9 (List.replicate ((l0.length : Int) : Int).toNat 0) l0 (l0.length : Int) 0) else (none)) else (none)) = some (r1, r2) := by first | (rw [hji9] at H; exact H) | (simp only [hji9] at H ⊢; exact H)
    have hji9_ : (if x5_1 < (wrap64 (-x5_1)) then (wrap64 (-x5_1)) else x5_1) = ji9 := hji9
    by_cases c10 : 0 ≤ (l0.length : Int)
    ·rw [if_pos c10] at H
     have c10b0 := eq_true c10
     have c10b1 : decide (0 ≤ (l0.length : Int)) = true := decide_eq_true c10
     clear c10
     by_cases c11 : ((l0.length : Int) : Int).toNat ≤ 35184372088832
     ·rw [if_pos c11] at H
      have c11b0 := eq_true c11
      have c11b1 : decide (((l0.length : Int) : Int).toNat ≤ 35184372088832) = true := decide_eq_true c11
      clear c11
      obtain ⟨y353, hy353⟩ : ∃ y_ : List Int, y_ = (List.replicate ((l0.length : Int) : Int).toNat 0) := ⟨_, rfl⟩
      replace H : (ratio_Parts.l1 k1 a1 ji9 y353 l0 (l0.length : Int) 0) = some (r1, r2) := by first | (rw [hy353]; with_reducible exact H) | (have H2_ := (Option.bind_some _ _).symm.trans H; rw [hy353]; with_reducible exact H2_) | (have H2_ := (Option.bind_some _ _).symm.trans H; with_reducible exact H2_) | with_reducible exact H | (rw [hy353]; exact H) | exact H
      have Ny353 := Az0.mk hy353
      clear hy353
      have H' := Az0.mk H
      clear H
      go_wp2_with (first | ((with_reducible refine gate_dst (N := 28) rfl ?_); refine Kd.R_make (Kd.int .i64) _ 3 rfl (N := 28) rfl 24 _ _ rfl (l0.length : Int) rfl rfl Try.underlying24 (.int .i64 0) 8 info3 rfl (by decide) (by omega) 0 (ok := fun _ => True) (okp := fun _ => True) rfl (fun _ hk => hk) trivial (of_decide_eq_true (by first | (with_reducible assumption) | assumption)) (Nat.le_trans (Nat.mul_le_mul_right _ (of_decide_eq_true (by first | (with_reducible assumption) | assumption) : (l0.length : Int).toNat ≤ 35184372088832)) (by omega)) (Below.refl _ _) (Nat.le_refl _) ?_; intro v354 w12 ho13 hb hg_ hnew_; clear hg_ hnew_; (first | rw [← Ny353.out] at ho13 | (simp only [Int.reduceToNat] at ho13; rw [← Ny353.out] at ho13)); have n0_ := Az0.mk (Kd.R_lower ho13 (below_size (by repeat (first | (with_reducible first | exact HB.out | apply baA_ | apply pbN_ | apply bD1_ | refine below_set ?_ GE350.out) | exact HB.out)))); have n1_ := Az0.mk (blk_below (g := gb350) (o := .cells #[.slice none 0 0, .int .i64 0] 26 (0, 0)) (by (with_reducible repeat (first | refine blk_drewN ?_ _ | refine blk_drew ?_ | refine blk_alloc ?_ _)); exact BK350.out) hb); have n2_ := Az0.mk (below_step (by repeat (first | (with_reducible first | exact HB.out | apply baA_ | apply pbN_ | apply bD1_ | refine below_set ?_ GE350.out) | exact HB.out)) hb); clear BK350; clear HB; have HO355 := n0_; have BK350 := n1_; have HB := n2_; clear n0_ n1_ n2_; clear hb ho13))
      go_loopg [31] k1 (fun kq v31 w' => ∃ (x8_2 : List Int) (x31_2 : Int), v31 = .int .i64 x31_2 ∧ Az0 (ratio_Parts.l1 kq a1 ji9 x8_2 l0 (l0.length : Int) x31_2 = some (r1, r2)) ∧ Az0 (kq ≤ k1) ∧ Az0 (Kd.R (Kd.int .i64) 3 w' w.heap.size (fun _ => True) v354 x8_2) ∧ Az0 (w'.heap[gb350]? = some (.cells #[(.slice none 0 0), .int .i64 0] 26 (0, 0))) ∧ Az0 (Below w.heap.size w w'))
      case atStart => exact ⟨(y353), (0), (by first | rfl | (simp; done) | (simp [*]; done)), H', ⟨Nat.le_refl _⟩, ⟨by (with_reducible repeat (first | apply Kd.R_alloc | apply Kd.R_drewN | apply Kd.R_drew)); exact HO355.out⟩, ⟨by (with_reducible repeat (first | refine blk_drewN ?_ _ | refine blk_drew ?_ | refine blk_alloc ?_ _)); exact BK350.out⟩, ⟨by repeat (first | (with_reducible first | exact HB.out | apply baA_ | apply pbN_ | apply bD1_ | refine below_set ?_ GE350.out) | exact HB.out)⟩⟩
      case round =>
       clear H'
       try clear c1
       try clear p2
       try clear p3
       try clear q3
       try clear hx3
       try clear c4
       try clear c4b0
       try clear c5
       try clear c5b0
       try clear c6
       try clear c6b0
       try clear p6
       try clear c8
       try clear c9
       try clear c10
       try clear c10b0
       try clear c10b1
       try clear c11
       try clear c11b0
       try clear c11b1
       try clear hx351_0
       try clear p2
       try clear p351
       try clear q351
       obtain ⟨x8_2, x31_2, rfl, HA, HK2, HO_8, BK350, HB⟩ := hrel
       cases gk with
       | zero => exact absurd HA.out (by simp [ratio_Parts.l1])
       | succ k2 =>
        have H := HA.out
        clear HA
        simp only [ratio_Parts.l1] at H
        by_cases c14 : x31_2 < (l0.length : Int)
        ·rw [if_pos c14] at H
         have c14b0 : decide (x31_2 < (l0.length : Int)) = true := decide_eq_true c14
         clear c14
         by_cases c15 : 0 ≤ x31_2
         ·rw [if_pos c15] at H
          have c15b0 : decide (0 ≤ x31_2) = true := decide_eq_true c15
          clear c15
          by_cases c16 : x31_2 < (l0.length : Int)
          ·rw [if_pos c16] at H
           have c16b0 : decide (x31_2 < (l0.length : Int)) = true := decide_eq_true c16
           clear c16
           by_cases c17 : ji9 = 0
           ·rw [if_pos c17] at H
            exact absurd H (by simp)
           ·rw [if_neg c17] at H
            have c17b0 : (ji9 == 0) = false := beq_eq_false_iff_ne.mpr c17
            have c17b1 : (ji9 != 0) = true := bne_iff_ne.mpr c17
            by_cases c18 : x31_2 < (x8_2.length : Int)
            ·rw [if_pos c18] at H
             have c18b0 : decide (x31_2 < (x8_2.length : Int)) = true := decide_eq_true c18
             clear c18
             obtain ⟨y357, hy357⟩ : ∃ y_ : List Int, y_ = (x8_2.set (x31_2 : Int).toNat (wrap64 (Int.tdiv (rd l0 x31_2) ji9))) := ⟨_, rfl⟩
             replace H : (ratio_Parts.l1 k2 a1 ji9 y357 l0 (l0.length : Int) (wrap64 (x31_2 + 1))) = some (r1, r2) := by first | (rw [hy357]; with_reducible exact H) | (have H2_ := (Option.bind_some _ _).symm.trans H; rw [hy357]; with_reducible exact H2_) | (have H2_ := (Option.bind_some _ _).symm.trans H; with_reducible exact H2_) | with_reducible exact H | (rw [hy357]; exact H) | exact H
             have Ny357 := Az0.mk hy357
             clear hy357
             have H' := Az0.mk H
             clear H
             have p356 : 0 ≤ (x31_2 : Int) := of_decide_eq_true (by first | (with_reducible assumption) | assumption)
             have q356 : x31_2 < (l0.length : Int) := of_decide_eq_true (by first | (with_reducible assumption) | assumption)
             obtain ⟨ad356, e356, hx356_0⟩ := Kd.at_int HR0.out x31_2 p356 q356
             cases e356
             replace hx356_0 := (HB.out.cell (World.block_lt_of_cell? w _ hx356_0)).trans hx356_0
             replace p356 := eq_true p356
             replace q356 := eq_true q356
             have p19 : 0 ≤ (x31_2 : Int) := of_decide_eq_true (by first | (with_reducible assumption) | assumption)
             have q19 : (x31_2 : Int) < ((x8_2.length : Int) : Int) := of_decide_eq_true (by first | (with_reducible assumption) | assumption)
             obtain ⟨go19, co19, eo19, gb19, gl19, cl19, HG19⟩ := Kd.R_form HO_8.out (by omega)
             (first | cases eo19 | (injection eo19 with ea_ en_ ec_; (first | subst ea_ | (injection ea_ with ea_; subst ea_)); subst ec_; clear en_))
             have GB19 := Az0.mk gb19
             have GG19 := Az0.mk HG19
             clear gb19 gl19 HG19
             obtain ⟨hx19_0, hf19_0⟩ := Kd.R_celln 0 HO_8.out (x31_2 : Int) p19 q19
             replace p19 := eq_true p19
             replace q19 := eq_true q19
             have HP20 := Kd.R_putg HO_8.out (x31_2 : Int) (wrap64 (Int.tdiv (rd l0 x31_2) ji9))
             go_wp2_with (first | ((with_reducible refine gate_store (t := 3) (p := 41) rfl ?_); refine store_event (t := 3) (p := 41) (v := ?vo_w21) (w1 := (wr.setCell ⟨go19, (x31_2 : Int).toNat, none⟩ (.int .i64 (wrap64 (Int.tdiv (rd l0 x31_2) ji9))))) ?hg ?ho ?hn ?hr ?_; (case ho => rfl); (case hg => rfl); (case hn => rfl); (case hr => first | (go_simp; done) | (go_simp; rfl)); intro w21 hw; have hg : wr.grownBy w21 (some go19) := (by rw [hw]; exact HP20.2); have hp_ : Kd.R (Kd.int .i64) 3 w21 w.heap.size (fun _ => True) (.slice (some ⟨go19, 0, none⟩) x8_2.length co19) y357 := (by rw [hw, Ny357.out]; exact HP20.1); clear HP20; have n0_ := Az0.mk (hp_); have n1_ := Az0.mk (blk_grown (g := gb350) (o := .cells #[.slice none 0 0, .int .i64 0] 26 (0, 0)) (by (with_reducible repeat (first | refine blk_drewN ?_ _ | refine blk_drew ?_ | refine blk_alloc ?_ _)); exact BK350.out) hg (Kd.R_ne HO_8.out BK350.out (by decide))); have n2_ := Az0.mk ((by rw [hw]; exact below_set (HB.out) GB19.out : Below w.heap.size w w21)); clear HO_8; clear BK350; clear HB; have HO_8 := n0_; have BK350 := n1_; have HB := n2_; clear n0_ n1_ n2_; clear hg hw hp_))
             go_roundg k2
             case measure => have := HK1.out; have := HK2.out; omega
             case rel => exact ⟨(y357), (wrap64 (x31_2 + 1)), (by first | rfl | (simp; done) | (simp [*]; done)), H', ⟨by have := HK1.out; have := HK2.out; omega⟩, ⟨by (with_reducible repeat (first | apply Kd.R_alloc | apply Kd.R_drewN | apply Kd.R_drew)); exact HO_8.out⟩, ⟨by (with_reducible repeat (first | refine blk_drewN ?_ _ | refine blk_drew ?_ | refine blk_alloc ?_ _)); exact BK350.out⟩, ⟨by repeat (first | (with_reducible first | exact HB.out | apply baA_ | apply pbN_ | apply bD1_ | refine below_set ?_ GE350.out) | exact HB.out)⟩⟩
            ·rw [if_neg c18] at H
             exact absurd H (by simp)
          ·rw [if_neg c16] at H
           exact absurd H (by simp)
         ·rw [if_neg c15] at H
          exact absurd H (by simp)
        ·rw [if_neg c14] at H
         have c14b0 : decide (x31_2 < (l0.length : Int)) = false := decide_eq_false c14
         clear c14
         by_cases c22 : ji9 = 0
         ·rw [if_pos c22] at H
          exact absurd H (by simp)
         ·rw [if_neg c22] at H
          have c22b0 : (ji9 == 0) = false := beq_eq_false_iff_ne.mpr c22
          have c22b1 : (ji9 != 0) = true := bne_iff_ne.mpr c22
          simp only [Option.some.injEq, Prod.mk.injEq] at H
          obtain ⟨rfl, rfl⟩ := H
          obtain ⟨Ao23, co23, eo23⟩ := Kd.R_slice HO_8.out
          subst eo23
          have hcz24_0 : wr.cell? ⟨gb350, 0, none⟩ = some (.slice none 0 0) := (bkC BK350.out 0).trans rfl
          have hcz24_1 : wr.cell? ⟨gb350, 1, none⟩ = some (.int .i64 0) := (bkC BK350.out 1).trans rfl
          have hfz24_0 := blk_frozen BK350.out 0
          have hfz24_1 := blk_frozen BK350.out 1
          go_wp2
          refine bodyPost_ret (results_cell_row rfl _ _ gb350 26 #[.slice Ao23 x8_2.length co23, .int .i64 (wrap64 (Int.tdiv a1 ji9))] (0, 0) _ rfl (by (with_reducible repeat (first | refine blk_drewN ?_ _ | refine blk_drew ?_ | refine blk_alloc ?_ _)); refine blk_put (cs := #[.slice Ao23 x8_2.length co23, .int .i64 0]) ?_ 1 _ rfl; (with_reducible repeat (first | refine blk_drewN ?_ _ | refine blk_drew ?_ | refine blk_alloc ?_ _)); refine blk_put (cs := #[.slice none 0 0, .int .i64 0]) ?_ 0 _ rfl; (with_reducible repeat (first | refine blk_drewN ?_ _ | refine blk_drew ?_ | refine blk_alloc ?_ _)); exact BK350.out) Try.underlying26 rfl (by kernel_rfl)) rfl ?_
          exact ⟨_, by first | rfl | (simp [errW_none, errW_some] <;> rfl) | (simp only [← hji9]; first | rfl | (simp [errW_none, errW_some] <;> rfl)) | (simp [*, errW_none, errW_some] <;> rfl), by (with_reducible repeat (first | apply Kd.R_alloc | apply Kd.R_drewN | apply Kd.R_drew)); exact Kd.R_mono (Kd.R_far (p := ⟨gb350, 1, none⟩) (Kd.R_far (p := ⟨gb350, 0, none⟩) (Kd.R_types HO_8.out BK350.out (by decide)) (fun _ hk => hk.2) (.slice Ao23 x8_2.length co23)) (fun _ hk => hk.2) (.int .i64 (wrap64 (Int.tdiv a1 ji9)))) (fun _ hk => trivial), by repeat (first | (with_reducible first | exact HB.out | apply baA_ | apply pbN_ | apply bD1_ | refine below_set ?_ GE350.out) | exact HB.out)⟩
     ·rw [if_neg c11] at H
      exact absurd H (by simp)
    ·rw [if_neg c10] at H
     exact absurd H (by simp)
end Go.Proofs.Ytjgbdicbdlollaa.B
namespace Go.Proofs.Ytjgbdicbdlollaa.B
open Go.RowKit Go.Proofs.YtjgbdicbdlollaaW.PrintWords Go.Proofs.YtjgbdicbdlollaaW.PrintLast Go.Proofs.YtjgbdicbdlollaaW.PrintMore
set_option linter.unusedVariables false
set_option linter.unusedSimpArgs false
/-- A lane that stream refuses. -/
def badLane (x : S36) : Bool := decide (x.f0 < 0) || decide (10 < x.f0) || decide (x.f1 < 1) || decide (10 < x.f1)
def jam_stream.f (l : List S36) : Option Int := some (if 4 < l.length then 3 else if l = [] ∨ l.any badLane = true then 2 else 0)
set_option maxHeartbeats 800000 in
set_option maxRecDepth 100000 in
theorem bad_calls (x : S36) (w : World) : Calls Try.prog 76 #[.agg #[.int .i64 x.f0, .int .i64 x.f1]] w fun e w' => e = .returned (.bool (badLane x)) ∧ Below w.heap.size w w' := by
 have hu36 := Try.underlying36
 have HB := Az0.mk (Below.refl w.heap.size w)
 obtain ⟨a, b⟩ := x
 unfold badLane
 simp only

 by_cases k1 : a < 0
 case pos =>
  have k1b : decide (a < 0) = true := decide_eq_true k1
  clear k1
  go_enter Try.func76, Try.ntmps76
  go_wp2_with (first | ((with_reducible refine gate_dst (N := 1) rfl ?_); refine box_event ?hg (N := 1) ?hd (cs := #[.int .i64 a, .int .i64 b]) (t := 36) ?hr ?_; (case hd => rfl); (case hg => rfl); (case hr => first | (go_simp; done) | (go_simp; rfl)); intro gb hg w1 hbox hb; have BB := Az0.mk hbox; clear HB; have HB := Az0.mk hb; clear hg hbox hb; have hb_0 : w1.cell? ⟨gb, 0, none⟩ = some (.int .i64 a) := (bkC BB.out 0).trans rfl; have hb_1 : w1.cell? ⟨gb, 1, none⟩ = some (.int .i64 b) := (bkC BB.out 1).trans rfl))
  go_ret
  exact ⟨by first | rfl | (simp only [k1b]; rfl) | (simp [k1b]; done), HB.out⟩
 have k1b : decide (a < 0) = false := decide_eq_false k1
 clear k1
 by_cases k2 : 10 < a
 case pos =>
  have k2b : decide (10 < a) = true := decide_eq_true k2
  clear k2
  go_enter Try.func76, Try.ntmps76
  go_wp2_with (first | ((with_reducible refine gate_dst (N := 1) rfl ?_); refine box_event ?hg (N := 1) ?hd (cs := #[.int .i64 a, .int .i64 b]) (t := 36) ?hr ?_; (case hd => rfl); (case hg => rfl); (case hr => first | (go_simp; done) | (go_simp; rfl)); intro gb hg w1 hbox hb; have BB := Az0.mk hbox; clear HB; have HB := Az0.mk hb; clear hg hbox hb; have hb_0 : w1.cell? ⟨gb, 0, none⟩ = some (.int .i64 a) := (bkC BB.out 0).trans rfl; have hb_1 : w1.cell? ⟨gb, 1, none⟩ = some (.int .i64 b) := (bkC BB.out 1).trans rfl))
  go_ret
  exact ⟨by first | rfl | (simp only [k1b, k2b]; rfl) | (simp [k1b, k2b]; done), HB.out⟩
 have k2b : decide (10 < a) = false := decide_eq_false k2
 clear k2
 by_cases k3 : b < 1
 case pos =>
  have k3b : decide (b < 1) = true := decide_eq_true k3
  clear k3
  go_enter Try.func76, Try.ntmps76
  go_wp2_with (first | ((with_reducible refine gate_dst (N := 1) rfl ?_); refine box_event ?hg (N := 1) ?hd (cs := #[.int .i64 a, .int .i64 b]) (t := 36) ?hr ?_; (case hd => rfl); (case hg => rfl); (case hr => first | (go_simp; done) | (go_simp; rfl)); intro gb hg w1 hbox hb; have BB := Az0.mk hbox; clear HB; have HB := Az0.mk hb; clear hg hbox hb; have hb_0 : w1.cell? ⟨gb, 0, none⟩ = some (.int .i64 a) := (bkC BB.out 0).trans rfl; have hb_1 : w1.cell? ⟨gb, 1, none⟩ = some (.int .i64 b) := (bkC BB.out 1).trans rfl))
  go_ret
  exact ⟨by first | rfl | (simp only [k1b, k2b, k3b]; rfl) | (simp [k1b, k2b, k3b]; done), HB.out⟩
 have k3b : decide (b < 1) = false := decide_eq_false k3
 clear k3
 by_cases k4 : 10 < b
 case pos =>
  have k4b : decide (10 < b) = true := decide_eq_true k4
  clear k4
  go_enter Try.func76, Try.ntmps76
  go_wp2_with (first | ((with_reducible refine gate_dst (N := 1) rfl ?_); refine box_event ?hg (N := 1) ?hd (cs := #[.int .i64 a, .int .i64 b]) (t := 36) ?hr ?_; (case hd => rfl); (case hg => rfl); (case hr => first | (go_simp; done) | (go_simp; rfl)); intro gb hg w1 hbox hb; have BB := Az0.mk hbox; clear HB; have HB := Az0.mk hb; clear hg hbox hb; have hb_0 : w1.cell? ⟨gb, 0, none⟩ = some (.int .i64 a) := (bkC BB.out 0).trans rfl; have hb_1 : w1.cell? ⟨gb, 1, none⟩ = some (.int .i64 b) := (bkC BB.out 1).trans rfl))
  go_ret
  exact ⟨by first | rfl | (simp only [k1b, k2b, k3b, k4b]; rfl) | (simp [k1b, k2b, k3b, k4b]; done), HB.out⟩
 have k4b : decide (10 < b) = false := decide_eq_false k4
 clear k4
 go_enter Try.func76, Try.ntmps76
 go_wp2_with (first | ((with_reducible refine gate_dst (N := 1) rfl ?_); refine box_event ?hg (N := 1) ?hd (cs := #[.int .i64 a, .int .i64 b]) (t := 36) ?hr ?_; (case hd => rfl); (case hg => rfl); (case hr => first | (go_simp; done) | (go_simp; rfl)); intro gb hg w1 hbox hb; have BB := Az0.mk hbox; clear HB; have HB := Az0.mk hb; clear hg hbox hb; have hb_0 : w1.cell? ⟨gb, 0, none⟩ = some (.int .i64 a) := (bkC BB.out 0).trans rfl; have hb_1 : w1.cell? ⟨gb, 1, none⟩ = some (.int .i64 b) := (bkC BB.out 1).trans rfl))
 go_ret
 exact ⟨by first | rfl | (simp only [k1b, k2b, k3b, k4b]; rfl) | (simp [k1b, k2b, k3b, k4b]; done), HB.out⟩
set_option maxHeartbeats 800000 in
set_option maxRecDepth 100000 in
theorem index_calls (A : Option Addr) (c : Nat) (l : List S36) (w : World) (hr : Kd.C k36 w A l.length l) (hl : l.length < 1000000) :
  Calls Try.prog 96 #[.slice A l.length c, .func (.func 76) #[] #[]] w fun e w' => ∃ r : Int, e = .returned (.int .i64 r) ∧ decide (0 ≤ r) = l.any badLane ∧ Below w.heap.size w w' := by
 have hu36 := Try.underlying36
 have HR := Az0.mk hr
 have HL := Az0.mk hl
 have HB := Az0.mk (Below.refl w.heap.size w)
 clear hr hl
 go_enter Try.func96, Try.ntmps96
 go_wp2
 go_loopg [8] l.length (fun kq v8 w' => ∃ i : Nat, v8 = .int .i64 (i : Int) ∧ Az0 (i + kq = l.length) ∧ Az0 (∀ a : Nat, a < i → badLane (rd_T36 l (a : Int)) = false) ∧ Az0 (Below w.heap.size w w'))
 case atStart => exact ⟨0, rfl, ⟨by simp⟩, ⟨fun a h => absurd h (Nat.not_lt_zero _)⟩, HB⟩
 case round =>
  clear HB
  obtain ⟨i, rfl, HI, HA, HB⟩ := hrel
  cases gk with
  | zero =>
   have hi := HI.out
   have c4b : decide ((i : Int) < (l.length : Int)) = false := decide_eq_false (by omega)
   have c4b2 : decide (i < l.length) = false := decide_eq_false (by omega)
   have HF := Az0.mk (show l.any badLane = false by
    rw [List.any_eq_false]
    intro x hx
    obtain ⟨j, hj, rfl⟩ := List.getElem_of_mem hx
    have := HA.out j (by omega)
    simpa [rd_T36, List.getD, List.getElem?_eq_getElem hj] using this)
   clear hi
   go_wp2
   go_ret
   exact ⟨-1, by first | rfl | (simp; done), by rw [HF.out]; rfl, HB.out⟩
  | succ k1 =>
   have hi0 : (0 : Int) ≤ (i : Int) := Int.natCast_nonneg _
   have hi1 : (i : Int) < (l.length : Int) := by have := HI.out; omega
   have c4b : decide ((i : Int) < (l.length : Int)) = true := decide_eq_true hi1
   have c4b2 : decide (i < l.length) = true := decide_eq_true (by omega)
   have hi2 : (i < l.length) = True := eq_true (by omega)
   have HIL := Az0.mk (show i < l.length by have := HI.out; omega)
   obtain ⟨ad, e, hx_0, hx_1⟩ := at_T36 HR.out (i : Int) hi0 hi1
   cases e
   obtain ⟨x, hx⟩ : ∃ x, rd_T36 l (i : Int) = x := ⟨_, rfl⟩
   have HX := Az0.mk hx
   rw [hx] at hx_0 hx_1
   clear hx
   simp only [Int.toNat_natCast] at hx_0 hx_1
   replace hx_0 := (HB.out.cell (World.block_lt_of_cell? w _ hx_0)).trans hx_0
   replace hx_1 := (HB.out.cell (World.block_lt_of_cell? w _ hx_1)).trans hx_1
   replace hi0 := eq_true hi0
   replace hi1 := eq_true hi1
   cases hbd : badLane x with
   | true =>
    have HBD := Az0.mk hbd
    clear hbd
    go_wp2_with (first | (go_at_call 76; (refine (bad_calls x _).mono ?_); rintro e w5 ⟨rfl, hb⟩; rw [HBD.out]; have n0_ := Az0.mk (below_step HB.out hb); clear HB hb; have HB := n0_; clear n0_))
    go_ret
    exact ⟨(i : Int), by first | rfl | (simp; done), by
     rw [decide_eq_true (Int.natCast_nonneg _)]
     symm
     rw [List.any_eq_true]
     exact ⟨l[i]'HIL.out, List.getElem_mem _, by have h1 := HX.out; have h2 := HIL.out; have h3 := HBD.out; rw [← h1] at h3; simpa [rd_T36, List.getD, List.getElem?_eq_getElem h2] using h3⟩, HB.out⟩
   | false =>
    have HBD := Az0.mk hbd
    clear hbd
    go_wp2_with (first | (go_at_call 76; (refine (bad_calls x _).mono ?_); rintro e w5 ⟨rfl, hb⟩; rw [HBD.out]; have n0_ := Az0.mk (below_step HB.out hb); clear HB hb; have HB := n0_; clear n0_))
    go_roundg k1
    case measure => omega
    case rel => exact ⟨i + 1, val_succ i (by have := HIL.out; have := HL.out; omega), ⟨by have := HI.out; omega⟩, ⟨fun a ha => by rcases Nat.lt_or_ge a i with h | h; exact HA.out a h; (have : a = i := by omega); rw [this, HX.out]; exact HBD.out⟩, HB⟩
set_option maxHeartbeats 800000 in
set_option maxRecDepth 100000 in
theorem contains_calls (A : Option Addr) (c : Nat) (l : List S36) (w : World) (hr : Kd.C k36 w A l.length l) (hl : l.length < 1000000) :
  Calls Try.prog 75 #[.slice A l.length c, .func (.func 76) #[] #[]] w fun e w' => e = .returned (.bool (l.any badLane)) ∧ Below w.heap.size w w' := by
 have HR := Az0.mk hr
 have HL := Az0.mk hl
 have HB := Az0.mk (Below.refl w.heap.size w)
 clear hr hl
 go_enter Try.func75, Try.ntmps75
 go_wp2_with (first | (go_at_call 96; (refine (index_calls A c l _ (Kd.C_below HR.out HB.out) HL.out).mono ?_); rintro e w5 ⟨r, rfl, hd, hb⟩; have HD := Az0.mk hd; have n0_ := Az0.mk (below_step HB.out hb); clear HB hb hd; have HB := n0_; clear n0_))
 go_ret
 exact ⟨by rw [← HD.out]; first | rfl | (simp; done), HB.out⟩
set_option maxHeartbeats 800000 in
set_option maxRecDepth 100000 in
theorem jam_stream.calls (A0 : Option Addr) (c0 : Nat) (l0 : List S36) (r : Int) (w : World) (hr0 : Kd.C k36 w A0 l0.length l0) (hc0 : l0.length ≤ c0) (h : jam_stream.f l0 = some r) :
  Calls Try.prog 48 #[.slice A0 l0.length c0] w fun e w' => e = .returned (.int .i64 r) ∧ Below w.heap.size w w' := by
 unfold jam_stream.f at h
 obtain rfl := Option.some.inj h
 have HR := Az0.mk hr0
 have HB := Az0.mk (Below.refl w.heap.size w)
 clear hr0 h
 by_cases k1 : 4 < l0.length
 ·have d1 : decide (4 < (l0.length : Int)) = true := decide_eq_true (by omega)
  have d2 : decide (4 < l0.length) = true := decide_eq_true k1
  rw [if_pos k1]
  clear k1
  go_enter Try.func48, Try.ntmps48
  go_wp2
  go_ret
  exact ⟨by first | rfl | (simp; done), HB.out⟩
 have d1 : decide (4 < (l0.length : Int)) = false := decide_eq_false (by omega)
 have d2 : decide (4 < l0.length) = false := decide_eq_false k1
 have HL := Az0.mk (show l0.length < 1000000 by omega)
 rw [if_neg k1]
 clear k1
 by_cases k2 : l0 = []
 ·subst k2
  rw [if_pos (.inl rfl)]
  go_enter Try.func48, Try.ntmps48
  go_wp2
  go_ret
  exact ⟨by first | rfl | (simp; done), HB.out⟩
 have hne : l0.length ≠ 0 := fun h => k2 (List.length_eq_zero_iff.1 h)
 have d3 : ((l0.length : Int) == 0) = false := beq_eq_false_iff_ne.mpr (by omega)
 have d4 : (l0.length == 0) = false := beq_eq_false_iff_ne.mpr hne
 have d5 : decide (l0.length = 0) = false := decide_eq_false hne
 have d6 : decide (l0 = []) = false := decide_eq_false k2
 cases hb : l0.any badLane with
 | true =>
  rw [if_pos (.inr rfl)]
  have HBD := Az0.mk hb
  clear hb hne
  go_enter Try.func48, Try.ntmps48
  go_wp2_with (first | (go_at_call 75; (refine (contains_calls A0 c0 l0 _ (Kd.C_below HR.out HB.out) HL.out).mono ?_); rintro e w5 ⟨rfl, hb⟩; rw [HBD.out]; have n0_ := Az0.mk (below_step HB.out hb); clear HB hb; have HB := n0_; clear n0_))
  go_ret
  exact ⟨by first | rfl | (simp; done), HB.out⟩
 | false =>
  rw [if_neg (by rintro (h | h); exact k2 h; cases h)]
  have HBD := Az0.mk hb
  clear hb hne
  go_enter Try.func48, Try.ntmps48
  go_wp2_with (first | (go_at_call 75; (refine (contains_calls A0 c0 l0 _ (Kd.C_below HR.out HB.out) HL.out).mono ?_); rintro e w5 ⟨rfl, hb⟩; rw [HBD.out]; have n0_ := Az0.mk (below_step HB.out hb); clear HB hb; have HB := n0_; clear n0_))
  go_ret
  exact ⟨by first | rfl | (simp; done), HB.out⟩
end Go.Proofs.Ytjgbdicbdlollaa.B
namespace Go.Proofs.Ytjgbdicbdlollaa.B
open Go.RowKit Go.Proofs.YtjgbdicbdlollaaW.PrintWords Go.Proofs.YtjgbdicbdlollaaW.PrintLast Go.Proofs.YtjgbdicbdlollaaW.PrintMore
set_option linter.unusedVariables false
set_option linter.unusedSimpArgs false
def lanes_Clone.f (l0 : List S36) : Option (List S36) := if l0.length < 1000000 then some l0 else none
set_option maxHeartbeats 800000 in
set_option maxRecDepth 100000 in
theorem lanes_Clone.calls (A0 : Option Addr) (c0 : Nat) (l0 : List S36) (r : List S36) (w : World) (hr0 : Kd.C k36 w A0 l0.length l0) (hc0 : l0.length ≤ c0) (h : lanes_Clone.f l0 = some r) :
  Calls Try.prog 77 #[.slice A0 l0.length c0] w fun e w' => ∃ v0_ : Value, e = .returned (v0_) ∧ Kd.R k36 36 w' w.heap.size (fun _ => True) v0_ r ∧ Below w.heap.size w w' := by
 have HR0 := Az0.mk hr0
 clear hr0
 have qT : ∀ (w : World) (a : Option Addr) (n c n' c' : Nat), (binOp .eql 22 (.slice a n c) (.slice none n' c')).run Try.prog w = .ok (.bool a.isNone) w := fun w a n c n' c' => Lib.run_eql_slice_nil w _ _ a n c n' c' Try.underlying22
 unfold lanes_Clone.f at h
 split at h
 case isFalse => exact absurd h (by simp)
 rename_i hl
 obtain rfl := Option.some.inj h
 clear h
 have HB := Az0.mk (Below.refl w.heap.size w)
 rcases A0 with _ | ad
 ·obtain rfl : l0 = [] := by
   obtain ⟨inner, h1, h2⟩ := HR0.out
   rcases l0 with _ | ⟨x, l⟩
   ·rfl
   ·obtain ⟨ad, c, e, _⟩ := Kd.C_get HR0.out z36 0 (by omega) (by simp)
    exact absurd e (by simp)
  go_enter Try.func77, Try.ntmps77
  go_wp2
  go_ret
  exact ⟨_, rfl, Kd.R_nil _ _ _ _ _, by repeat (first | exact Below.refl _ _ | apply baA_)⟩
 ·go_enter Try.func77, Try.ntmps77
  go_wp2_with (first | ((with_reducible refine gate_dst (N := 5) rfl ?_); refine Kd.R_lit k36 _ 36 ?hg (N := 5) ?hd (xs := ([] : List S36)) (inner := []) (ok := fun _ => True) (okp := fun _ => True) ?hr ?hp (fun _ hk => hk) trivial (Below.refl _ _) (Nat.le_refl _) (by simp) ?_; (case hd => rfl); (case hg => rfl); (case hr => first | (go_simp; done) | (go_simp; rfl)); (case hp => exact (Reps.none _ _)); intro v5 w1 ho2 hb hg_ hnew_; have HO := Az0.mk ho2; have HB1 := Az0.mk hb; clear ho2 hb hg_ hnew_) | ((with_reducible refine gate_dst (N := 7) rfl ?_); refine Kd.R_append_rows k36 (w0 := w) w.heap.size rfl (.tmp 5) (.tmp 6) 22 36 (.agg #[(.int .i64 0), (.int .i64 0)]) 16 rfl Try.underlying22 info36 rfl (by decide) (by omega) v5 ([] : List S36) l0 _ _ _ (fun _ => True) (fun _ => False) rfl rfl ?aO ?aR (fun _ _ h => h) (fun _ h => h.elim) ?aF ?aB ?aS ?aL ?_; (case aR => exact Kd.C_below HR0.out HB1.out); (case aB => exact HB1.out); (case aF => exact (fun _ _ => trivial)); (case aO => exact HO.out); (case aS => exact HB1.out.size); (case aL => simp; omega); intro v7 w2 ho2 hb hg_ hat_; have HO2 := Az0.mk ho2; have HB2 := Az0.mk hb; clear ho2 hb hg_ hat_))
  go_ret
  exact ⟨_, rfl, by simpa using HO2.out, HB2.out⟩
end Go.Proofs.Ytjgbdicbdlollaa.B
namespace Go.Proofs
open Go.Shelf Go.RowKit Go.Lib Go.Sort
def Ytjgbdicbdlollaa.B.layLanes_ren : Go.Shelf.Ren := ⟨fun | 6 => 78 | 15 => 98 | 14 => 97 | 28 => 114 | 29 => 115 | 20 => 106 | 21 => 107 | 22 => 108 | 23 => 109 | 24 => 110 | 25 => 111 | 26 => 112 | 27 => 113 | 46 => 120 | 47 => 121 | 48 => 122 | 49 => 123 | 50 => 124 | 57 => 125 | n => n, fun | 22 => 22 | 24 => 36 | 25 => 111 | 3 => 3 | 39 => 127 | 0 => 0 | 53 => 143 | 55 => 145 | 4 => 4 | 46 => 136 | 45 => 135 | 50 => 140 | 5 => 5 | 9 => 9 | 66 => 148 | 70 => 152 | 76 => 154 | 77 => 155 | n => n, fun | n => n⟩
theorem Ytjgbdicbdlollaa.B.layLanes : Go.Proofs.SlLaysF0.n6 Try.prog Ytjgbdicbdlollaa.B.layLanes_ren where
  mixed := by kernel_rfl
  f6 := ⟨Try.f78.name, by kernel_rfl, Try.func78.trans (congrArg some (by kernel_rfl))⟩
  f14 := ⟨Try.f97.name, by kernel_rfl, Try.func97.trans (congrArg some (by kernel_rfl))⟩
  f15 := Try.func98.trans (congrArg some (by kernel_rfl))
  f20 := ⟨Try.f106.name, by kernel_rfl, Try.func106.trans (congrArg some (by kernel_rfl))⟩
  f21 := ⟨Try.f107.name, by kernel_rfl, Try.func107.trans (congrArg some (by kernel_rfl))⟩
  f22 := ⟨Try.f108.name, by kernel_rfl, Try.func108.trans (congrArg some (by kernel_rfl))⟩
  f23 := ⟨Try.f109.name, by kernel_rfl, Try.func109.trans (congrArg some (by kernel_rfl))⟩
  f24 := ⟨Try.f110.name, by kernel_rfl, Try.func110.trans (congrArg some (by kernel_rfl))⟩
  f25 := ⟨Try.f111.name, by kernel_rfl, Try.func111.trans (congrArg some (by kernel_rfl))⟩
  f26 := ⟨Try.f112.name, by kernel_rfl, Try.func112.trans (congrArg some (by kernel_rfl))⟩
  f27 := ⟨Try.f113.name, by kernel_rfl, Try.func113.trans (congrArg some (by kernel_rfl))⟩
  f28 := Try.func114.trans (congrArg some (by kernel_rfl))
  f29 := Try.func115.trans (congrArg some (by kernel_rfl))
  f46 := ⟨Try.f120.name, by kernel_rfl, Try.func120.trans (congrArg some (by kernel_rfl))⟩
  f47 := Try.func121.trans (congrArg some (by kernel_rfl))
  f48 := Try.func122.trans (congrArg some (by kernel_rfl))
  f49 := ⟨Try.f123.name, by kernel_rfl, Try.func123.trans (congrArg some (by kernel_rfl))⟩
  f50 := ⟨Try.f124.name, by kernel_rfl, Try.func124.trans (congrArg some (by kernel_rfl))⟩
  f57 := ⟨Try.f125.name, by kernel_rfl, Try.func125.trans (congrArg some (by kernel_rfl))⟩
  t0 := Try.underlying0
  a0 := Try.isAgg0
  z0 := Try.sizeOf0
  v0 := Try.zeroValue0
  t3 := Try.underlying3
  a3 := Try.isAgg3
  z3 := Try.sizeOf3
  v3 := Try.zeroValue3
  t4 := Try.underlying4
  a4 := Try.isAgg4
  z4 := Try.sizeOf4
  v4 := Try.zeroValue4
  t5 := Try.underlying5
  a5 := Try.isAgg5
  z5 := Try.sizeOf5
  v5 := Try.zeroValue5
  t9 := Try.underlying9
  a9 := Try.isAgg9
  z9 := Try.sizeOf9
  v9 := Try.zeroValue9
  t22 := Try.underlying22
  a22 := Try.isAgg22
  z22 := Try.sizeOf22
  v22 := Try.zeroValue22
  t25 := Try.underlying111
  a25 := Try.isAgg111
  z25 := Try.sizeOf111
  v25 := Try.zeroValue111
  t39 := Try.underlying127
  a39 := Try.isAgg127
  z39 := Try.sizeOf127
  v39 := Try.zeroValue127
  t45 := Try.underlying135
  a45 := Try.isAgg135
  z45 := Try.sizeOf135
  v45 := Try.zeroValue135
  t46 := Try.underlying136
  a46 := Try.isAgg136
  z46 := Try.sizeOf136
  v46 := Try.zeroValue136
  t50 := Try.underlying140
  a50 := Try.isAgg140
  z50 := Try.sizeOf140
  v50 := Try.zeroValue140
  t53 := Try.underlying143
  a53 := Try.isAgg143
  z53 := Try.sizeOf143
  v53 := Try.zeroValue143
  t55 := Try.underlying145
  a55 := Try.isAgg145
  z55 := Try.sizeOf145
  v55 := Try.zeroValue145
  t66 := Try.underlying148
  a66 := Try.isAgg148
  z66 := Try.sizeOf148
  v66 := Try.zeroValue148
  t70 := Try.underlying152
  a70 := Try.isAgg152
  z70 := Try.sizeOf152
  v70 := Try.zeroValue152
  t76 := Try.underlying154
  a76 := Try.isAgg154
  z76 := Try.sizeOf154
  v76 := Try.zeroValue154
  t77 := Try.underlying155
  a77 := Try.isAgg155
  z77 := Try.sizeOf155
  v77 := Try.zeroValue155
end Go.Proofs
namespace Go.Proofs.Ytjgbdicbdlollaa.B
open Go.RowKit Go.Sort Go.Proofs.YtjgbdicbdlollaaW.PrintWords Go.Proofs.YtjgbdicbdlollaaW.PrintLast Go.Proofs.YtjgbdicbdlollaaW.PrintMore
set_option linter.unusedVariables false
set_option linter.unusedSimpArgs false
/-- A lane whose A is a rate. -/
structure Ln where
  x : S36
  h : 0 ≤ x.f0 ∧ x.f0 ≤ 10
instance : Inhabited Ln := ⟨⟨⟨0, 0⟩, by decide⟩⟩
def encLn (d : Ln) : List Value := [.int .i64 d.x.f0, .int .i64 d.x.f1]
def cfLn (a b : Ln) : Int := a.x.f0 - b.x.f0
def lnsOf : List S36 → Option (List Ln)
  | [] => some []
  | x :: l => if h : 0 ≤ x.f0 ∧ x.f0 ≤ 10 then (lnsOf l).bind fun ds => some (⟨x, h⟩ :: ds) else none
theorem lnsOf_map : ∀ {l : List S36} {ds : List Ln}, lnsOf l = some ds → ds.map Ln.x = l
  | [], ds, h => by simp [lnsOf] at h; subst h; rfl
  | x :: l, ds, h => by
    unfold lnsOf at h
    split at h
    case isFalse => exact absurd h (by simp)
    obtain ⟨ds2, h2, h⟩ := Option.bind_eq_some_iff.1 h
    obtain rfl := Option.some.inj h
    simp [lnsOf_map h2]
def sortLn (ds : List Ln) : Array Ln := Go.Sort.insertionSort (ltOf cfLn) ds.toArray 0 ds.toArray.size
def lanes_Sorted.f (l : List S36) : Option (List S36) := if 1 ≤ l.length ∧ l.length ≤ 12 then (lnsOf l).bind fun ds => some ((sortLn ds).toList.map Ln.x) else none
theorem lanes_clone_of {l l' : List S36} (h : lanes_Sorted.f l = some l') : lanes_Clone.f l = some l := by
  unfold lanes_Sorted.f at h
  split at h
  case isFalse => exact absurd h (by simp)
  rename_i h12
  unfold lanes_Clone.f
  rw [if_pos (by omega)]
theorem lanes_Sorted.mono : ∀ l, LeO (lanes_Sorted.f l) (lanes_Sorted.f l) := fun _ => LeO.refl _
theorem swo_cfLn : SWO (ltOf cfLn) where
  irrefl x := by simp [ltOf, cfLn]
  trans x y z h1 h2 := by
    unfold ltOf cfLn at *
    simp only [decide_eq_true_eq] at *
    omega
  ntrans x y z h1 h2 := by
    unfold ltOf cfLn at *
    simp only [decide_eq_false_iff_not] at *
    omega
set_option maxHeartbeats 1000000 in
theorem closure79 (x y : Ln) (W : World) : Calls Try.prog 79 #[.agg #[.int .i64 x.x.f0, .int .i64 x.x.f1], .agg #[.int .i64 y.x.f0, .int .i64 y.x.f1]] W fun e w' => e = .returned (.int .i64 (cfLn x y)) ∧ ∃ q os', w' = grow (W.drewN q) os' := by
 obtain ⟨⟨a, b⟩, h⟩ := x
 obtain ⟨⟨c, d⟩, h2⟩ := y
 unfold cfLn
 simp only at h h2 ⊢
 have e : wrap64 (a - c) = a - c := by unfold wrap64; omega
 rw [← e]
 clear e h h2
 go_enter Try.func79, Try.ntmps79
 go_wp2
 go_ret
 exact ⟨rfl, 0, _, by rw [alloc_eq_grow, alloc_eq_grow, grow_grow]; rfl⟩
set_option maxHeartbeats 1000000 in
theorem len_calls (n : Nat) (W : World) (h : n ≤ 12) : Calls Try.prog 98 #[.int .u64 n] W fun e w' => (∃ l : Int, e = .returned (.int .i64 l)) ∧ w' = W := by
 have hn : n = 0 ∨ n = 1 ∨ n = 2 ∨ n = 3 ∨ n = 4 ∨ n = 5 ∨ n = 6 ∨ n = 7 ∨ n = 8 ∨ n = 9 ∨ n = 10 ∨ n = 11 ∨ n = 12 := by omega
 clear h
 rcases hn with rfl | rfl | rfl | rfl | rfl | rfl | rfl | rfl | rfl | rfl | rfl | rfl | rfl
 all_goals
  go_enter Try.func98, Try.ntmps98
  go_wp2
  go_ret
  exact ⟨⟨_, rfl⟩, rfl⟩
section
variable {w : World} {g base n cap k : Nat} {e : TypeId}
theorem own_holdsK {d : Array Value} (h : w.ownsRow base e k (.slice (some ⟨g, 0, none⟩) n cap) n d.toList) : Holds id w g 0 d ∧ g < w.heap.size := by
  refine ⟨fun j hj => ?_, own_lt h g rfl⟩
  rw [Nat.zero_add]
  refine ⟨?_, ?_⟩
  · have hc := h.cells (g := g) rfl j d[j]! (by simp [hj])
    rwa [add_plain] at hc
  · rcases h.2 with ⟨h', _⟩ | ⟨g', cap', cur, h', _, hh, _⟩
    · cases h'
    · have : g = g' := by injection h' with h'; injection h' with h'; injection h' with h'
      subst this
      simp [World.frozen?, hh]
theorem putCells_takeV (d : Array Value) (cur : Array Value) (h : d.size ≤ cur.size) : (putCells id 0 d cur).toList.take d.size = d.toList := by
  apply List.ext_getElem?
  intro i
  rw [List.getElem?_take]
  by_cases hi : i < d.size
  · rw [if_pos hi]
    simp only [putCells, Array.getElem?_toList, Array.getElem?_mapIdx]
    rw [Array.getElem?_eq_getElem (show i < cur.size by omega), Array.getElem?_eq_getElem hi]
    simp [hi]
  · rw [if_neg hi]
    symm
    simp; omega
theorem putRow_blockV {cur : Array Value} (hh : w.heap[g]? = some (.cells cur e (0, 0))) (q : Nat) (d : Array Value) (os : Array Obj) :
    (Go.Sort.grow (putRow id (Go.Sort.ahead w q) g 0 d) os).heap[g]? = some (.cells (putCells id 0 d cur) e (0, 0)) ∧ w.grownBy (Go.Sort.grow (putRow id (Go.Sort.ahead w q) g 0 d) os) (some g) := by
  have hlt := (Array.getElem?_eq_some_iff.1 hh).1
  refine ⟨?_, ?_⟩
  · rw [heap_grow_old _ _ (by simpa [putRow, mapBlock, Go.Sort.ahead] using hlt)]
    simp [putRow, mapBlock, Go.Sort.ahead, Array.getElem?_modify, hh, onCells]
  · refine ⟨rfl, rfl, rfl, by simp [putRow, mapBlock, Go.Sort.ahead], fun k hk hne => ?_⟩
    rw [heap_grow_old _ _ (by simpa [putRow, mapBlock, Go.Sort.ahead] using hk)]
    simp only [putRow, mapBlock, Go.Sort.ahead, Array.getElem?_modify]
    rw [if_neg (fun h => hne (by rw [h]))]
theorem own_putK {inner : List Value} (h : w.ownsRow base e k (.slice (some ⟨g, 0, none⟩) n cap) n inner) (q : Nat) (d : Array Value) (hd : d.size = n * k) (os : Array Obj) :
    (Go.Sort.grow (putRow id (Go.Sort.ahead w q) g 0 d) os).ownsRow base e k (.slice (some ⟨g, 0, none⟩) n cap) n d.toList ∧ w.grownBy (Go.Sort.grow (putRow id (Go.Sort.ahead w q) g 0 d) os) (some g) := by
  obtain ⟨h1, h2⟩ := h
  rcases h2 with ⟨h2, _⟩ | ⟨g', cap', cur, h2, hb, hh, hc, hm, hs, ht⟩
  · cases h2
  · injection h2 with h2 _ h3
    injection h2 with h2
    injection h2 with h2
    subst h2 h3
    obtain ⟨hp1, hp2⟩ := putRow_blockV hh q d os
    refine ⟨⟨by simp [hd], .inr ⟨g, cap, _, rfl, hb, hp1, hc, hm, by simp [putCells, hs], ?_⟩⟩, hp2⟩
    rw [← hd]
    exact putCells_takeV d cur (by rw [hd, hs]; exact Nat.mul_le_mul_right _ hc)
end
theorem enc_flat (d : Array Ln) (j : Nat) (hj : j < d.size) : ((flatK encLn 2 d).toList.drop (j * 2)).take 2 = encLn d[j]! := by
  apply List.ext_getElem?
  intro i
  rw [List.getElem?_take, List.getElem?_drop]
  by_cases hi : i < 2
  · rw [if_pos hi]
    have h1 : j * 2 + i < (flatK encLn 2 d).size := by rw [size_flatK]; omega
    have h2 := get_flatK encLn 2 d (j * 2 + i) (by omega)
    rw [getElem!_pos (flatK encLn 2 d) _ h1] at h2
    rw [Array.getElem?_toList, Array.getElem?_eq_getElem h1, h2, show (j * 2 + i) / 2 = j by omega, show (j * 2 + i) % 2 = i by omega]
    rcases (show i = 0 ∨ i = 1 by omega) with rfl | rfl <;> rfl
  · rw [if_neg hi]
    symm
    simp [encLn]; omega
theorem inner_flat {w : World} {base : Nat} {ok : Nat → Prop} {ds : List Ln} {inner : List Value} (hr : Reps (k36.M w base ok) 2 (ds.map Ln.x) inner) : inner = (flatK encLn 2 ds.toArray).toList := by
  have hl : inner.length = ds.length * 2 := by have := hr.1; simpa using this
  apply List.ext_getElem?
  intro t
  by_cases ht : t < ds.length * 2
  · have hj : t / 2 < ds.length := by omega
    have h1 := hr.2 (t / 2) ds[t / 2].x (by simp [hj])
    have h2 := k36_openM h1
    have h3 := enc_flat ds.toArray (t / 2) (by simpa using hj)
    have e1 : ds.toArray[t / 2]! = ds[t / 2] := by simp [hj]
    rw [e1] at h3
    have h4 : ((inner.drop (t / 2 * 2)).take 2)[t % 2]? = (((flatK encLn 2 ds.toArray).toList.drop (t / 2 * 2)).take 2)[t % 2]? := by rw [h2, h3]; rfl
    rw [List.getElem?_take, List.getElem?_take, if_pos (by omega), if_pos (by omega), List.getElem?_drop, List.getElem?_drop, show t / 2 * 2 + t % 2 = t by omega] at h4
    exact h4
  · rw [List.getElem?_eq_none (by omega), List.getElem?_eq_none (by simp; omega)]
theorem sortLanes_calls (A : Option Addr) (c : Nat) (l l' : List S36) (base : Nat) (w : World) (hR : Kd.R k36 36 w base (fun _ => True) (.slice A l.length c) l) (h : lanes_Sorted.f l = some l') :
    Calls Try.prog 78 #[.slice A l.length c, .func (.func 79) #[] #[]] w fun e w' => e = .returned (.tuple #[]) ∧ Kd.R k36 36 w' base (fun _ => True) (.slice A l.length c) l' ∧ l'.length = l.length ∧ w.grownBy w' (Value.slice A l.length c).ownBlock := by
  unfold lanes_Sorted.f at h
  split at h
  case isFalse => exact absurd h (by simp)
  rename_i h12
  have hne : l ≠ [] := by rintro rfl; simp at h12
  replace h12 := h12.2
  obtain ⟨ds, hds, h⟩ := Option.bind_eq_some_iff.1 h
  obtain rfl := Option.some.inj h
  have hm := lnsOf_map hds
  subst hm
  have hlen : (ds.map Ln.x).length = ds.length := List.length_map ..
  obtain ⟨g, cap, e, hb, hg, cells, hc⟩ := Kd.R_form hR (List.length_pos_iff.2 hne)
  injection e with e _ e2
  subst e e2
  obtain ⟨h0, inner, ho, hr⟩ := hR
  have hin := inner_flat hr
  subst hin
  have hH := own_holdsK ho
  have eg : ∀ args w, (callFunc 79 args).run Try.prog w = .ok (.enter 79 args) w := enters_of Try.func79 (by kernel_rfl) rfl
  have hcon := AnyQ.slices_SortFunc_small_sorted layLanes 2 Try.isAgg36 Try.sizeOf36 encLn (fun _ => rfl) (fun x v hv => by simp [encLn] at hv; rcases hv with rfl | rfl <;> rfl) cfLn 79 #[] swo_cfLn g 0 c ds.toArray w eg (fun _ _ _ _ x y => closure79 x y _) hH.1 hH.2 (by simpa [hlen] using h12) len_calls
  have hcon2 := AnyQ.slices_SortFunc_small layLanes 2 Try.isAgg36 Try.sizeOf36 encLn (fun _ => rfl) (fun x v hv => by simp [encLn] at hv; rcases hv with rfl | rfl <;> rfl) cfLn 79 #[] g 0 c ds.toArray w eg (fun _ _ _ _ x y => closure79 x y _) hH.1 hH.2 (by simpa [hlen] using h12) len_calls
  change Calls Try.prog 78 _ _ _ at hcon2
  have hsz : ds.toArray.size = (ds.map Ln.x).length := by simp
  rw [hsz] at hcon2
  have hp := insertionSort_holds (lt := ltOf cfLn) swo_cfLn ds.toArray 0 ds.toArray.size (Nat.zero_le _) (Nat.le_refl _)
  have hsl : (sortLn ds).size = ds.length := by have h_ := hp.1.1; unfold sortLn; exact h_.trans (by simp)
  refine hcon2.mono fun e w' hw => ?_
  obtain ⟨he, q, os, rfl⟩ := hw
  have e3 : Go.Sort.insertionSort (ltOf cfLn) ds.toArray 0 (ds.map Ln.x).length = sortLn ds := by unfold sortLn; rw [hsz]
  rw [e3]
  have hp2 := own_putK ho q (flatK encLn 2 (sortLn ds)) (by rw [size_flatK, hsl, hlen]; rfl) os
  refine ⟨he, ⟨h0, (flatK encLn 2 (sortLn ds)).toList, ?_, ?_⟩, by simp [hsl], hp2.2⟩
  · rw [show ((sortLn ds).toList.map Ln.x).length = (ds.map Ln.x).length by simp [hsl]]
    exact hp2.1
  · show Reps _ 2 _ _
    refine ⟨by simp, fun j p hj => ?_⟩
    rw [List.getElem?_map] at hj
    have hjl : j < (sortLn ds).size := by
      rcases Nat.lt_or_ge j (sortLn ds).size with h | h
      · exact h
      · rw [List.getElem?_eq_none (by simpa using h)] at hj; simp at hj
    rw [enc_flat _ _ hjl]
    have e4 : (sortLn ds)[j]!.x = p := by
      rw [getElem!_pos (sortLn ds) _ hjl]
      simpa [List.getElem?_eq_getElem (show j < (sortLn ds).toList.length by simpa using hjl)] using hj
    rw [← e4]
    exact k36_mkM _ _ _ _
theorem sortLanes_v (v : Value) (l l' : List S36) (base : Nat) (w : World) (hR : Kd.R k36 36 w base (fun _ => True) v l) (h : lanes_Sorted.f l = some l') :
    Calls Try.prog 78 #[v, .func (.func 79) #[] #[]] w fun e w' => e = .returned (.tuple #[]) ∧ Kd.R k36 36 w' base (fun _ => True) v l' ∧ w.grownBy w' v.ownBlock := by
  obtain ⟨A, c, e⟩ := Kd.R_slice hR
  subst e
  refine (sortLanes_calls A c l l' base w hR h).mono fun e w' hh => ?_
  exact ⟨hh.1, hh.2.1, hh.2.2.2⟩
end Go.Proofs.Ytjgbdicbdlollaa.B
namespace Go.Proofs.Ytjgbdicbdlollaa.B
open Go.RowKit Go.Proofs.YtjgbdicbdlollaaW.PrintWords Go.Proofs.YtjgbdicbdlollaaW.PrintLast Go.Proofs.YtjgbdicbdlollaaW.PrintMore
attribute [local go_sem] max2_int min2_int max_two min_two max_three min_three max_four min_four   -- for this text's walks alone
set_option linter.unusedVariables false
set_option linter.unusedSimpArgs false
def ratio_Of.f (k : Nat) (a0 : Int) (a1 : Int) : Option (Int × Int) := (ratio_divisor.f k a0 a1).bind fun t359 => (if a1 < 0 then (if (wrap64 (-t359)) = 0 then (none) else (some (wrap64 (Int.tdiv a0 (wrap64 (-t359))), wrap64 (Int.tdiv a1 (wrap64 (-t359)))))) else (if t359 = 0 then (none) else (some (wrap64 (Int.tdiv a0 t359), wrap64 (Int.tdiv a1 t359)))))
theorem ratio_Of.mono : ∀ a0 a1 k, LeO (ratio_Of.f k a0 a1) (ratio_Of.f (k + 1) a0 a1) := by
  intro a0 a1 k
  unfold ratio_Of.f
  repeat' first
      | (with_reducible exact ratio_divisor.mono _ _ _)
      | (with_reducible exact LeO.refl _)
      | (with_reducible exact LeO.none _)
      | (with_reducible refine LeO.ite ?_ ?_)
      | (with_reducible refine LeO.bind ?_ (fun _ => ?_))
      | exact ratio_divisor.mono _ _ _
      | exact LeO.none _
      | refine LeO.ite ?_ ?_
      | refine LeO.bind ?_ (fun _ => ?_)
def ratio_Of.T4 : Bool × List (List Nat × List Nat) := (true, [([], []), ([], []), ([0, 1], [0, 1]), ([], []), ([], []), ([3, 4], [3, 4]), ([2, 5], [2, 5]), ([6, 0, 1, 2, 3, 4, 5, 6], [6])])
def ratio_Of.B4 : List Nat := [0, 0, 3, 0, 0, 24, 63, 127]
theorem ratio_Of.tab4 : rtab .any (opsOf Try.f81 4) = ratio_Of.T4 := by kernel_rfl
theorem ratio_Of.bits4 : waitsOk ratio_Of.T4.2 ratio_Of.B4 = true := by kernel_rfl
set_option maxHeartbeats 8000000 in
set_option maxRecDepth 100000 in
theorem ratio_Of.calls (k : Nat) (a0 : Int) (a1 : Int) (r1 : Int) (r2 : Int) (w : World) (h : ratio_Of.f k a0 a1 = some (r1, r2)) :
  Calls Try.prog 81 #[.int .i64 a0, .int .i64 a1] w fun e w' => e = .returned (.agg #[.int .i64 r1, .int .i64 r2]) ∧ Below w.heap.size w w' := by
 have hu28 := Try.underlying28
 have HB := Az0.mk (Below.refl w.heap.size w)
 have H : ((ratio_divisor.f k a0 a1).bind fun t359 => (if a1 < 0 then (if (wrap64 (-t359)) = 0 then (none) else (some (wrap64 (Int.tdiv a0 (wrap64 (-t359))), wrap64 (Int.tdiv a1 (wrap64 (-t359)))))) else (if t359 = 0 then (none) else (some (wrap64 (Int.tdiv a0 t359), wrap64 (Int.tdiv a1 t359)))))) = some (r1, r2) := h
 clear h
 replace H := Option.bind_eq_some_iff.mp H
 obtain ⟨t359, A30, H⟩ := H
 replace H : (if a1 < 0 then (if (wrap64 (-t359)) = 0 then (none) else (some (wrap64 (Int.tdiv a0 (wrap64 (-t359))), wrap64 (Int.tdiv a1 (wrap64 (-t359)))))) else (if t359 = 0 then (none) else (some (wrap64 (Int.tdiv a0 t359), wrap64 (Int.tdiv a1 t359))))) = some (r1, r2) := H
 have A3 := Az0.mk A30
 clear A30
 by_cases c4 : a1 < 0
 ·rw [if_pos c4] at H
  have c4b0 : decide (a1 < 0) = true := decide_eq_true c4
  clear c4
  by_cases c5 : (wrap64 (-t359)) = 0
  ·rw [if_pos c5] at H
   exact absurd H (by simp)
  ·rw [if_neg c5] at H
   have c5b0 : ((wrap64 (-t359)) == 0) = false := beq_eq_false_iff_ne.mpr c5
   have c5b1 : ((wrap64 (-t359)) != 0) = true := bne_iff_ne.mpr c5
   simp only [Option.some.injEq, Prod.mk.injEq] at H
   obtain ⟨rfl, rfl⟩ := H
   go_enter Try.func81, Try.ntmps81
   try go_wp2_with (first | ((with_reducible refine gate_dst (N := 4) rfl ?_); refine box_event ?hg (N := 4) ?hd (cs := #[.int .i64 0, .int .i64 0]) (t := 28) ?hr ?_; (case hd => rfl); (case hg => rfl); (case hr => first | (go_simp; done) | (go_simp; rfl)); intro gb358 hg w6 hbox hb; have n0_ := Az0.mk (below_step (by repeat (first | (with_reducible first | exact HB.out | apply baA_ | apply pbN_ | apply bD1_) | exact HB.out)) hb); have n1_ := Az0.mk (hbox); have n2_ := Az0.mk ((by rw [hg]; exact (below_size (by repeat (first | (with_reducible first | exact HB.out | apply baA_ | apply pbN_ | apply bD1_) | exact HB.out))) : w.heap.size ≤ gb358)); have n3_ := Az0.mk ((by rw [hg]; exact (below_size (by repeat (first | (with_reducible first | exact HB.out | apply baA_ | apply pbN_ | apply bD1_) | exact HB.out))) : w.heap.size ≤ gb358)); clear HB; have HB := n0_; have BK358 := n1_; have GW358 := n2_; have GE358 := n3_; clear n0_ n1_ n2_ n3_; clear hb hbox hg) | ((with_reducible refine gate_callee (f := 99) rfl ?_); refine goesL_ (some 8) rfl rfl Try.func99 (by kernel_rfl) rfl #[.int .i64 a0, .int .i64 a1] rfl (by (try simp only [List.map_toArray, List.map_cons, List.map_nil]); first | done | rfl | (simp only [List.length_drop, List.length_take]; rfl)) ?_; (with_reducible refine (ratio_divisor.calls k a0 a1 t359 _ A3.out).mono ?_); rintro e w7 ⟨rfl, hb⟩; refine ⟨_, rfl, ?_⟩; have n0_ := Az0.mk (blk_below (g := gb358) (o := .cells #[.int .i64 0, .int .i64 0] 28 (0, 0)) (by (with_reducible repeat (first | refine blk_drewN ?_ _ | refine blk_drew ?_ | refine blk_alloc ?_ _)); exact BK358.out) hb); have n1_ := Az0.mk (below_step (by repeat (first | (with_reducible first | exact HB.out | apply baA_ | apply pbN_ | apply bD1_ | refine below_set ?_ GE358.out) | exact HB.out)) hb); clear BK358; clear HB; have BK358 := n0_; have HB := n1_; clear n0_ n1_; (try clear hb); (try clear hb2); (try clear hk); (try clear hi)))
   have n0_ := Az0.mk (blk_drew BK358.out)
   have n1_ := Az0.mk (bD1_ HB.out)
   clear BK358
   clear HB
   have BK358 := n0_
   have HB := n1_
   clear n0_ n1_
   refine start_ (n := 8) (S := fun w' => True) (ds := []) #[false, false, false, false, false, false, false, false] (by kernel_rfl) rfl rfl trivial (fun hHeld => ?_); refine with_tabW ratio_Of.tab4 ratio_Of.bits4 (fun HT_ HW_ => ?_)
   generalize w7.drew = w8 at BK358 HB hHeld ⊢
   refine pure_ (i := 0) (N := some 13) (v := ?_) (a' := ?_) #[true, false, false, false, false, false, false, false] rfl rfl (any_of HT_.out (by kernel_rfl)) (fun _ _ _ h => h) (Or.inl ⟨by rfl, ?_⟩) ?_ ?_
   rotate_left
   ·intro w'
    go_simp
    with_reducible rfl
   rotate_left
   ·simp only [Act.put, List.setIfInBounds_toArray, List.set_cons_zero, List.set_cons_succ, i64_w, i32_w]
    rfl
   refine pure_ (i := 1) (N := some 14) (v := ?_) (a' := ?_) #[true, true, false, false, false, false, false, false] rfl rfl (any_of HT_.out (by kernel_rfl)) (fun _ _ _ h => h) (Or.inl ⟨by rfl, ?_⟩) ?_ ?_
   rotate_left
   ·intro w'
    go_simp
    with_reducible rfl
   rotate_left
   ·simp only [Act.put, List.setIfInBounds_toArray, List.set_cons_zero, List.set_cons_succ, i64_w, i32_w]
    rfl
   refine pure_ (i := 2) (N := some 15) (v := ?_) (a' := ?_) #[true, true, true, false, false, false, false, false] rfl rfl (any_of HT_.out (by kernel_rfl)) (fun _ _ _ h => h) (Or.inl ⟨by rfl, ?_⟩) ?_ ?_
   rotate_left
   ·intro w'
    go_simp
    with_reducible rfl
   rotate_left
   ·simp only [Act.put, List.setIfInBounds_toArray, List.set_cons_zero, List.set_cons_succ, i64_w, i32_w]
    rfl
   refine pure_ (i := 3) (N := some 16) (v := ?_) (a' := ?_) #[true, true, true, true, false, false, false, false] rfl rfl (any_of HT_.out (by kernel_rfl)) (fun _ _ _ h => h) (Or.inl ⟨by rfl, ?_⟩) ?_ ?_
   rotate_left
   ·intro w'
    go_simp
    with_reducible rfl
   rotate_left
   ·simp only [Act.put, List.setIfInBounds_toArray, List.set_cons_zero, List.set_cons_succ, i64_w, i32_w]
    rfl
   refine pure_ (i := 4) (N := some 17) (v := ?_) (a' := ?_) #[true, true, true, true, true, false, false, false] rfl rfl (any_of HT_.out (by kernel_rfl)) (fun _ _ _ h => h) (Or.inl ⟨by rfl, ?_⟩) ?_ ?_
   rotate_left
   ·intro w'
    go_simp
    with_reducible rfl
   rotate_left
   ·simp only [Act.put, List.setIfInBounds_toArray, List.set_cons_zero, List.set_cons_succ, i64_w, i32_w]
    rfl
   refine pure_ (i := 5) (N := some 18) (v := ?_) (a' := ?_) #[true, true, true, true, true, true, false, false] rfl rfl (any_of HT_.out (by kernel_rfl)) (fun _ _ _ h => h) (Or.inl ⟨by rfl, ?_⟩) ?_ ?_
   rotate_left
   ·intro w'
    go_simp
    with_reducible rfl
   rotate_left
   ·simp only [Act.put, List.setIfInBounds_toArray, List.set_cons_zero, List.set_cons_succ, i64_w, i32_w]
    rfl
   refine pure_ (i := 6) (N := some 19) (v := ?_) (a' := ?_) #[true, true, true, true, true, true, true, false] rfl rfl (any_of HT_.out (by kernel_rfl)) (fun _ _ _ h => h) (Or.inl ⟨by rfl, ?_⟩) ?_ ?_
   rotate_left
   ·intro w'
    go_simp
    with_reducible rfl
   rotate_left
   ·simp only [Act.put, List.setIfInBounds_toArray, List.set_cons_zero, List.set_cons_succ, i64_w, i32_w]
    rfl
   refine one_ (i := 7) (N := none) #[true, true, true, true, true, true, true, true] rfl rfl (one_of HT_.out (by kernel_rfl)) (by decide) (fun K hK => ?_)
   have hs9 : w8.cell? ⟨gb358, 0, none⟩ = some (.int .i64 0) := (bkC BK358.out 0).trans rfl
   have hfs9 := blk_frozen BK358.out 0
   have hs10 : w8.cell? ⟨gb358, 1, none⟩ = some (.int .i64 0) := (bkC BK358.out 1).trans rfl
   have hfs10 := blk_frozen BK358.out 1
   refine skip_ (w1 := ?_) (by rfl) rfl ?_ ?_
   rotate_left
   ·go_simp
    rfl
   refine hK.out _ _ trivial (fun hHeld => ?_)
   clear hK K
   refine done_ (done_of HT_.out (by kernel_rfl)) ?_
   try go_wp2
   refine bodyPost_ret (results_cell_row rfl _ _ gb358 28 #[.int .i64 (wrap64 (Int.tdiv a0 (wrap64 (-t359)))), .int .i64 (wrap64 (Int.tdiv a1 (wrap64 (-t359))))] (0, 0) _ rfl (by (with_reducible repeat (first | refine blk_drewN ?_ _ | refine blk_drew ?_ | refine blk_alloc ?_ _)); refine blk_put (cs := #[.int .i64 (wrap64 (Int.tdiv a0 (wrap64 (-t359)))), .int .i64 0]) ?_ 1 _ rfl; (with_reducible repeat (first | refine blk_drewN ?_ _ | refine blk_drew ?_ | refine blk_alloc ?_ _)); refine blk_put (cs := #[.int .i64 0, .int .i64 0]) ?_ 0 _ rfl; (with_reducible repeat (first | refine blk_drewN ?_ _ | refine blk_drew ?_ | refine blk_alloc ?_ _)); exact BK358.out) Try.underlying28 rfl (by kernel_rfl)) rfl ?_
   exact ⟨by first | rfl | (simp [errW_none, errW_some] <;> rfl) | (simp [*, errW_none, errW_some] <;> rfl), by repeat (first | (with_reducible first | exact HB.out | apply baA_ | apply pbN_ | apply bD1_ | refine below_set ?_ GE358.out) | exact HB.out)⟩
 ·rw [if_neg c4] at H
  have c4b0 : decide (a1 < 0) = false := decide_eq_false c4
  clear c4
  by_cases c11 : t359 = 0
  ·rw [if_pos c11] at H
   exact absurd H (by simp)
  ·rw [if_neg c11] at H
   have c11b0 : (t359 == 0) = false := beq_eq_false_iff_ne.mpr c11
   have c11b1 : (t359 != 0) = true := bne_iff_ne.mpr c11
   simp only [Option.some.injEq, Prod.mk.injEq] at H
   obtain ⟨rfl, rfl⟩ := H
   go_enter Try.func81, Try.ntmps81
   try go_wp2_with (first | ((with_reducible refine gate_dst (N := 4) rfl ?_); refine box_event ?hg (N := 4) ?hd (cs := #[.int .i64 0, .int .i64 0]) (t := 28) ?hr ?_; (case hd => rfl); (case hg => rfl); (case hr => first | (go_simp; done) | (go_simp; rfl)); intro gb358 hg w12 hbox hb; have n0_ := Az0.mk (below_step (by repeat (first | (with_reducible first | exact HB.out | apply baA_ | apply pbN_ | apply bD1_) | exact HB.out)) hb); have n1_ := Az0.mk (hbox); have n2_ := Az0.mk ((by rw [hg]; exact (below_size (by repeat (first | (with_reducible first | exact HB.out | apply baA_ | apply pbN_ | apply bD1_) | exact HB.out))) : w.heap.size ≤ gb358)); have n3_ := Az0.mk ((by rw [hg]; exact (below_size (by repeat (first | (with_reducible first | exact HB.out | apply baA_ | apply pbN_ | apply bD1_) | exact HB.out))) : w.heap.size ≤ gb358)); clear HB; have HB := n0_; have BK358 := n1_; have GW358 := n2_; have GE358 := n3_; clear n0_ n1_ n2_ n3_; clear hb hbox hg) | ((with_reducible refine gate_callee (f := 99) rfl ?_); refine goesL_ (some 8) rfl rfl Try.func99 (by kernel_rfl) rfl #[.int .i64 a0, .int .i64 a1] rfl (by (try simp only [List.map_toArray, List.map_cons, List.map_nil]); first | done | rfl | (simp only [List.length_drop, List.length_take]; rfl)) ?_; (with_reducible refine (ratio_divisor.calls k a0 a1 t359 _ A3.out).mono ?_); rintro e w13 ⟨rfl, hb⟩; refine ⟨_, rfl, ?_⟩; have n0_ := Az0.mk (blk_below (g := gb358) (o := .cells #[.int .i64 0, .int .i64 0] 28 (0, 0)) (by (with_reducible repeat (first | refine blk_drewN ?_ _ | refine blk_drew ?_ | refine blk_alloc ?_ _)); exact BK358.out) hb); have n1_ := Az0.mk (below_step (by repeat (first | (with_reducible first | exact HB.out | apply baA_ | apply pbN_ | apply bD1_ | refine below_set ?_ GE358.out) | exact HB.out)) hb); clear BK358; clear HB; have BK358 := n0_; have HB := n1_; clear n0_ n1_; (try clear hb); (try clear hb2); (try clear hk); (try clear hi)))
   have n0_ := Az0.mk (blk_drew BK358.out)
   have n1_ := Az0.mk (bD1_ HB.out)
   clear BK358
   clear HB
   have BK358 := n0_
   have HB := n1_
   clear n0_ n1_
   refine start_ (n := 8) (S := fun w' => True) (ds := []) #[false, false, false, false, false, false, false, false] (by kernel_rfl) rfl rfl trivial (fun hHeld => ?_); refine with_tabW ratio_Of.tab4 ratio_Of.bits4 (fun HT_ HW_ => ?_)
   generalize w13.drew = w14 at BK358 HB hHeld ⊢
   refine pure_ (i := 0) (N := some 13) (v := ?_) (a' := ?_) #[true, false, false, false, false, false, false, false] rfl rfl (any_of HT_.out (by kernel_rfl)) (fun _ _ _ h => h) (Or.inl ⟨by rfl, ?_⟩) ?_ ?_
   rotate_left
   ·intro w'
    go_simp
    with_reducible rfl
   rotate_left
   ·simp only [Act.put, List.setIfInBounds_toArray, List.set_cons_zero, List.set_cons_succ, i64_w, i32_w]
    rfl
   refine pure_ (i := 1) (N := some 14) (v := ?_) (a' := ?_) #[true, true, false, false, false, false, false, false] rfl rfl (any_of HT_.out (by kernel_rfl)) (fun _ _ _ h => h) (Or.inl ⟨by rfl, ?_⟩) ?_ ?_
   rotate_left
   ·intro w'
    go_simp
    with_reducible rfl
   rotate_left
   ·simp only [Act.put, List.setIfInBounds_toArray, List.set_cons_zero, List.set_cons_succ, i64_w, i32_w]
    rfl
   refine pure_ (i := 2) (N := some 15) (v := ?_) (a' := ?_) #[true, true, true, false, false, false, false, false] rfl rfl (any_of HT_.out (by kernel_rfl)) (fun _ _ _ h => h) (Or.inl ⟨by rfl, ?_⟩) ?_ ?_
   rotate_left
   ·intro w'
    go_simp
    with_reducible rfl
   rotate_left
   ·simp only [Act.put, List.setIfInBounds_toArray, List.set_cons_zero, List.set_cons_succ, i64_w, i32_w]
    rfl
   refine pure_ (i := 3) (N := some 16) (v := ?_) (a' := ?_) #[true, true, true, true, false, false, false, false] rfl rfl (any_of HT_.out (by kernel_rfl)) (fun _ _ _ h => h) (Or.inl ⟨by rfl, ?_⟩) ?_ ?_
   rotate_left
   ·intro w'
    go_simp
    with_reducible rfl
   rotate_left
   ·simp only [Act.put, List.setIfInBounds_toArray, List.set_cons_zero, List.set_cons_succ, i64_w, i32_w]
    rfl
   refine pure_ (i := 4) (N := some 17) (v := ?_) (a' := ?_) #[true, true, true, true, true, false, false, false] rfl rfl (any_of HT_.out (by kernel_rfl)) (fun _ _ _ h => h) (Or.inl ⟨by rfl, ?_⟩) ?_ ?_
   rotate_left
   ·intro w'
    go_simp
    with_reducible rfl
   rotate_left
   ·simp only [Act.put, List.setIfInBounds_toArray, List.set_cons_zero, List.set_cons_succ, i64_w, i32_w]
    rfl
   refine pure_ (i := 5) (N := some 18) (v := ?_) (a' := ?_) #[true, true, true, true, true, true, false, false] rfl rfl (any_of HT_.out (by kernel_rfl)) (fun _ _ _ h => h) (Or.inl ⟨by rfl, ?_⟩) ?_ ?_
   rotate_left
   ·intro w'
    go_simp
    with_reducible rfl
   rotate_left
   ·simp only [Act.put, List.setIfInBounds_toArray, List.set_cons_zero, List.set_cons_succ, i64_w, i32_w]
    rfl
   refine pure_ (i := 6) (N := some 19) (v := ?_) (a' := ?_) #[true, true, true, true, true, true, true, false] rfl rfl (any_of HT_.out (by kernel_rfl)) (fun _ _ _ h => h) (Or.inl ⟨by rfl, ?_⟩) ?_ ?_
   rotate_left
   ·intro w'
    go_simp
    with_reducible rfl
   rotate_left
   ·simp only [Act.put, List.setIfInBounds_toArray, List.set_cons_zero, List.set_cons_succ, i64_w, i32_w]
    rfl
   refine one_ (i := 7) (N := none) #[true, true, true, true, true, true, true, true] rfl rfl (one_of HT_.out (by kernel_rfl)) (by decide) (fun K hK => ?_)
   have hs15 : w14.cell? ⟨gb358, 0, none⟩ = some (.int .i64 0) := (bkC BK358.out 0).trans rfl
   have hfs15 := blk_frozen BK358.out 0
   have hs16 : w14.cell? ⟨gb358, 1, none⟩ = some (.int .i64 0) := (bkC BK358.out 1).trans rfl
   have hfs16 := blk_frozen BK358.out 1
   refine skip_ (w1 := ?_) (by rfl) rfl ?_ ?_
   rotate_left
   ·go_simp
    rfl
   refine hK.out _ _ trivial (fun hHeld => ?_)
   clear hK K
   refine done_ (done_of HT_.out (by kernel_rfl)) ?_
   try go_wp2
   refine bodyPost_ret (results_cell_row rfl _ _ gb358 28 #[.int .i64 (wrap64 (Int.tdiv a0 t359)), .int .i64 (wrap64 (Int.tdiv a1 t359))] (0, 0) _ rfl (by (with_reducible repeat (first | refine blk_drewN ?_ _ | refine blk_drew ?_ | refine blk_alloc ?_ _)); refine blk_put (cs := #[.int .i64 (wrap64 (Int.tdiv a0 t359)), .int .i64 0]) ?_ 1 _ rfl; (with_reducible repeat (first | refine blk_drewN ?_ _ | refine blk_drew ?_ | refine blk_alloc ?_ _)); refine blk_put (cs := #[.int .i64 0, .int .i64 0]) ?_ 0 _ rfl; (with_reducible repeat (first | refine blk_drewN ?_ _ | refine blk_drew ?_ | refine blk_alloc ?_ _)); exact BK358.out) Try.underlying28 rfl (by kernel_rfl)) rfl ?_
   exact ⟨by first | rfl | (simp [errW_none, errW_some] <;> rfl) | (simp [*, errW_none, errW_some] <;> rfl), by repeat (first | (with_reducible first | exact HB.out | apply baA_ | apply pbN_ | apply bD1_ | refine below_set ?_ GE358.out) | exact HB.out)⟩
end Go.Proofs.Ytjgbdicbdlollaa.B
