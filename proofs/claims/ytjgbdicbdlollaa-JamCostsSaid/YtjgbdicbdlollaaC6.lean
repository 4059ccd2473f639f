/- Texts behind the row of JamCosts, part 6: contracts of the functions it reaches, words that their walks use, and lemmas in plain Lean. -/
import Derived.Below
import Derived.Deep.Draws
import Derived.Deep.AppendLies
import Derived.Maps.AppendAt
import Derived.OwnWalk
import Derived.Laws.BytesArg
import Derived.Laws.MakeOwn
import Derived.Laws.OwnMore
import Derived.Deep.OwnRows
import Derived.Tactics
import Derived.Lib.ConvBytes
import Derived.Laws.Slices
import Derived.WalkKit
import Derived.KernelRfl
import Derived.RowKit3
import Derived.Deep.LoopGhost
import Derived.Deep.QuietTactic
import Derived.BigQuiet
import Derived.WideLaws
import Derived.Deep.DeepCutAuto
import Derived.Deep.CutBlock
import Derived.Deep.RegionHeld3
import Derived.Laws.Rows
import Derived.Lib.AppendStr
import Derived.ArgAppend
import Derived.Laws.IdiomCopy
import Derived.RowKit
import Derived.OrdersHeld
import Derived.Laws.BitsLemmas
import Derived.Laws.StructEq
import Derived.Test.YtjgbdicbdlollaaProg
import Derived.WalkSpells
import Derived.MapKept
import Derived.Maps.RangeWalk
import Derived.Shelf.SlSortCmp.SmallK
import Derived.Ground.SlsfProg
import Derived.Deep.Slices
import Derived.Deep.Fields
import Derived.ChangeSame
import Derived.ChangeSlices
import Derived.Sort.LotA
import Derived.Test.YtjgbdicbdlollaaC1
import Derived.Test.YtjgbdicbdlollaaC2
import Derived.Test.YtjgbdicbdlollaaC3
import Derived.Test.YtjgbdicbdlollaaC4
import Derived.Test.YtjgbdicbdlollaaC5
namespace Go.Proofs.Ytjgbdicbdlollaa.B
open Go.RowKit Go.Proofs.YtjgbdicbdlollaaW.PrintWords Go.Proofs.YtjgbdicbdlollaaW.PrintLast Go.Proofs.YtjgbdicbdlollaaW.PrintMore
attribute [local go_sem] max2_int min2_int max_two min_two max_three min_three max_four min_four   -- for this text's walks alone
set_option linter.unusedVariables false
set_option linter.unusedSimpArgs false
def trishawlaw02_JamCosts.j0 : Nat → List Int → List Int → Bool → List (List Int) → List (List Int) → List (List Int) → List (List Int) → Option (Bool)
  | 0, _, _, _, _, _, _, _ => none
  | k + 1, x1, x6, x50, x102000, x102001, x117000, x117001 => if x50 = true then (some false) else ((jam_Potential.f k x117000 x117001 x6).bind fun bt128 => ((trishawref02_Potential.f k x102000 x102001 x1).bind fun bt130 => (if bt128.1 = bt130.1 then (if bt128.2 = bt130.2 then ((trishawlaw02_same.f k x6 x1).bind fun t132 => (if t132 = true then ((trishawlaw02_unchanged.f k x117000 x117001 x102000 x102001).bind fun t133 => (if t133 = true then ((trishawlaw02_alive.f k).bind fun t134 => (some t134)) else (some false))) else (some false))) else (some false)) else (some false))))
def trishawlaw02_JamCosts.f (k : Nat) (l0_0 : List (List Int)) (l0_1 : List (List Int)) (l1 : List Int) : Option (Bool) := (trishawlaw02_few.f k l0_0 l0_1 l1).bind fun t102 => (if t102 = true then ((trishawlaw02_copied.f k l0_0 l0_1).bind fun bt104 => ((some (([] : List Int) : List Int)).bind fun y110 => (if y110.length + l1.length < 17592186044416 then ((some (y110 ++ l1 : List Int)).bind fun y113 => ((jam_Costs.f k bt104.1 bt104.2 y113).bind fun bt117 => ((trishawref02_Costs.f k l0_0 l0_1 l1).bind fun bt122 => ((trishawlaw02_same.f k bt117.1 bt122.1).bind fun t127 => (if t127 = true then (if bt117.2.1 = bt122.2.1 then (trishawlaw02_JamCosts.j0 k l1 y113 (bt117.2.2 != bt122.2.2) l0_0 l0_1 bt104.1 bt104.2) else (trishawlaw02_JamCosts.j0 k l1 y113 true l0_0 l0_1 bt104.1 bt104.2)) else (trishawlaw02_JamCosts.j0 k l1 y113 true l0_0 l0_1 bt104.1 bt104.2)))))) else (none)))) else ((trishawlaw02_alive.f k).bind fun t103 => (some t103)))
set_option maxHeartbeats 8000000 in
set_option maxRecDepth 100000 in
theorem trishawlaw02_JamCosts.calls (k : Nat) (A0_0 : Option Addr) (c0_0 : Nat) (l0_0 : List (List Int)) (A0_1 : Option Addr) (c0_1 : Nat) (l0_1 : List (List Int)) (A1 : Option Addr) (c1 : Nat) (l1 : List Int) (r : Bool) (w : World) (hr0_0 : Kd.C (Kd.slice 3 (Kd.int .i64)) w A0_0 l0_0.length l0_0) (hc0_0 : l0_0.length ≤ c0_0) (hr0_1 : Kd.C (Kd.slice 3 (Kd.int .i64)) w A0_1 l0_1.length l0_1) (hc0_1 : l0_1.length ≤ c0_1) (hr1 : Kd.C (Kd.int .i64) w A1 l1.length l1) (hc1 : l1.length ≤ c1) (h : trishawlaw02_JamCosts.f k l0_0 l0_1 l1 = some r) :
  Calls Try.prog 7 #[.agg #[.slice A0_0 l0_0.length c0_0, .slice A0_1 l0_1.length c0_1], .slice A1 l1.length c1] w fun e w' => e = .returned (.bool r) ∧ Below w.heap.size w w' := by
 have hu41 := Try.underlying41
 have HR0_0 := Aside0.mk hr0_0
 have HC0_0 := Aside0.mk hc0_0
 clear hr0_0 hc0_0
 have HR0_1 := Aside0.mk hr0_1
 have HC0_1 := Aside0.mk hc0_1
 clear hr0_1 hc0_1
 have HR1 := Aside0.mk hr1
 have HC1 := Aside0.mk hc1
 clear hr1 hc1
 have HB := Aside0.mk (Below.refl w.heap.size w)
 have H : ((trishawlaw02_few.f k l0_0 l0_1 l1).bind fun t102 => (if t102 = true then ((trishawlaw02_copied.f k l0_0 l0_1).bind fun bt104 => ((some (([] : List Int) : List Int)).bind fun y110 => (if y110.length + l1.length < 17592186044416 then ((some (y110 ++ l1 : List Int)).bind fun y113 => ((jam_Costs.f k bt104.1 bt104.2 y113).bind fun bt117 => ((trishawref02_Costs.f k l0_0 l0_1 l1).bind fun bt122 => ((trishawlaw02_same.f k bt117.1 bt122.1).bind fun t127 => (if t127 = true then (if bt117.2.1 = bt122.2.1 then (trishawlaw02_JamCosts.j0 k l1 y113 (bt117.2.2 != bt122.2.2) l0_0 l0_1 bt104.1 bt104.2) else (trishawlaw02_JamCosts.j0 k l1 y113 true l0_0 l0_1 bt104.1 bt104.2)) else (trishawlaw02_JamCosts.j0 k l1 y113 true l0_0 l0_1 bt104.1 bt104.2)))))) else (none)))) else ((trishawlaw02_alive.f k).bind fun t103 => (some t103)))) = some r := h
 clear h
 replace H := Option.bind_eq_some_iff.mp H
 obtain ⟨t102, A30, H⟩ := H
 replace H : (if t102 = true then ((trishawlaw02_copied.f k l0_0 l0_1).bind fun bt104 => ((some (([] : List Int) : List Int)).bind fun y110 => (if y110.length + l1.length < 17592186044416 then ((some (y110 ++ l1 : List Int)).bind fun y113 => ((jam_Costs.f k bt104.1 bt104.2 y113).bind fun bt117 => ((trishawref02_Costs.f k l0_0 l0_1 l1).bind fun bt122 => ((trishawlaw02_same.f k bt117.1 bt122.1).bind fun t127 => (if t127 = true then (if bt117.2.1 = bt122.2.1 then (trishawlaw02_JamCosts.j0 k l1 y113 (bt117.2.2 != bt122.2.2) l0_0 l0_1 bt104.1 bt104.2) else (trishawlaw02_JamCosts.j0 k l1 y113 true l0_0 l0_1 bt104.1 bt104.2)) else (trishawlaw02_JamCosts.j0 k l1 y113 true l0_0 l0_1 bt104.1 bt104.2)))))) else (none)))) else ((trishawlaw02_alive.f k).bind fun t103 => (some t103))) = some r := H
 have A3 := Aside0.mk A30
 clear A30
 by_cases c4 : t102 = true
 ·subst c4
  have H1 : ((trishawlaw02_copied.f k l0_0 l0_1).bind fun bt104 => ((some (([] : List Int) : List Int)).bind fun y110 => (if y110.length + l1.length < 17592186044416 then ((some (y110 ++ l1 : List Int)).bind fun y113 => ((jam_Costs.f k bt104.1 bt104.2 y113).bind fun bt117 => ((trishawref02_Costs.f k l0_0 l0_1 l1).bind fun bt122 => ((trishawlaw02_same.f k bt117.1 bt122.1).bind fun t127 => (if t127 = true then (if bt117.2.1 = bt122.2.1 then (trishawlaw02_JamCosts.j0 k l1 y113 (bt117.2.2 != bt122.2.2) l0_0 l0_1 bt104.1 bt104.2) else (trishawlaw02_JamCosts.j0 k l1 y113 true l0_0 l0_1 bt104.1 bt104.2)) else (trishawlaw02_JamCosts.j0 k l1 y113 true l0_0 l0_1 bt104.1 bt104.2)))))) else (none)))) = some r := by rw [if_pos rfl] at H; exact H
  clear H
  have H := H1
  clear H1
  replace H := Option.bind_eq_some_iff.mp H
  obtain ⟨⟨t104, t107⟩, A50, H⟩ := H
  replace H : ((some (([] : List Int) : List Int)).bind fun y110 => (if y110.length + l1.length < 17592186044416 then ((some (y110 ++ l1 : List Int)).bind fun y113 => ((jam_Costs.f k t104 t107 y113).bind fun bt117 => ((trishawref02_Costs.f k l0_0 l0_1 l1).bind fun bt122 => ((trishawlaw02_same.f k bt117.1 bt122.1).bind fun t127 => (if t127 = true then (if bt117.2.1 = bt122.2.1 then (trishawlaw02_JamCosts.j0 k l1 y113 (bt117.2.2 != bt122.2.2) l0_0 l0_1 t104 t107) else (trishawlaw02_JamCosts.j0 k l1 y113 true l0_0 l0_1 t104 t107)) else (trishawlaw02_JamCosts.j0 k l1 y113 true l0_0 l0_1 t104 t107)))))) else (none))) = some r := H
  have A5 := Aside0.mk A50
  clear A50
  obtain ⟨y110, hy110⟩ : ∃ y_ : List Int, y_ = (([] : List Int)) := ⟨_, rfl⟩
  replace H : (if y110.length + l1.length < 17592186044416 then ((some (y110 ++ l1 : List Int)).bind fun y113 => ((jam_Costs.f k t104 t107 y113).bind fun bt117 => ((trishawref02_Costs.f k l0_0 l0_1 l1).bind fun bt122 => ((trishawlaw02_same.f k bt117.1 bt122.1).bind fun t127 => (if t127 = true then (if bt117.2.1 = bt122.2.1 then (trishawlaw02_JamCosts.j0 k l1 y113 (bt117.2.2 != bt122.2.2) l0_0 l0_1 t104 t107) else (trishawlaw02_JamCosts.j0 k l1 y113 true l0_0 l0_1 t104 t107)) else (trishawlaw02_JamCosts.j0 k l1 y113 true l0_0 l0_1 t104 t107)))))) else (none)) = some r := by first | (rw [hy110]; with_reducible exact H) | (have H2_ := (Option.bind_some _ _).symm.trans H; rw [hy110]; with_reducible exact H2_) | (have H2_ := (Option.bind_some _ _).symm.trans H; with_reducible exact H2_) | with_reducible exact H | (rw [hy110]; exact H) | exact H
  have Ny110 := Aside0.mk hy110
  clear hy110
  by_cases c6 : y110.length + l1.length < 17592186044416
  ·rw [if_pos c6] at H
   have LMc6 := Aside0.mk c6
   clear c6
   obtain ⟨y113, hy113⟩ : ∃ y_ : List Int, y_ = (y110 ++ l1) := ⟨_, rfl⟩
   replace H : ((jam_Costs.f k t104 t107 y113).bind fun bt117 => ((trishawref02_Costs.f k l0_0 l0_1 l1).bind fun bt122 => ((trishawlaw02_same.f k bt117.1 bt122.1).bind fun t127 => (if t127 = true then (if bt117.2.1 = bt122.2.1 then (trishawlaw02_JamCosts.j0 k l1 y113 (bt117.2.2 != bt122.2.2) l0_0 l0_1 t104 t107) else (trishawlaw02_JamCosts.j0 k l1 y113 true l0_0 l0_1 t104 t107)) else (trishawlaw02_JamCosts.j0 k l1 y113 true l0_0 l0_1 t104 t107))))) = some r := by first | (rw [hy113]; with_reducible exact H) | (have H2_ := (Option.bind_some _ _).symm.trans H; rw [hy113]; with_reducible exact H2_) | (have H2_ := (Option.bind_some _ _).symm.trans H; with_reducible exact H2_) | with_reducible exact H | (rw [hy113]; exact H) | exact H
   have Ny113 := Aside0.mk hy113
   clear hy113
   replace H := Option.bind_eq_some_iff.mp H
   obtain ⟨⟨t117, t120, t121⟩, A70, H⟩ := H
   replace H : ((trishawref02_Costs.f k l0_0 l0_1 l1).bind fun bt122 => ((trishawlaw02_same.f k t117 bt122.1).bind fun t127 => (if t127 = true then (if t120 = bt122.2.1 then (trishawlaw02_JamCosts.j0 k l1 y113 (t121 != bt122.2.2) l0_0 l0_1 t104 t107) else (trishawlaw02_JamCosts.j0 k l1 y113 true l0_0 l0_1 t104 t107)) else (trishawlaw02_JamCosts.j0 k l1 y113 true l0_0 l0_1 t104 t107)))) = some r := H
   have A7 := Aside0.mk A70
   clear A70
   replace H := Option.bind_eq_some_iff.mp H
   obtain ⟨⟨t122, t125, t126⟩, A80, H⟩ := H
   replace H : ((trishawlaw02_same.f k t117 t122).bind fun t127 => (if t127 = true then (if t120 = t125 then (trishawlaw02_JamCosts.j0 k l1 y113 (t121 != t126) l0_0 l0_1 t104 t107) else (trishawlaw02_JamCosts.j0 k l1 y113 true l0_0 l0_1 t104 t107)) else (trishawlaw02_JamCosts.j0 k l1 y113 true l0_0 l0_1 t104 t107))) = some r := H
   have A8 := Aside0.mk A80
   clear A80
   have HC9 := Aside0.mk H
   clear H
   go_enter Try.func7, Try.ntmps7
   go_upto_region 6 with (first | ((with_reducible refine gate_dst (N := 2) rfl ?_); refine box_event ?hg (N := 2) ?hd (cs := #[.slice A0_0 l0_0.length c0_0, .slice A0_1 l0_1.length c0_1]) (t := 41) ?hr ?_; (case hd => rfl); (case hg => rfl); (case hr => first | (go_simp; done) | (go_simp; rfl)); intro gb101 hg w10 hbox hb; have n0_ := Aside0.mk (below_step (by repeat (first | (with_reducible first | exact HB.out | apply below_alloc | apply pw_below_drewN | apply below_drew1) | exact HB.out)) hb); have n1_ := Aside0.mk (hbox); have n2_ := Aside0.mk ((by rw [hg]; exact (below_size (by repeat (first | (with_reducible first | exact HB.out | apply below_alloc | apply pw_below_drewN | apply below_drew1) | exact HB.out))) : w.heap.size ≤ gb101)); have n3_ := Aside0.mk ((by rw [hg]; exact (below_size (by repeat (first | (with_reducible first | exact HB.out | apply below_alloc | apply pw_below_drewN | apply below_drew1) | exact HB.out))) : w.heap.size ≤ gb101)); clear HB; have HB := n0_; have BK101 := n1_; have GW101 := n2_; have GE101 := n3_; clear n0_ n1_ n2_ n3_; clear hb hbox hg; have hcz11_0 : w10.cell? ⟨gb101, 0, none⟩ = some (.slice A0_0 l0_0.length c0_0) := (blk_cell BK101.out 0).trans rfl; have hcz11_1 : w10.cell? ⟨gb101, 1, none⟩ = some (.slice A0_1 l0_1.length c0_1) := (blk_cell BK101.out 1).trans rfl; have hfz11_0 := blk_frozen BK101.out 0; have hfz11_1 := blk_frozen BK101.out 1) | ((with_reducible refine gate_callee (f := 24) rfl ?_); refine goesL_ (some 15) rfl rfl Try.func24 (by kernel_rfl) rfl #[.agg #[.slice A0_0 l0_0.length c0_0, .slice A0_1 l0_1.length c0_1], .slice A1 l1.length c1] rfl (by (try simp only [List.map_toArray, List.map_cons, List.map_nil]); first | done | rfl | (simp only [List.length_drop, List.length_take]; rfl)) ?_; (with_reducible refine (trishawlaw02_few.calls k _ _ l0_0 _ _ l0_1 _ _ l1 true _ ?side1 ?side2 ?side3 ?side4 ?side5 ?side6 A3.out).mono ?_); (case side1 => repeat (first | exact (Kd.C_below HR0_0.out HB.out) | (with_reducible refine Kd.C_alloc ?_ _) | (with_reducible refine Kd.C_drewN ?_ _) | (with_reducible refine Kd.C_drew ?_))); (case side2 => exact HC0_0.out); (case side3 => repeat (first | exact (Kd.C_below HR0_1.out HB.out) | (with_reducible refine Kd.C_alloc ?_ _) | (with_reducible refine Kd.C_drewN ?_ _) | (with_reducible refine Kd.C_drew ?_))); (case side4 => exact HC0_1.out); (case side5 => repeat (first | exact (Kd.C_below HR1.out HB.out) | (with_reducible refine Kd.C_alloc ?_ _) | (with_reducible refine Kd.C_drewN ?_ _) | (with_reducible refine Kd.C_drew ?_))); (case side6 => exact HC1.out); rintro e w12 ⟨rfl, hb⟩; refine ⟨_, rfl, ?_⟩; have n0_ := Aside0.mk (blk_below (g := gb101) (o := .cells #[.slice A0_0 l0_0.length c0_0, .slice A0_1 l0_1.length c0_1] 41 (0, 0)) (by (with_reducible repeat (first | refine blk_drewN ?_ _ | refine blk_drew ?_ | refine blk_alloc ?_ _)); exact BK101.out) hb); have n1_ := Aside0.mk (below_step (by repeat (first | (with_reducible first | exact HB.out | apply below_alloc | apply pw_below_drewN | apply below_drew1 | refine below_set ?_ GE101.out) | exact HB.out)) hb); clear BK101; clear HB; have BK101 := n0_; have HB := n1_; clear n0_ n1_; (try clear hb); (try clear hb2); (try clear hk); (try clear hi); have hcz13_0 : w12.cell? ⟨gb101, 0, none⟩ = some (.slice A0_0 l0_0.length c0_0) := (blk_cell BK101.out 0).trans rfl; have hcz13_1 : w12.cell? ⟨gb101, 1, none⟩ = some (.slice A0_1 l0_1.length c0_1) := (blk_cell BK101.out 1).trans rfl; have hfz13_0 := blk_frozen BK101.out 0; have hfz13_1 := blk_frozen BK101.out 1) | ((with_reducible refine gate_callee (f := 29) rfl ?_); refine goesL_ (some 19) rfl rfl Try.func29 (by kernel_rfl) rfl #[.agg #[.slice A0_0 l0_0.length c0_0, .slice A0_1 l0_1.length c0_1]] rfl (by (try simp only [List.map_toArray, List.map_cons, List.map_nil]); first | done | rfl | (simp only [List.length_drop, List.length_take]; rfl)) ?_; (with_reducible refine (trishawlaw02_copied.calls k _ _ l0_0 _ _ l0_1 t104 t107 _ ?side1 ?side2 ?side3 ?side4 A5.out).mono ?_); (case side1 => repeat (first | exact (Kd.C_below HR0_0.out HB.out) | (with_reducible refine Kd.C_alloc ?_ _) | (with_reducible refine Kd.C_drewN ?_ _) | (with_reducible refine Kd.C_drew ?_))); (case side2 => exact HC0_0.out); (case side3 => repeat (first | exact (Kd.C_below HR0_1.out HB.out) | (with_reducible refine Kd.C_alloc ?_ _) | (with_reducible refine Kd.C_drewN ?_ _) | (with_reducible refine Kd.C_drew ?_))); (case side4 => exact HC0_1.out); rintro e w14 ⟨v105, v108, rfl, ho0, ho1, hb⟩; refine ⟨_, rfl, ?_⟩; have n0_ := Aside0.mk (Kd.S_lower ho0 (below_size (by repeat (first | (with_reducible first | exact HB.out | apply below_alloc | apply pw_below_drewN | apply below_drew1 | refine below_set ?_ GE101.out) | exact HB.out)))); have n1_ := Aside0.mk (Kd.S_lower ho1 (below_size (by repeat (first | (with_reducible first | exact HB.out | apply below_alloc | apply pw_below_drewN | apply below_drew1 | refine below_set ?_ GE101.out) | exact HB.out)))); have n2_ := Aside0.mk (blk_below (g := gb101) (o := .cells #[.slice A0_0 l0_0.length c0_0, .slice A0_1 l0_1.length c0_1] 41 (0, 0)) (by (with_reducible repeat (first | refine blk_drewN ?_ _ | refine blk_drew ?_ | refine blk_alloc ?_ _)); exact BK101.out) hb); have n3_ := Aside0.mk (below_step (by repeat (first | (with_reducible first | exact HB.out | apply below_alloc | apply pw_below_drewN | apply below_drew1 | refine below_set ?_ GE101.out) | exact HB.out)) hb); clear BK101; clear HB; have HO106 := n0_; have HO109 := n1_; have BK101 := n2_; have HB := n3_; clear n0_ n1_ n2_ n3_; (try clear hb); (try clear hb2); (try clear hk); (try clear hi); (try clear ho0); (try clear ho1)) | ((with_reducible refine gate_dst (N := 20) rfl ?_); refine Kd.R_lit (Kd.int .i64) _ 3 ?hg (N := 20) ?hd (xs := ([] : List Int)) (inner := []) (ok := fun _ => True) (okp := fun _ => True) ?hr ?hp (fun _ hk => hk) trivial (Below.refl _ _) (Nat.le_refl _) (by simp) ?_; (case hd => rfl); (case hg => rfl); (case hr => first | (go_simp; done) | (go_simp; rfl)); (case hp => exact (Reps.none _ _)); intro v111 w15 ho16 hb hg_ hnew_; clear hg_ hnew_; (first | rw [← Ny110.out] at ho16 | (simp only [Int.reduceToNat] at ho16; rw [← Ny110.out] at ho16)); have n0_ := Aside0.mk (Kd.S_elder' (by (with_reducible repeat (first | apply Kd.S_alloc | apply Kd.S_drewN | apply Kd.S_drew)); exact HO106.out) (Kd.R_base ho16) hb); have n1_ := Aside0.mk (Kd.S_elder' (by (with_reducible repeat (first | apply Kd.S_alloc | apply Kd.S_drewN | apply Kd.S_drew)); exact HO109.out) (Kd.R_base ho16) hb); have n2_ := Aside0.mk (Kd.R_lower ho16 (below_size (by repeat (first | (with_reducible first | exact HB.out | apply below_alloc | apply pw_below_drewN | apply below_drew1 | refine below_set ?_ GE101.out) | exact HB.out)))); have n3_ := Aside0.mk (blk_below (g := gb101) (o := .cells #[.slice A0_0 l0_0.length c0_0, .slice A0_1 l0_1.length c0_1] 41 (0, 0)) (by (with_reducible repeat (first | refine blk_drewN ?_ _ | refine blk_drew ?_ | refine blk_alloc ?_ _)); exact BK101.out) hb); have n4_ := Aside0.mk (below_step (by repeat (first | (with_reducible first | exact HB.out | apply below_alloc | apply pw_below_drewN | apply below_drew1 | refine below_set ?_ GE101.out) | exact HB.out)) hb); clear HO106; clear HO109; clear BK101; clear HB; have HO106 := n0_; have HO109 := n1_; have HO112 := n2_; have BK101 := n3_; have HB := n4_; clear n0_ n1_ n2_ n3_ n4_; clear hb ho16) | ((with_reducible refine gate_builtin (b := .append) (xs := #[.tmp 20, .tmp 21]) rfl ?_); at_builtin; refine Kd.R_append_rows (Kd.int .i64) (w0 := w) w.heap.size rfl (.tmp 20) (.tmp 21) 24 3 (.int .i64 0) 8 rfl Try.underlying24 info3 rfl (by decide) (by omega) v111 y110 l1 _ _ _ (fun _ => True) (fun _ => False) rfl rfl ?aO ?aR (fun _ _ h => h) (fun _ h => h.elim) ?aF ?aB ?aS ?aL ?_; (case aR => repeat (first | exact (Kd.C_below HR1.out HB.out) | (with_reducible refine Kd.C_alloc ?_ _) | (with_reducible refine Kd.C_drewN ?_ _) | (with_reducible refine Kd.C_drew ?_))); (case aB => exact (by repeat (first | (with_reducible first | exact HB.out | apply below_alloc | apply pw_below_drewN | apply below_drew1 | refine below_set ?_ GE101.out) | exact HB.out))); (case aF => exact (fun _ _ => trivial)); (case aO => exact (by (with_reducible repeat (first | apply Kd.R_alloc | apply Kd.R_drewN | apply Kd.R_drew)); exact HO112.out)); (case aS => exact (below_size (by repeat (first | (with_reducible first | exact HB.out | apply below_alloc | apply pw_below_drewN | apply below_drew1 | refine below_set ?_ GE101.out) | exact HB.out)))); (case aL => have := LMc6.out; omega); intro v114 w17 ho hb hg hat; rw [← Ny113.out] at ho; have n0_ := Aside0.mk (blk_grown (g := gb101) (o := .cells #[.slice A0_0 l0_0.length c0_0, .slice A0_1 l0_1.length c0_1] 41 (0, 0)) (by (with_reducible repeat (first | refine blk_drewN ?_ _ | refine blk_drew ?_ | refine blk_alloc ?_ _)); exact BK101.out) hg (Kd.R_ne HO112.out BK101.out (by decide))); have n1_ := Aside0.mk (Kd.S_after (ok := (fun k_ => some k_ ≠ (v108 : Value).ownBlock)) (by (with_reducible repeat (first | apply Kd.S_alloc | apply Kd.S_drewN | apply Kd.S_drew)); exact HO106.out) hg hat); have n2_ := Aside0.mk (Kd.S_after (ok := (fun k_ => some k_ ≠ (v105 : Value).ownBlock)) (by (with_reducible repeat (first | apply Kd.S_alloc | apply Kd.S_drewN | apply Kd.S_drew)); exact HO109.out) hg hat); have n3_ := Aside0.mk (hb); have n4_ := Aside0.mk (ho); clear BK101; clear HO106; clear HO109; clear HB; clear HO112; have BK101 := n0_; have HO106 := n1_; have HO109 := n2_; have HB := n3_; have HO115 := n4_; clear n0_ n1_ n2_ n3_ n4_; clear ho hb hg hat) | ((with_reducible refine gate_dst (N := 5) rfl ?_); refine box_event ?hg (N := 5) ?hd (cs := #[.slice none 0 0, .slice none 0 0]) (t := 41) ?hr ?_; (case hd => rfl); (case hg => rfl); (case hr => first | (go_simp; done) | (go_simp; rfl)); intro gb116 hg w18 hbox hb; have n0_ := Aside0.mk (Kd.S_below (by (with_reducible repeat (first | apply Kd.S_alloc | apply Kd.S_drewN | apply Kd.S_drew)); exact HO106.out) hb); have n1_ := Aside0.mk (Kd.S_below (by (with_reducible repeat (first | apply Kd.S_alloc | apply Kd.S_drewN | apply Kd.S_drew)); exact HO109.out) hb); have n2_ := Aside0.mk (Kd.R_below (by (with_reducible repeat (first | apply Kd.R_alloc | apply Kd.R_drewN | apply Kd.R_drew)); exact HO115.out) hb); have n3_ := Aside0.mk (blk_below (g := gb101) (o := .cells #[.slice A0_0 l0_0.length c0_0, .slice A0_1 l0_1.length c0_1] 41 (0, 0)) (by (with_reducible repeat (first | refine blk_drewN ?_ _ | refine blk_drew ?_ | refine blk_alloc ?_ _)); exact BK101.out) hb); have n4_ := Aside0.mk (below_step (by repeat (first | (with_reducible first | exact HB.out | apply below_alloc | apply pw_below_drewN | apply below_drew1 | refine below_set ?_ GE101.out) | exact HB.out)) hb); have n5_ := Aside0.mk (hbox); have n6_ := Aside0.mk ((by rw [hg]; exact (below_size (by repeat (first | (with_reducible first | exact HB.out | apply below_alloc | apply pw_below_drewN | apply below_drew1 | refine below_set ?_ GE101.out) | exact HB.out))) : w.heap.size ≤ gb116)); have n7_ := Aside0.mk ((by rw [hg]; exact (below_size (by repeat (first | (with_reducible first | exact HB.out | apply below_alloc | apply pw_below_drewN | apply below_drew1 | refine below_set ?_ GE101.out) | exact HB.out))) : w.heap.size ≤ gb116)); have n8_ := Aside0.mk ((by rw [hg]; exact Nat.ne_of_lt (blk_lt (g := gb101) (o := .cells #[.slice A0_0 l0_0.length c0_0, .slice A0_1 l0_1.length c0_1] 41 (0, 0)) (by (with_reducible repeat (first | refine blk_drewN ?_ _ | refine blk_drew ?_ | refine blk_alloc ?_ _)); exact BK101.out)) : gb101 ≠ gb116)); have n9_ := Aside0.mk ((by rw [hg]; exact Nat.ne_of_gt (blk_lt (g := gb101) (o := .cells #[.slice A0_0 l0_0.length c0_0, .slice A0_1 l0_1.length c0_1] 41 (0, 0)) (by (with_reducible repeat (first | refine blk_drewN ?_ _ | refine blk_drew ?_ | refine blk_alloc ?_ _)); exact BK101.out)) : gb116 ≠ gb101)); clear HO106; clear HO109; clear HO115; clear BK101; clear HB; have HO106 := n0_; have HO109 := n1_; have HO115 := n2_; have BK101 := n3_; have HB := n4_; have BK116 := n5_; have GW116 := n6_; have GE116 := n7_; have NB101_116 := n8_; have NB116_101 := n9_; clear n0_ n1_ n2_ n3_ n4_ n5_ n6_ n7_ n8_ n9_; clear hb hbox hg; obtain ⟨Ao19, co19, eo19⟩ := Kd.S_slice HO106.out; subst eo19; have hnb20 := NB116_101.out; have hnc20 := NB101_116.out; have hcz21_0 : w18.cell? ⟨gb116, 0, none⟩ = some (.slice none 0 0) := (blk_cell BK116.out 0).trans rfl; have hcz21_1 : w18.cell? ⟨gb116, 1, none⟩ = some (.slice none 0 0) := (blk_cell BK116.out 1).trans rfl; have hfz21_0 := blk_frozen BK116.out 0; have hfz21_1 := blk_frozen BK116.out 1; obtain ⟨Ao22, co22, eo22⟩ := Kd.S_slice HO109.out; subst eo22; obtain ⟨Ao23, co23, eo23⟩ := Kd.R_slice HO115.out; subst eo23) | ((with_reducible refine gate_callee (f := 28) rfl ?_); refine goesL_ (some 26) rfl rfl Try.func28 (by kernel_rfl) rfl #[.agg #[.slice Ao19 t104.length co19, .slice Ao22 t107.length co22], .slice Ao23 y113.length co23] rfl (by (try simp only [List.map_toArray, List.map_cons, List.map_nil]); first | done | rfl | (simp only [List.length_drop, List.length_take]; rfl)) ?_; (with_reducible refine (jam_Costs.calls k _ _ t104 _ _ t107 _ _ y113 t117 t120 t121 _ ?side1 ?side2 ?side3 ?side4 ?side5 ?side6 A7.out).mono ?_); (case side1 => refine (Kd.S_reads' (e := 24) (base := w.heap.size) (ok := fun k_ => (some k_ ≠ (.slice Ao22 t107.length co22 : Value).ownBlock ∧ some k_ ≠ (.slice Ao23 y113.length co23 : Value).ownBlock)) (n := t104.length) (c := co19) ?_).2.2; exact (by (with_reducible repeat (first | apply Kd.S_alloc | apply Kd.S_drewN | apply Kd.S_drew)); exact (Kd.S_mono (Kd.S_far (p := ⟨gb116, 1, none⟩) (Kd.S_far (p := ⟨gb116, 0, none⟩) (Kd.S_types HO106.out BK116.out (by decide)) (fun _ hk => hk.2) (.slice Ao19 t104.length co19)) (fun _ hk => hk.2) (.slice Ao22 t107.length co22)) (fun _ h_ => h_.1)))); (case side2 => exact (Kd.S_reads' HO106.out).2.1); (case side3 => refine (Kd.S_reads' (e := 24) (base := w.heap.size) (ok := fun k_ => (some k_ ≠ (.slice Ao19 t104.length co19 : Value).ownBlock ∧ some k_ ≠ (.slice Ao23 y113.length co23 : Value).ownBlock)) (n := t107.length) (c := co22) ?_).2.2; exact (by (with_reducible repeat (first | apply Kd.S_alloc | apply Kd.S_drewN | apply Kd.S_drew)); exact (Kd.S_mono (Kd.S_far (p := ⟨gb116, 1, none⟩) (Kd.S_far (p := ⟨gb116, 0, none⟩) (Kd.S_types HO109.out BK116.out (by decide)) (fun _ hk => hk.2) (.slice Ao19 t104.length co19)) (fun _ hk => hk.2) (.slice Ao22 t107.length co22)) (fun _ h_ => h_.1)))); (case side4 => exact (Kd.S_reads' HO109.out).2.1); (case side5 => refine (Kd.R_reads' (e := 3) (base := w.heap.size) (ok := fun k_ => True) (n := y113.length) (c := co23) ?_).2.2; exact (by (with_reducible repeat (first | apply Kd.R_alloc | apply Kd.R_drewN | apply Kd.R_drew)); exact (Kd.R_mono (Kd.R_far (p := ⟨gb116, 1, none⟩) (Kd.R_far (p := ⟨gb116, 0, none⟩) (Kd.R_types HO115.out BK116.out (by decide)) (fun _ hk => hk.2) (.slice Ao19 t104.length co19)) (fun _ hk => hk.2) (.slice Ao22 t107.length co22)) (fun _ h_ => h_.1)))); (case side6 => exact (Kd.R_reads' HO115.out).2.1); rintro e w24 ⟨v118, rfl, ho0, hb⟩; refine ⟨_, rfl, ?_⟩; have n0_ := Aside0.mk (Kd.S_elder' (by (with_reducible repeat (first | apply Kd.S_alloc | apply Kd.S_drewN | apply Kd.S_drew)); exact (Kd.S_mono (Kd.S_far (p := ⟨gb116, 1, none⟩) (Kd.S_far (p := ⟨gb116, 0, none⟩) (Kd.S_types HO106.out BK116.out (by decide)) (fun _ hk => hk.2) (.slice Ao19 t104.length co19)) (fun _ hk => hk.2) (.slice Ao22 t107.length co22)) (fun _ h_ => h_.1))) (Kd.R_base ho0) hb); have n1_ := Aside0.mk (Kd.S_elder' (by (with_reducible repeat (first | apply Kd.S_alloc | apply Kd.S_drewN | apply Kd.S_drew)); exact (Kd.S_mono (Kd.S_far (p := ⟨gb116, 1, none⟩) (Kd.S_far (p := ⟨gb116, 0, none⟩) (Kd.S_types HO109.out BK116.out (by decide)) (fun _ hk => hk.2) (.slice Ao19 t104.length co19)) (fun _ hk => hk.2) (.slice Ao22 t107.length co22)) (fun _ h_ => h_.1))) (Kd.R_base ho0) hb); have n2_ := Aside0.mk (Kd.R_elder' (by (with_reducible repeat (first | apply Kd.R_alloc | apply Kd.R_drewN | apply Kd.R_drew)); exact (Kd.R_mono (Kd.R_far (p := ⟨gb116, 1, none⟩) (Kd.R_far (p := ⟨gb116, 0, none⟩) (Kd.R_types HO115.out BK116.out (by decide)) (fun _ hk => hk.2) (.slice Ao19 t104.length co19)) (fun _ hk => hk.2) (.slice Ao22 t107.length co22)) (fun _ h_ => h_.1))) (Kd.R_base ho0) hb); have n3_ := Aside0.mk (Kd.R_lower (Kd.R_new' ho0 (Kd.R_lt (by (with_reducible repeat (first | apply Kd.R_alloc | apply Kd.R_drewN | apply Kd.R_drew)); exact (Kd.R_mono (Kd.R_far (p := ⟨gb116, 1, none⟩) (Kd.R_far (p := ⟨gb116, 0, none⟩) (Kd.R_types HO115.out BK116.out (by decide)) (fun _ hk => hk.2) (.slice Ao19 t104.length co19)) (fun _ hk => hk.2) (.slice Ao22 t107.length co22)) (fun _ h_ => h_.1))))) (below_size (by repeat (first | (with_reducible first | exact HB.out | apply below_alloc | apply pw_below_drewN | apply below_drew1 | refine below_set ?_ GE101.out | refine below_set ?_ GE116.out) | exact HB.out)))); have n4_ := Aside0.mk (blk_below (g := gb101) (o := .cells #[.slice A0_0 l0_0.length c0_0, .slice A0_1 l0_1.length c0_1] 41 (0, 0)) (by (with_reducible repeat (first | refine blk_drewN ?_ _ | refine blk_drew ?_ | refine blk_alloc ?_ _)); refine blk_far ?_ NB101_116.out _; (with_reducible repeat (first | refine blk_drewN ?_ _ | refine blk_drew ?_ | refine blk_alloc ?_ _)); refine blk_far ?_ NB101_116.out _; (with_reducible repeat (first | refine blk_drewN ?_ _ | refine blk_drew ?_ | refine blk_alloc ?_ _)); exact BK101.out) hb); have n5_ := Aside0.mk (blk_below (g := gb116) (o := .cells #[.slice Ao19 t104.length co19, .slice Ao22 t107.length co22] 41 (0, 0)) (by (with_reducible repeat (first | refine blk_drewN ?_ _ | refine blk_drew ?_ | refine blk_alloc ?_ _)); refine blk_put (cs := #[.slice Ao19 t104.length co19, .slice none 0 0]) ?_ 1 _ rfl; (with_reducible repeat (first | refine blk_drewN ?_ _ | refine blk_drew ?_ | refine blk_alloc ?_ _)); refine blk_put (cs := #[.slice none 0 0, .slice none 0 0]) ?_ 0 _ rfl; (with_reducible repeat (first | refine blk_drewN ?_ _ | refine blk_drew ?_ | refine blk_alloc ?_ _)); exact BK116.out) hb); have n6_ := Aside0.mk (below_step (by repeat (first | (with_reducible first | exact HB.out | apply below_alloc | apply pw_below_drewN | apply below_drew1 | refine below_set ?_ GE101.out | refine below_set ?_ GE116.out) | exact HB.out)) hb); clear HO106; clear HO109; clear HO115; clear BK101; clear BK116; clear HB; have HO106 := n0_; have HO109 := n1_; have HO115 := n2_; have HO119 := n3_; have BK101 := n4_; have BK116 := n5_; have HB := n6_; clear n0_ n1_ n2_ n3_ n4_ n5_ n6_; (try clear hb); (try clear hb2); (try clear hk); (try clear hi); (try clear ho0); have hcz25_0 : w24.cell? ⟨gb101, 0, none⟩ = some (.slice A0_0 l0_0.length c0_0) := (blk_cell BK101.out 0).trans rfl; have hcz25_1 : w24.cell? ⟨gb101, 1, none⟩ = some (.slice A0_1 l0_1.length c0_1) := (blk_cell BK101.out 1).trans rfl; have hfz25_0 := blk_frozen BK101.out 0; have hfz25_1 := blk_frozen BK101.out 1) | ((with_reducible refine gate_callee (f := 30) rfl ?_); refine goesL_ (some 33) rfl rfl Try.func30 (by kernel_rfl) rfl #[.agg #[.slice A0_0 l0_0.length c0_0, .slice A0_1 l0_1.length c0_1], .slice A1 l1.length c1] rfl (by (try simp only [List.map_toArray, List.map_cons, List.map_nil]); first | done | rfl | (simp only [List.length_drop, List.length_take]; rfl)) ?_; (with_reducible refine (trishawref02_Costs.calls k _ _ l0_0 _ _ l0_1 _ _ l1 t122 t125 t126 _ ?side1 ?side2 ?side3 ?side4 ?side5 ?side6 A8.out).mono ?_); (case side1 => repeat (first | exact (Kd.C_below HR0_0.out HB.out) | (with_reducible refine Kd.C_alloc ?_ _) | (with_reducible refine Kd.C_drewN ?_ _) | (with_reducible refine Kd.C_drew ?_))); (case side2 => exact HC0_0.out); (case side3 => repeat (first | exact (Kd.C_below HR0_1.out HB.out) | (with_reducible refine Kd.C_alloc ?_ _) | (with_reducible refine Kd.C_drewN ?_ _) | (with_reducible refine Kd.C_drew ?_))); (case side4 => exact HC0_1.out); (case side5 => repeat (first | exact (Kd.C_below HR1.out HB.out) | (with_reducible refine Kd.C_alloc ?_ _) | (with_reducible refine Kd.C_drewN ?_ _) | (with_reducible refine Kd.C_drew ?_))); (case side6 => exact HC1.out); rintro e w26 ⟨v123, rfl, ho0, hb⟩; refine ⟨_, rfl, ?_⟩; have n0_ := Aside0.mk (Kd.S_elder' (by (with_reducible repeat (first | apply Kd.S_alloc | apply Kd.S_drewN | apply Kd.S_drew)); exact HO106.out) (Kd.R_base ho0) hb); have n1_ := Aside0.mk (Kd.S_elder' (by (with_reducible repeat (first | apply Kd.S_alloc | apply Kd.S_drewN | apply Kd.S_drew)); exact HO109.out) (Kd.R_base ho0) hb); have n2_ := Aside0.mk (Kd.R_elder' (by (with_reducible repeat (first | apply Kd.R_alloc | apply Kd.R_drewN | apply Kd.R_drew)); exact HO115.out) (Kd.R_base ho0) hb); have n3_ := Aside0.mk (Kd.R_elder' (by (with_reducible repeat (first | apply Kd.R_alloc | apply Kd.R_drewN | apply Kd.R_drew)); exact HO119.out) (Kd.R_base ho0) hb); have n4_ := Aside0.mk (Kd.R_lower (Kd.R_new' (Kd.R_new' ho0 (Kd.R_lt (by (with_reducible repeat (first | apply Kd.R_alloc | apply Kd.R_drewN | apply Kd.R_drew)); exact HO115.out))) (Kd.R_lt (by (with_reducible repeat (first | apply Kd.R_alloc | apply Kd.R_drewN | apply Kd.R_drew)); exact HO119.out))) (below_size (by repeat (first | (with_reducible first | exact HB.out | apply below_alloc | apply pw_below_drewN | apply below_drew1 | refine below_set ?_ GE101.out | refine below_set ?_ GE116.out) | exact HB.out)))); have n5_ := Aside0.mk (blk_below (g := gb101) (o := .cells #[.slice A0_0 l0_0.length c0_0, .slice A0_1 l0_1.length c0_1] 41 (0, 0)) (by (with_reducible repeat (first | refine blk_drewN ?_ _ | refine blk_drew ?_ | refine blk_alloc ?_ _)); exact BK101.out) hb); have n6_ := Aside0.mk (blk_below (g := gb116) (o := .cells #[.slice Ao19 t104.length co19, .slice Ao22 t107.length co22] 41 (0, 0)) (by (with_reducible repeat (first | refine blk_drewN ?_ _ | refine blk_drew ?_ | refine blk_alloc ?_ _)); exact BK116.out) hb); have n7_ := Aside0.mk (below_step (by repeat (first | (with_reducible first | exact HB.out | apply below_alloc | apply pw_below_drewN | apply below_drew1 | refine below_set ?_ GE101.out | refine below_set ?_ GE116.out) | exact HB.out)) hb); clear HO106; clear HO109; clear HO115; clear HO119; clear BK101; clear BK116; clear HB; have HO106 := n0_; have HO109 := n1_; have HO115 := n2_; have HO119 := n3_; have HO124 := n4_; have BK101 := n5_; have BK116 := n6_; have HB := n7_; clear n0_ n1_ n2_ n3_ n4_ n5_ n6_ n7_; (try clear hb); (try clear hb2); (try clear hk); (try clear hi); (try clear ho0)))
   (try simp only [Act.put, List.setIfInBounds_toArray, List.set_cons_zero, List.set_cons_succ])
   go_cut [50] (fun v50 wc => ∃ (kq : Nat) (x50_8 : Bool), v50 = .bool x50_8 ∧ Aside0 (trishawlaw02_JamCosts.j0 kq l1 y113 x50_8 l0_0 l0_1 t104 t107 = some r) ∧ Aside0 (kq ≤ k) ∧ Aside0 (Kd.R (Kd.int .i64) 3 wc w.heap.size (fun _ => True) (.slice Ao23 y113.length co23) y113) ∧ Aside0 (Kd.S (Kd.slice 3 (Kd.int .i64)) 24 wc w.heap.size (fun k_ => some k_ ≠ ((.slice Ao23 y113.length co23) : Value).ownBlock ∧ some k_ ≠ ((.slice Ao22 t107.length co22) : Value).ownBlock) (.slice Ao19 t104.length co19) t104) ∧ Aside0 (Kd.S (Kd.slice 3 (Kd.int .i64)) 24 wc w.heap.size (fun k_ => some k_ ≠ ((.slice Ao23 y113.length co23) : Value).ownBlock ∧ some k_ ≠ ((.slice Ao19 t104.length co19) : Value).ownBlock) (.slice Ao22 t107.length co22) t107) ∧ Aside0 (wc.heap[gb101]? = some (.cells #[(.slice A0_0 l0_0.length c0_0), (.slice A0_1 l0_1.length c0_1)] 41 (0, 0))) ∧ Aside0 (wc.heap[gb116]? = some (.cells #[(.slice Ao19 t104.length co19), (.slice Ao22 t107.length co22)] 41 (0, 0))) ∧ Aside0 (Below w.heap.size w wc))
   case first =>
    have H := HC9.out
    clear HC9
    replace H := Option.bind_eq_some_iff.mp H
    obtain ⟨t127, A270, H⟩ := H
    replace H : (if t127 = true then (if t120 = t125 then (trishawlaw02_JamCosts.j0 k l1 y113 (t121 != t126) l0_0 l0_1 t104 t107) else (trishawlaw02_JamCosts.j0 k l1 y113 true l0_0 l0_1 t104 t107)) else (trishawlaw02_JamCosts.j0 k l1 y113 true l0_0 l0_1 t104 t107)) = some r := H
    have A27 := Aside0.mk A270
    clear A270
    by_cases c28 : t127 = true
    ·subst c28
     have H1 : (if t120 = t125 then (trishawlaw02_JamCosts.j0 k l1 y113 (t121 != t126) l0_0 l0_1 t104 t107) else (trishawlaw02_JamCosts.j0 k l1 y113 true l0_0 l0_1 t104 t107)) = some r := by rw [if_pos rfl] at H; exact H
     clear H
     have H := H1
     clear H1
     by_cases c29 : t120 = t125
     ·rw [if_pos c29] at H
      have c29b0 : (t120 == t125) = true := beq_iff_eq.mpr c29
      have c29b1 : (t120 != t125) = false := bne_eq_false_iff_eq.mpr c29
      clear c29
      (first | rw [c29b0] | (simp only [i64_w, i32_w]; rw [c29b0]) | skip)
      have H' := Aside0.mk H
      clear H
      obtain ⟨Ao30, co30, eo30⟩ := Kd.R_slice HO119.out
      subst eo30
      obtain ⟨Ao31, co31, eo31⟩ := Kd.R_slice HO124.out
      subst eo31
      go_wp2_with (first | ((with_reducible refine gate_callee (f := 31) rfl ?_); refine goesL_ (some 39) rfl rfl Try.func31 (by kernel_rfl) rfl #[.slice Ao30 t117.length co30, .slice Ao31 t122.length co31] rfl (by (try simp only [List.map_toArray, List.map_cons, List.map_nil]); first | done | rfl | (simp only [List.length_drop, List.length_take]; rfl)) ?_; (with_reducible refine (trishawlaw02_same.calls k _ _ t117 _ _ t122 true _ ?side1 ?side2 ?side3 ?side4 A27.out).mono ?_); (case side1 => repeat (first | exact (Kd.R_reads' HO119.out).2.2 | (with_reducible refine Kd.C_alloc ?_ _) | (with_reducible refine Kd.C_drewN ?_ _) | (with_reducible refine Kd.C_drew ?_))); (case side2 => exact (Kd.R_reads' HO119.out).2.1); (case side3 => repeat (first | exact (Kd.R_reads' HO124.out).2.2 | (with_reducible refine Kd.C_alloc ?_ _) | (with_reducible refine Kd.C_drewN ?_ _) | (with_reducible refine Kd.C_drew ?_))); (case side4 => exact (Kd.R_reads' HO124.out).2.1); rintro e w' ⟨rfl, ⟨nd, rfl⟩⟩; refine ⟨_, rfl, ?_⟩))
      go_meet
      case rel => exact ⟨_, ((t121 != t126)), (by first | rfl | (simp; done) | (simp [*]; done)), H', ⟨by first | omega | exact Nat.le_refl _⟩, ⟨by (with_reducible repeat (first | apply Kd.R_alloc | apply Kd.R_drewN | apply Kd.R_drew)); exact Kd.R_mono HO115.out (fun _ hk => trivial)⟩, ⟨by (with_reducible repeat (first | apply Kd.S_alloc | apply Kd.S_drewN | apply Kd.S_drew)); exact Kd.S_mono HO106.out (fun _ hk => ⟨hk.1.1.2, hk.1.1.1⟩)⟩, ⟨by (with_reducible repeat (first | apply Kd.S_alloc | apply Kd.S_drewN | apply Kd.S_drew)); exact Kd.S_mono HO109.out (fun _ hk => ⟨hk.1.1.2, hk.1.1.1⟩)⟩, ⟨by (with_reducible repeat (first | refine blk_drewN ?_ _ | refine blk_drew ?_ | refine blk_alloc ?_ _)); exact BK101.out⟩, ⟨by (with_reducible repeat (first | refine blk_drewN ?_ _ | refine blk_drew ?_ | refine blk_alloc ?_ _)); exact BK116.out⟩, ⟨by repeat (first | (with_reducible first | exact HB.out | apply below_alloc | apply pw_below_drewN | apply below_drew1 | refine below_set ?_ GE101.out | refine below_set ?_ GE116.out) | exact HB.out)⟩⟩
     ·rw [if_neg c29] at H
      have c29b0 : (t120 == t125) = false := beq_eq_false_iff_ne.mpr c29
      have c29b1 : (t120 != t125) = true := bne_iff_ne.mpr c29
      (first | rw [c29b0] | (simp only [i64_w, i32_w]; rw [c29b0]) | skip)
      have H' := Aside0.mk H
      clear H
      obtain ⟨Ao32, co32, eo32⟩ := Kd.R_slice HO119.out
      subst eo32
      obtain ⟨Ao33, co33, eo33⟩ := Kd.R_slice HO124.out
      subst eo33
      go_wp2_with (first | ((with_reducible refine gate_callee (f := 31) rfl ?_); refine goesL_ (some 39) rfl rfl Try.func31 (by kernel_rfl) rfl #[.slice Ao32 t117.length co32, .slice Ao33 t122.length co33] rfl (by (try simp only [List.map_toArray, List.map_cons, List.map_nil]); first | done | rfl | (simp only [List.length_drop, List.length_take]; rfl)) ?_; (with_reducible refine (trishawlaw02_same.calls k _ _ t117 _ _ t122 true _ ?side1 ?side2 ?side3 ?side4 A27.out).mono ?_); (case side1 => repeat (first | exact (Kd.R_reads' HO119.out).2.2 | (with_reducible refine Kd.C_alloc ?_ _) | (with_reducible refine Kd.C_drewN ?_ _) | (with_reducible refine Kd.C_drew ?_))); (case side2 => exact (Kd.R_reads' HO119.out).2.1); (case side3 => repeat (first | exact (Kd.R_reads' HO124.out).2.2 | (with_reducible refine Kd.C_alloc ?_ _) | (with_reducible refine Kd.C_drewN ?_ _) | (with_reducible refine Kd.C_drew ?_))); (case side4 => exact (Kd.R_reads' HO124.out).2.1); rintro e w' ⟨rfl, ⟨nd, rfl⟩⟩; refine ⟨_, rfl, ?_⟩))
      go_meet
      case rel => exact ⟨_, (true), (by first | rfl | (simp; done) | (simp [*]; done)), H', ⟨by first | omega | exact Nat.le_refl _⟩, ⟨by (with_reducible repeat (first | apply Kd.R_alloc | apply Kd.R_drewN | apply Kd.R_drew)); exact Kd.R_mono HO115.out (fun _ hk => trivial)⟩, ⟨by (with_reducible repeat (first | apply Kd.S_alloc | apply Kd.S_drewN | apply Kd.S_drew)); exact Kd.S_mono HO106.out (fun _ hk => ⟨hk.1.1.2, hk.1.1.1⟩)⟩, ⟨by (with_reducible repeat (first | apply Kd.S_alloc | apply Kd.S_drewN | apply Kd.S_drew)); exact Kd.S_mono HO109.out (fun _ hk => ⟨hk.1.1.2, hk.1.1.1⟩)⟩, ⟨by (with_reducible repeat (first | refine blk_drewN ?_ _ | refine blk_drew ?_ | refine blk_alloc ?_ _)); exact BK101.out⟩, ⟨by (with_reducible repeat (first | refine blk_drewN ?_ _ | refine blk_drew ?_ | refine blk_alloc ?_ _)); exact BK116.out⟩, ⟨by repeat (first | (with_reducible first | exact HB.out | apply below_alloc | apply pw_below_drewN | apply below_drew1 | refine below_set ?_ GE101.out | refine below_set ?_ GE116.out) | exact HB.out)⟩⟩
    ·replace c28 := Bool.eq_false_iff.mpr c28
     subst c28
     have H1 : (trishawlaw02_JamCosts.j0 k l1 y113 true l0_0 l0_1 t104 t107) = some r := by rw [if_neg (show ¬ (false = true) by decide)] at H; exact H
     clear H
     have H := H1
     clear H1
     have H' := Aside0.mk H
     clear H
     obtain ⟨Ao34, co34, eo34⟩ := Kd.R_slice HO119.out
     subst eo34
     obtain ⟨Ao35, co35, eo35⟩ := Kd.R_slice HO124.out
     subst eo35
     go_wp2_with (first | ((with_reducible refine gate_callee (f := 31) rfl ?_); refine goesL_ (some 39) rfl rfl Try.func31 (by kernel_rfl) rfl #[.slice Ao34 t117.length co34, .slice Ao35 t122.length co35] rfl (by (try simp only [List.map_toArray, List.map_cons, List.map_nil]); first | done | rfl | (simp only [List.length_drop, List.length_take]; rfl)) ?_; (with_reducible refine (trishawlaw02_same.calls k _ _ t117 _ _ t122 false _ ?side1 ?side2 ?side3 ?side4 A27.out).mono ?_); (case side1 => repeat (first | exact (Kd.R_reads' HO119.out).2.2 | (with_reducible refine Kd.C_alloc ?_ _) | (with_reducible refine Kd.C_drewN ?_ _) | (with_reducible refine Kd.C_drew ?_))); (case side2 => exact (Kd.R_reads' HO119.out).2.1); (case side3 => repeat (first | exact (Kd.R_reads' HO124.out).2.2 | (with_reducible refine Kd.C_alloc ?_ _) | (with_reducible refine Kd.C_drewN ?_ _) | (with_reducible refine Kd.C_drew ?_))); (case side4 => exact (Kd.R_reads' HO124.out).2.1); rintro e w' ⟨rfl, ⟨nd, rfl⟩⟩; refine ⟨_, rfl, ?_⟩))
     go_meet
     case rel => exact ⟨_, (true), (by first | rfl | (simp; done) | (simp [*]; done)), H', ⟨by first | omega | exact Nat.le_refl _⟩, ⟨by (with_reducible repeat (first | apply Kd.R_alloc | apply Kd.R_drewN | apply Kd.R_drew)); exact Kd.R_mono HO115.out (fun _ hk => trivial)⟩, ⟨by (with_reducible repeat (first | apply Kd.S_alloc | apply Kd.S_drewN | apply Kd.S_drew)); exact Kd.S_mono HO106.out (fun _ hk => ⟨hk.1.1.2, hk.1.1.1⟩)⟩, ⟨by (with_reducible repeat (first | apply Kd.S_alloc | apply Kd.S_drewN | apply Kd.S_drew)); exact Kd.S_mono HO109.out (fun _ hk => ⟨hk.1.1.2, hk.1.1.1⟩)⟩, ⟨by (with_reducible repeat (first | refine blk_drewN ?_ _ | refine blk_drew ?_ | refine blk_alloc ?_ _)); exact BK101.out⟩, ⟨by (with_reducible repeat (first | refine blk_drewN ?_ _ | refine blk_drew ?_ | refine blk_alloc ?_ _)); exact BK116.out⟩, ⟨by repeat (first | (with_reducible first | exact HB.out | apply below_alloc | apply pw_below_drewN | apply below_drew1 | refine below_set ?_ GE101.out | refine below_set ?_ GE116.out) | exact HB.out)⟩⟩
   case rest =>
    clear HC9
    try clear c1
    try clear c2
    try clear p2
    try clear c3
    try clear c4
    try clear c6
    try clear c7
    try clear c20
    try clear c24
    try clear c28
    try clear c29
    try clear c29b0
    try clear c29b1
    try clear c30
    try clear c31
    try clear hcz11_0
    try clear hcz11_1
    try clear hcz13_0
    try clear hcz13_1
    try clear hcz21_0
    try clear hcz21_1
    try clear hcz25_0
    try clear hcz25_1
    try clear hfz11_0
    try clear hfz11_1
    try clear hfz13_0
    try clear hfz13_1
    try clear hfz21_0
    try clear hfz21_1
    try clear hfz25_0
    try clear hfz25_1
    obtain ⟨kq, x50_8, rfl, HA, HJ8, HO_6, HO_117000, HO_117001, BK101, BK116, HB⟩ := hcut
    cases kq with
    | zero => exact absurd HA.out (by simp [trishawlaw02_JamCosts.j0])
    | succ kj8 =>
     have H := HA.out
     clear HA
     simp only [trishawlaw02_JamCosts.j0] at H
     by_cases c36 : x50_8 = true
     ·subst c36
      have H1 : (some false) = some r := by rw [if_pos rfl] at H; exact H
      clear H
      have H := H1
      clear H1
      obtain rfl := Option.some.inj H
      go_wp2
      go_ret
      exact ⟨by first | rfl | (simp [errW_none, errW_some] <;> rfl) | (simp [*, errW_none, errW_some] <;> rfl), by repeat (first | (with_reducible first | exact HB.out | apply below_alloc | apply pw_below_drewN | apply below_drew1 | refine below_set ?_ GE101.out | refine below_set ?_ GE116.out) | exact HB.out)⟩
     ·replace c36 := Bool.eq_false_iff.mpr c36
      subst c36
      have H1 : ((jam_Potential.f kj8 t104 t107 y113).bind fun bt128 => ((trishawref02_Potential.f kj8 l0_0 l0_1 l1).bind fun bt130 => (if bt128.1 = bt130.1 then (if bt128.2 = bt130.2 then ((trishawlaw02_same.f kj8 y113 l1).bind fun t132 => (if t132 = true then ((trishawlaw02_unchanged.f kj8 t104 t107 l0_0 l0_1).bind fun t133 => (if t133 = true then ((trishawlaw02_alive.f kj8).bind fun t134 => (some t134)) else (some false))) else (some false))) else (some false)) else (some false)))) = some r := by rw [if_neg (show ¬ (false = true) by decide)] at H; exact H
      clear H
      have H := H1
      clear H1
      replace H := Option.bind_eq_some_iff.mp H
      obtain ⟨⟨t128, t129⟩, A370, H⟩ := H
      replace H : ((trishawref02_Potential.f kj8 l0_0 l0_1 l1).bind fun bt130 => (if t128 = bt130.1 then (if t129 = bt130.2 then ((trishawlaw02_same.f kj8 y113 l1).bind fun t132 => (if t132 = true then ((trishawlaw02_unchanged.f kj8 t104 t107 l0_0 l0_1).bind fun t133 => (if t133 = true then ((trishawlaw02_alive.f kj8).bind fun t134 => (some t134)) else (some false))) else (some false))) else (some false)) else (some false))) = some r := H
      have A37 := Aside0.mk A370
      clear A370
      replace H := Option.bind_eq_some_iff.mp H
      obtain ⟨⟨t130, t131⟩, A380, H⟩ := H
      replace H : (if t128 = t130 then (if t129 = t131 then ((trishawlaw02_same.f kj8 y113 l1).bind fun t132 => (if t132 = true then ((trishawlaw02_unchanged.f kj8 t104 t107 l0_0 l0_1).bind fun t133 => (if t133 = true then ((trishawlaw02_alive.f kj8).bind fun t134 => (some t134)) else (some false))) else (some false))) else (some false)) else (some false)) = some r := H
      have A38 := Aside0.mk A380
      clear A380
      by_cases c39 : t128 = t130
      ·rw [if_pos c39] at H
       have c39b0 : (t128 == t130) = true := beq_iff_eq.mpr c39
       have c39b1 : (t128 != t130) = false := bne_eq_false_iff_eq.mpr c39
       clear c39
       by_cases c40 : t129 = t131
       ·rw [if_pos c40] at H
        have c40b0 : (t129 == t131) = true := beq_iff_eq.mpr c40
        have c40b1 : (t129 != t131) = false := bne_eq_false_iff_eq.mpr c40
        clear c40
        replace H := Option.bind_eq_some_iff.mp H
        obtain ⟨t132, A410, H⟩ := H
        replace H : (if t132 = true then ((trishawlaw02_unchanged.f kj8 t104 t107 l0_0 l0_1).bind fun t133 => (if t133 = true then ((trishawlaw02_alive.f kj8).bind fun t134 => (some t134)) else (some false))) else (some false)) = some r := H
        have A41 := Aside0.mk A410
        clear A410
        by_cases c42 : t132 = true
        ·subst c42
         have H1 : ((trishawlaw02_unchanged.f kj8 t104 t107 l0_0 l0_1).bind fun t133 => (if t133 = true then ((trishawlaw02_alive.f kj8).bind fun t134 => (some t134)) else (some false))) = some r := by rw [if_pos rfl] at H; exact H
         clear H
         have H := H1
         clear H1
         replace H := Option.bind_eq_some_iff.mp H
         obtain ⟨t133, A430, H⟩ := H
         replace H : (if t133 = true then ((trishawlaw02_alive.f kj8).bind fun t134 => (some t134)) else (some false)) = some r := H
         have A43 := Aside0.mk A430
         clear A430
         by_cases c44 : t133 = true
         ·subst c44
          have H1 : ((trishawlaw02_alive.f kj8).bind fun t134 => (some t134)) = some r := by rw [if_pos rfl] at H; exact H
          clear H
          have H := H1
          clear H1
          replace H := Option.bind_eq_some_iff.mp H
          obtain ⟨t134, A450, H⟩ := H
          replace H : (some t134) = some r := H
          have A45 := Aside0.mk A450
          clear A450
          obtain rfl := Option.some.inj H
          have hnb46 := NB116_101.out
          have hnc46 := NB101_116.out
          have hcz47_0 : wc.cell? ⟨gb116, 0, none⟩ = some (.slice Ao19 t104.length co19) := (blk_cell BK116.out 0).trans rfl
          have hcz47_1 : wc.cell? ⟨gb116, 1, none⟩ = some (.slice Ao22 t107.length co22) := (blk_cell BK116.out 1).trans rfl
          have hfz47_0 := blk_frozen BK116.out 0
          have hfz47_1 := blk_frozen BK116.out 1
          go_wp2_with (first | ((with_reducible refine gate_callee (f := 32) rfl ?_); refine goesL_ (some 54) rfl rfl Try.func32 (by kernel_rfl) rfl #[.agg #[.slice Ao19 t104.length co19, .slice Ao22 t107.length co22], .slice Ao23 y113.length co23] rfl (by (try simp only [List.map_toArray, List.map_cons, List.map_nil]); first | done | rfl | (simp only [List.length_drop, List.length_take]; rfl)) ?_; (with_reducible refine (jam_Potential.calls kj8 _ _ t104 _ _ t107 _ _ y113 t128 t129 _ ?side1 ?side2 ?side3 ?side4 ?side5 ?side6 A37.out).mono ?_); (case side1 => repeat (first | exact (Kd.S_reads' HO_117000.out).2.2 | (with_reducible refine Kd.C_alloc ?_ _) | (with_reducible refine Kd.C_drewN ?_ _) | (with_reducible refine Kd.C_drew ?_))); (case side2 => exact (Kd.S_reads' HO_117000.out).2.1); (case side3 => repeat (first | exact (Kd.S_reads' HO_117001.out).2.2 | (with_reducible refine Kd.C_alloc ?_ _) | (with_reducible refine Kd.C_drewN ?_ _) | (with_reducible refine Kd.C_drew ?_))); (case side4 => exact (Kd.S_reads' HO_117001.out).2.1); (case side5 => repeat (first | exact (Kd.R_reads' HO_6.out).2.2 | (with_reducible refine Kd.C_alloc ?_ _) | (with_reducible refine Kd.C_drewN ?_ _) | (with_reducible refine Kd.C_drew ?_))); (case side6 => exact (Kd.R_reads' HO_6.out).2.1); rintro e w48 ⟨rfl, hb⟩; refine ⟨_, rfl, ?_⟩; have n0_ := Aside0.mk (Kd.R_below (by (with_reducible repeat (first | apply Kd.R_alloc | apply Kd.R_drewN | apply Kd.R_drew)); exact HO_6.out) hb); have n1_ := Aside0.mk (Kd.S_below (by (with_reducible repeat (first | apply Kd.S_alloc | apply Kd.S_drewN | apply Kd.S_drew)); exact HO_117000.out) hb); have n2_ := Aside0.mk (Kd.S_below (by (with_reducible repeat (first | apply Kd.S_alloc | apply Kd.S_drewN | apply Kd.S_drew)); exact HO_117001.out) hb); have n3_ := Aside0.mk (blk_below (g := gb101) (o := .cells #[.slice A0_0 l0_0.length c0_0, .slice A0_1 l0_1.length c0_1] 41 (0, 0)) (by (with_reducible repeat (first | refine blk_drewN ?_ _ | refine blk_drew ?_ | refine blk_alloc ?_ _)); exact BK101.out) hb); have n4_ := Aside0.mk (blk_below (g := gb116) (o := .cells #[.slice Ao19 t104.length co19, .slice Ao22 t107.length co22] 41 (0, 0)) (by (with_reducible repeat (first | refine blk_drewN ?_ _ | refine blk_drew ?_ | refine blk_alloc ?_ _)); exact BK116.out) hb); have n5_ := Aside0.mk (below_step (by repeat (first | (with_reducible first | exact HB.out | apply below_alloc | apply pw_below_drewN | apply below_drew1 | refine below_set ?_ GE101.out | refine below_set ?_ GE116.out) | exact HB.out)) hb); clear HO_6; clear HO_117000; clear HO_117001; clear BK101; clear BK116; clear HB; have HO_6 := n0_; have HO_117000 := n1_; have HO_117001 := n2_; have BK101 := n3_; have BK116 := n4_; have HB := n5_; clear n0_ n1_ n2_ n3_ n4_ n5_; (try clear hb); (try clear hb2); (try clear hk); (try clear hi); have hcz49_0 : w48.cell? ⟨gb101, 0, none⟩ = some (.slice A0_0 l0_0.length c0_0) := (blk_cell BK101.out 0).trans rfl; have hcz49_1 : w48.cell? ⟨gb101, 1, none⟩ = some (.slice A0_1 l0_1.length c0_1) := (blk_cell BK101.out 1).trans rfl; have hfz49_0 := blk_frozen BK101.out 0; have hfz49_1 := blk_frozen BK101.out 1) | ((with_reducible refine gate_callee (f := 33) rfl ?_); refine goesL_ (some 60) rfl rfl Try.func33 (by kernel_rfl) rfl #[.agg #[.slice A0_0 l0_0.length c0_0, .slice A0_1 l0_1.length c0_1], .slice A1 l1.length c1] rfl (by (try simp only [List.map_toArray, List.map_cons, List.map_nil]); first | done | rfl | (simp only [List.length_drop, List.length_take]; rfl)) ?_; (with_reducible refine (trishawref02_Potential.calls kj8 _ _ l0_0 _ _ l0_1 _ _ l1 t130 t131 _ ?side1 ?side2 ?side3 ?side4 ?side5 ?side6 A38.out).mono ?_); (case side1 => repeat (first | exact (Kd.C_below HR0_0.out HB.out) | (with_reducible refine Kd.C_alloc ?_ _) | (with_reducible refine Kd.C_drewN ?_ _) | (with_reducible refine Kd.C_drew ?_))); (case side2 => exact HC0_0.out); (case side3 => repeat (first | exact (Kd.C_below HR0_1.out HB.out) | (with_reducible refine Kd.C_alloc ?_ _) | (with_reducible refine Kd.C_drewN ?_ _) | (with_reducible refine Kd.C_drew ?_))); (case side4 => exact HC0_1.out); (case side5 => repeat (first | exact (Kd.C_below HR1.out HB.out) | (with_reducible refine Kd.C_alloc ?_ _) | (with_reducible refine Kd.C_drewN ?_ _) | (with_reducible refine Kd.C_drew ?_))); (case side6 => exact HC1.out); rintro e w50 ⟨rfl, hb⟩; refine ⟨_, rfl, ?_⟩; have n0_ := Aside0.mk (Kd.R_below (by (with_reducible repeat (first | apply Kd.R_alloc | apply Kd.R_drewN | apply Kd.R_drew)); exact HO_6.out) hb); have n1_ := Aside0.mk (Kd.S_below (by (with_reducible repeat (first | apply Kd.S_alloc | apply Kd.S_drewN | apply Kd.S_drew)); exact HO_117000.out) hb); have n2_ := Aside0.mk (Kd.S_below (by (with_reducible repeat (first | apply Kd.S_alloc | apply Kd.S_drewN | apply Kd.S_drew)); exact HO_117001.out) hb); have n3_ := Aside0.mk (blk_below (g := gb101) (o := .cells #[.slice A0_0 l0_0.length c0_0, .slice A0_1 l0_1.length c0_1] 41 (0, 0)) (by (with_reducible repeat (first | refine blk_drewN ?_ _ | refine blk_drew ?_ | refine blk_alloc ?_ _)); exact BK101.out) hb); have n4_ := Aside0.mk (blk_below (g := gb116) (o := .cells #[.slice Ao19 t104.length co19, .slice Ao22 t107.length co22] 41 (0, 0)) (by (with_reducible repeat (first | refine blk_drewN ?_ _ | refine blk_drew ?_ | refine blk_alloc ?_ _)); exact BK116.out) hb); have n5_ := Aside0.mk (below_step (by repeat (first | (with_reducible first | exact HB.out | apply below_alloc | apply pw_below_drewN | apply below_drew1 | refine below_set ?_ GE101.out | refine below_set ?_ GE116.out) | exact HB.out)) hb); clear HO_6; clear HO_117000; clear HO_117001; clear BK101; clear BK116; clear HB; have HO_6 := n0_; have HO_117000 := n1_; have HO_117001 := n2_; have BK101 := n3_; have BK116 := n4_; have HB := n5_; clear n0_ n1_ n2_ n3_ n4_ n5_; (try clear hb); (try clear hb2); (try clear hk); (try clear hi)) | (go_at_call 31; (with_reducible refine (trishawlaw02_same.calls kj8 _ _ y113 _ _ l1 true _ ?side1 ?side2 ?side3 ?side4 A41.out).mono ?_); (case side1 => repeat (first | exact (Kd.R_reads' HO_6.out).2.2 | (with_reducible refine Kd.C_alloc ?_ _) | (with_reducible refine Kd.C_drewN ?_ _) | (with_reducible refine Kd.C_drew ?_))); (case side2 => exact (Kd.R_reads' HO_6.out).2.1); (case side3 => repeat (first | exact (Kd.C_below HR1.out HB.out) | (with_reducible refine Kd.C_alloc ?_ _) | (with_reducible refine Kd.C_drewN ?_ _) | (with_reducible refine Kd.C_drew ?_))); (case side4 => exact HC1.out); rintro e w' ⟨rfl, ⟨nd, rfl⟩⟩; have hcz51_0 : w50.cell? ⟨gb116, 0, none⟩ = some (.slice Ao19 t104.length co19) := (blk_cell BK116.out 0).trans rfl; have hcz51_1 : w50.cell? ⟨gb116, 1, none⟩ = some (.slice Ao22 t107.length co22) := (blk_cell BK116.out 1).trans rfl; have hfz51_0 := blk_frozen BK116.out 0; have hfz51_1 := blk_frozen BK116.out 1; have hcz52_0 : w50.cell? ⟨gb101, 0, none⟩ = some (.slice A0_0 l0_0.length c0_0) := (blk_cell BK101.out 0).trans rfl; have hcz52_1 : w50.cell? ⟨gb101, 1, none⟩ = some (.slice A0_1 l0_1.length c0_1) := (blk_cell BK101.out 1).trans rfl; have hfz52_0 := blk_frozen BK101.out 0; have hfz52_1 := blk_frozen BK101.out 1) | (go_at_call 34; (with_reducible refine (trishawlaw02_unchanged.calls kj8 _ _ t104 _ _ t107 _ _ l0_0 _ _ l0_1 true _ ?side1 ?side2 ?side3 ?side4 ?side5 ?side6 ?side7 ?side8 A43.out).mono ?_); (case side1 => repeat (first | exact (Kd.S_reads' HO_117000.out).2.2 | (with_reducible refine Kd.C_alloc ?_ _) | (with_reducible refine Kd.C_drewN ?_ _) | (with_reducible refine Kd.C_drew ?_))); (case side2 => exact (Kd.S_reads' HO_117000.out).2.1); (case side3 => repeat (first | exact (Kd.S_reads' HO_117001.out).2.2 | (with_reducible refine Kd.C_alloc ?_ _) | (with_reducible refine Kd.C_drewN ?_ _) | (with_reducible refine Kd.C_drew ?_))); (case side4 => exact (Kd.S_reads' HO_117001.out).2.1); (case side5 => repeat (first | exact (Kd.C_below HR0_0.out (by repeat (first | (with_reducible first | exact HB.out | apply below_alloc | apply pw_below_drewN | apply below_drew1 | refine below_set ?_ GE101.out | refine below_set ?_ GE116.out) | exact HB.out))) | (with_reducible refine Kd.C_alloc ?_ _) | (with_reducible refine Kd.C_drewN ?_ _) | (with_reducible refine Kd.C_drew ?_))); (case side6 => exact HC0_0.out); (case side7 => repeat (first | exact (Kd.C_below HR0_1.out (by repeat (first | (with_reducible first | exact HB.out | apply below_alloc | apply pw_below_drewN | apply below_drew1 | refine below_set ?_ GE101.out | refine below_set ?_ GE116.out) | exact HB.out))) | (with_reducible refine Kd.C_alloc ?_ _) | (with_reducible refine Kd.C_drewN ?_ _) | (with_reducible refine Kd.C_drew ?_))); (case side8 => exact HC0_1.out); rintro e w53 ⟨rfl, hb⟩; have n0_ := Aside0.mk (Kd.R_below (by (with_reducible repeat (first | apply Kd.R_alloc | apply Kd.R_drewN | apply Kd.R_drew)); exact HO_6.out) hb); have n1_ := Aside0.mk (Kd.S_below (by (with_reducible repeat (first | apply Kd.S_alloc | apply Kd.S_drewN | apply Kd.S_drew)); exact HO_117000.out) hb); have n2_ := Aside0.mk (Kd.S_below (by (with_reducible repeat (first | apply Kd.S_alloc | apply Kd.S_drewN | apply Kd.S_drew)); exact HO_117001.out) hb); have n3_ := Aside0.mk (blk_below (g := gb101) (o := .cells #[.slice A0_0 l0_0.length c0_0, .slice A0_1 l0_1.length c0_1] 41 (0, 0)) (by (with_reducible repeat (first | refine blk_drewN ?_ _ | refine blk_drew ?_ | refine blk_alloc ?_ _)); exact BK101.out) hb); have n4_ := Aside0.mk (blk_below (g := gb116) (o := .cells #[.slice Ao19 t104.length co19, .slice Ao22 t107.length co22] 41 (0, 0)) (by (with_reducible repeat (first | refine blk_drewN ?_ _ | refine blk_drew ?_ | refine blk_alloc ?_ _)); exact BK116.out) hb); have n5_ := Aside0.mk (below_step (by repeat (first | (with_reducible first | exact HB.out | apply below_alloc | apply pw_below_drewN | apply below_drew1 | refine below_set ?_ GE101.out | refine below_set ?_ GE116.out) | exact HB.out)) hb); clear HO_6; clear HO_117000; clear HO_117001; clear BK101; clear BK116; clear HB; have HO_6 := n0_; have HO_117000 := n1_; have HO_117001 := n2_; have BK101 := n3_; have BK116 := n4_; have HB := n5_; clear n0_ n1_ n2_ n3_ n4_ n5_; (try clear hb); (try clear hb2); (try clear hk); (try clear hi)) | (go_at_call 16; (with_reducible refine (trishawlaw02_alive.calls kj8  t134 _ A45.out).mono ?_); rintro e w54 ⟨rfl, hb⟩; have n0_ := Aside0.mk (Kd.R_below (by (with_reducible repeat (first | apply Kd.R_alloc | apply Kd.R_drewN | apply Kd.R_drew)); exact HO_6.out) hb); have n1_ := Aside0.mk (Kd.S_below (by (with_reducible repeat (first | apply Kd.S_alloc | apply Kd.S_drewN | apply Kd.S_drew)); exact HO_117000.out) hb); have n2_ := Aside0.mk (Kd.S_below (by (with_reducible repeat (first | apply Kd.S_alloc | apply Kd.S_drewN | apply Kd.S_drew)); exact HO_117001.out) hb); have n3_ := Aside0.mk (blk_below (g := gb101) (o := .cells #[.slice A0_0 l0_0.length c0_0, .slice A0_1 l0_1.length c0_1] 41 (0, 0)) (by (with_reducible repeat (first | refine blk_drewN ?_ _ | refine blk_drew ?_ | refine blk_alloc ?_ _)); exact BK101.out) hb); have n4_ := Aside0.mk (blk_below (g := gb116) (o := .cells #[.slice Ao19 t104.length co19, .slice Ao22 t107.length co22] 41 (0, 0)) (by (with_reducible repeat (first | refine blk_drewN ?_ _ | refine blk_drew ?_ | refine blk_alloc ?_ _)); exact BK116.out) hb); have n5_ := Aside0.mk (below_step (by repeat (first | (with_reducible first | exact HB.out | apply below_alloc | apply pw_below_drewN | apply below_drew1 | refine below_set ?_ GE101.out | refine below_set ?_ GE116.out) | exact HB.out)) hb); clear HO_6; clear HO_117000; clear HO_117001; clear BK101; clear BK116; clear HB; have HO_6 := n0_; have HO_117000 := n1_; have HO_117001 := n2_; have BK101 := n3_; have BK116 := n4_; have HB := n5_; clear n0_ n1_ n2_ n3_ n4_ n5_; (try clear hb); (try clear hb2); (try clear hk); (try clear hi)))
          go_ret
          exact ⟨by first | rfl | (simp [errW_none, errW_some] <;> rfl) | (simp [*, errW_none, errW_some] <;> rfl), by repeat (first | (with_reducible first | exact HB.out | apply below_alloc | apply pw_below_drewN | apply below_drew1 | refine below_set ?_ GE101.out | refine below_set ?_ GE116.out) | exact HB.out)⟩
         ·replace c44 := Bool.eq_false_iff.mpr c44
          subst c44
          have H1 : (some false) = some r := by rw [if_neg (show ¬ (false = true) by decide)] at H; exact H
          clear H
          have H := H1
          clear H1
          obtain rfl := Option.some.inj H
          have hnb55 := NB116_101.out
          have hnc55 := NB101_116.out
          have hcz56_0 : wc.cell? ⟨gb116, 0, none⟩ = some (.slice Ao19 t104.length co19) := (blk_cell BK116.out 0).trans rfl
          have hcz56_1 : wc.cell? ⟨gb116, 1, none⟩ = some (.slice Ao22 t107.length co22) := (blk_cell BK116.out 1).trans rfl
          have hfz56_0 := blk_frozen BK116.out 0
          have hfz56_1 := blk_frozen BK116.out 1
          go_wp2_with (first | ((with_reducible refine gate_callee (f := 32) rfl ?_); refine goesL_ (some 54) rfl rfl Try.func32 (by kernel_rfl) rfl #[.agg #[.slice Ao19 t104.length co19, .slice Ao22 t107.length co22], .slice Ao23 y113.length co23] rfl (by (try simp only [List.map_toArray, List.map_cons, List.map_nil]); first | done | rfl | (simp only [List.length_drop, List.length_take]; rfl)) ?_; (with_reducible refine (jam_Potential.calls kj8 _ _ t104 _ _ t107 _ _ y113 t128 t129 _ ?side1 ?side2 ?side3 ?side4 ?side5 ?side6 A37.out).mono ?_); (case side1 => repeat (first | exact (Kd.S_reads' HO_117000.out).2.2 | (with_reducible refine Kd.C_alloc ?_ _) | (with_reducible refine Kd.C_drewN ?_ _) | (with_reducible refine Kd.C_drew ?_))); (case side2 => exact (Kd.S_reads' HO_117000.out).2.1); (case side3 => repeat (first | exact (Kd.S_reads' HO_117001.out).2.2 | (with_reducible refine Kd.C_alloc ?_ _) | (with_reducible refine Kd.C_drewN ?_ _) | (with_reducible refine Kd.C_drew ?_))); (case side4 => exact (Kd.S_reads' HO_117001.out).2.1); (case side5 => repeat (first | exact (Kd.R_reads' HO_6.out).2.2 | (with_reducible refine Kd.C_alloc ?_ _) | (with_reducible refine Kd.C_drewN ?_ _) | (with_reducible refine Kd.C_drew ?_))); (case side6 => exact (Kd.R_reads' HO_6.out).2.1); rintro e w57 ⟨rfl, hb⟩; refine ⟨_, rfl, ?_⟩; have n0_ := Aside0.mk (Kd.R_below (by (with_reducible repeat (first | apply Kd.R_alloc | apply Kd.R_drewN | apply Kd.R_drew)); exact HO_6.out) hb); have n1_ := Aside0.mk (Kd.S_below (by (with_reducible repeat (first | apply Kd.S_alloc | apply Kd.S_drewN | apply Kd.S_drew)); exact HO_117000.out) hb); have n2_ := Aside0.mk (Kd.S_below (by (with_reducible repeat (first | apply Kd.S_alloc | apply Kd.S_drewN | apply Kd.S_drew)); exact HO_117001.out) hb); have n3_ := Aside0.mk (blk_below (g := gb101) (o := .cells #[.slice A0_0 l0_0.length c0_0, .slice A0_1 l0_1.length c0_1] 41 (0, 0)) (by (with_reducible repeat (first | refine blk_drewN ?_ _ | refine blk_drew ?_ | refine blk_alloc ?_ _)); exact BK101.out) hb); have n4_ := Aside0.mk (blk_below (g := gb116) (o := .cells #[.slice Ao19 t104.length co19, .slice Ao22 t107.length co22] 41 (0, 0)) (by (with_reducible repeat (first | refine blk_drewN ?_ _ | refine blk_drew ?_ | refine blk_alloc ?_ _)); exact BK116.out) hb); have n5_ := Aside0.mk (below_step (by repeat (first | (with_reducible first | exact HB.out | apply below_alloc | apply pw_below_drewN | apply below_drew1 | refine below_set ?_ GE101.out | refine below_set ?_ GE116.out) | exact HB.out)) hb); clear HO_6; clear HO_117000; clear HO_117001; clear BK101; clear BK116; clear HB; have HO_6 := n0_; have HO_117000 := n1_; have HO_117001 := n2_; have BK101 := n3_; have BK116 := n4_; have HB := n5_; clear n0_ n1_ n2_ n3_ n4_ n5_; (try clear hb); (try clear hb2); (try clear hk); (try clear hi); have hcz58_0 : w57.cell? ⟨gb101, 0, none⟩ = some (.slice A0_0 l0_0.length c0_0) := (blk_cell BK101.out 0).trans rfl; have hcz58_1 : w57.cell? ⟨gb101, 1, none⟩ = some (.slice A0_1 l0_1.length c0_1) := (blk_cell BK101.out 1).trans rfl; have hfz58_0 := blk_frozen BK101.out 0; have hfz58_1 := blk_frozen BK101.out 1) | ((with_reducible refine gate_callee (f := 33) rfl ?_); refine goesL_ (some 60) rfl rfl Try.func33 (by kernel_rfl) rfl #[.agg #[.slice A0_0 l0_0.length c0_0, .slice A0_1 l0_1.length c0_1], .slice A1 l1.length c1] rfl (by (try simp only [List.map_toArray, List.map_cons, List.map_nil]); first | done | rfl | (simp only [List.length_drop, List.length_take]; rfl)) ?_; (with_reducible refine (trishawref02_Potential.calls kj8 _ _ l0_0 _ _ l0_1 _ _ l1 t130 t131 _ ?side1 ?side2 ?side3 ?side4 ?side5 ?side6 A38.out).mono ?_); (case side1 => repeat (first | exact (Kd.C_below HR0_0.out HB.out) | (with_reducible refine Kd.C_alloc ?_ _) | (with_reducible refine Kd.C_drewN ?_ _) | (with_reducible refine Kd.C_drew ?_))); (case side2 => exact HC0_0.out); (case side3 => repeat (first | exact (Kd.C_below HR0_1.out HB.out) | (with_reducible refine Kd.C_alloc ?_ _) | (with_reducible refine Kd.C_drewN ?_ _) | (with_reducible refine Kd.C_drew ?_))); (case side4 => exact HC0_1.out); (case side5 => repeat (first | exact (Kd.C_below HR1.out HB.out) | (with_reducible refine Kd.C_alloc ?_ _) | (with_reducible refine Kd.C_drewN ?_ _) | (with_reducible refine Kd.C_drew ?_))); (case side6 => exact HC1.out); rintro e w59 ⟨rfl, hb⟩; refine ⟨_, rfl, ?_⟩; have n0_ := Aside0.mk (Kd.R_below (by (with_reducible repeat (first | apply Kd.R_alloc | apply Kd.R_drewN | apply Kd.R_drew)); exact HO_6.out) hb); have n1_ := Aside0.mk (Kd.S_below (by (with_reducible repeat (first | apply Kd.S_alloc | apply Kd.S_drewN | apply Kd.S_drew)); exact HO_117000.out) hb); have n2_ := Aside0.mk (Kd.S_below (by (with_reducible repeat (first | apply Kd.S_alloc | apply Kd.S_drewN | apply Kd.S_drew)); exact HO_117001.out) hb); have n3_ := Aside0.mk (blk_below (g := gb101) (o := .cells #[.slice A0_0 l0_0.length c0_0, .slice A0_1 l0_1.length c0_1] 41 (0, 0)) (by (with_reducible repeat (first | refine blk_drewN ?_ _ | refine blk_drew ?_ | refine blk_alloc ?_ _)); exact BK101.out) hb); have n4_ := Aside0.mk (blk_below (g := gb116) (o := .cells #[.slice Ao19 t104.length co19, .slice Ao22 t107.length co22] 41 (0, 0)) (by (with_reducible repeat (first | refine blk_drewN ?_ _ | refine blk_drew ?_ | refine blk_alloc ?_ _)); exact BK116.out) hb); have n5_ := Aside0.mk (below_step (by repeat (first | (with_reducible first | exact HB.out | apply below_alloc | apply pw_below_drewN | apply below_drew1 | refine below_set ?_ GE101.out | refine below_set ?_ GE116.out) | exact HB.out)) hb); clear HO_6; clear HO_117000; clear HO_117001; clear BK101; clear BK116; clear HB; have HO_6 := n0_; have HO_117000 := n1_; have HO_117001 := n2_; have BK101 := n3_; have BK116 := n4_; have HB := n5_; clear n0_ n1_ n2_ n3_ n4_ n5_; (try clear hb); (try clear hb2); (try clear hk); (try clear hi)) | (go_at_call 31; (with_reducible refine (trishawlaw02_same.calls kj8 _ _ y113 _ _ l1 true _ ?side1 ?side2 ?side3 ?side4 A41.out).mono ?_); (case side1 => repeat (first | exact (Kd.R_reads' HO_6.out).2.2 | (with_reducible refine Kd.C_alloc ?_ _) | (with_reducible refine Kd.C_drewN ?_ _) | (with_reducible refine Kd.C_drew ?_))); (case side2 => exact (Kd.R_reads' HO_6.out).2.1); (case side3 => repeat (first | exact (Kd.C_below HR1.out HB.out) | (with_reducible refine Kd.C_alloc ?_ _) | (with_reducible refine Kd.C_drewN ?_ _) | (with_reducible refine Kd.C_drew ?_))); (case side4 => exact HC1.out); rintro e w' ⟨rfl, ⟨nd, rfl⟩⟩; have hcz60_0 : w59.cell? ⟨gb116, 0, none⟩ = some (.slice Ao19 t104.length co19) := (blk_cell BK116.out 0).trans rfl; have hcz60_1 : w59.cell? ⟨gb116, 1, none⟩ = some (.slice Ao22 t107.length co22) := (blk_cell BK116.out 1).trans rfl; have hfz60_0 := blk_frozen BK116.out 0; have hfz60_1 := blk_frozen BK116.out 1; have hcz61_0 : w59.cell? ⟨gb101, 0, none⟩ = some (.slice A0_0 l0_0.length c0_0) := (blk_cell BK101.out 0).trans rfl; have hcz61_1 : w59.cell? ⟨gb101, 1, none⟩ = some (.slice A0_1 l0_1.length c0_1) := (blk_cell BK101.out 1).trans rfl; have hfz61_0 := blk_frozen BK101.out 0; have hfz61_1 := blk_frozen BK101.out 1) | (go_at_call 34; (with_reducible refine (trishawlaw02_unchanged.calls kj8 _ _ t104 _ _ t107 _ _ l0_0 _ _ l0_1 false _ ?side1 ?side2 ?side3 ?side4 ?side5 ?side6 ?side7 ?side8 A43.out).mono ?_); (case side1 => repeat (first | exact (Kd.S_reads' HO_117000.out).2.2 | (with_reducible refine Kd.C_alloc ?_ _) | (with_reducible refine Kd.C_drewN ?_ _) | (with_reducible refine Kd.C_drew ?_))); (case side2 => exact (Kd.S_reads' HO_117000.out).2.1); (case side3 => repeat (first | exact (Kd.S_reads' HO_117001.out).2.2 | (with_reducible refine Kd.C_alloc ?_ _) | (with_reducible refine Kd.C_drewN ?_ _) | (with_reducible refine Kd.C_drew ?_))); (case side4 => exact (Kd.S_reads' HO_117001.out).2.1); (case side5 => repeat (first | exact (Kd.C_below HR0_0.out (by repeat (first | (with_reducible first | exact HB.out | apply below_alloc | apply pw_below_drewN | apply below_drew1 | refine below_set ?_ GE101.out | refine below_set ?_ GE116.out) | exact HB.out))) | (with_reducible refine Kd.C_alloc ?_ _) | (with_reducible refine Kd.C_drewN ?_ _) | (with_reducible refine Kd.C_drew ?_))); (case side6 => exact HC0_0.out); (case side7 => repeat (first | exact (Kd.C_below HR0_1.out (by repeat (first | (with_reducible first | exact HB.out | apply below_alloc | apply pw_below_drewN | apply below_drew1 | refine below_set ?_ GE101.out | refine below_set ?_ GE116.out) | exact HB.out))) | (with_reducible refine Kd.C_alloc ?_ _) | (with_reducible refine Kd.C_drewN ?_ _) | (with_reducible refine Kd.C_drew ?_))); (case side8 => exact HC0_1.out); rintro e w62 ⟨rfl, hb⟩; have n0_ := Aside0.mk (Kd.R_below (by (with_reducible repeat (first | apply Kd.R_alloc | apply Kd.R_drewN | apply Kd.R_drew)); exact HO_6.out) hb); have n1_ := Aside0.mk (Kd.S_below (by (with_reducible repeat (first | apply Kd.S_alloc | apply Kd.S_drewN | apply Kd.S_drew)); exact HO_117000.out) hb); have n2_ := Aside0.mk (Kd.S_below (by (with_reducible repeat (first | apply Kd.S_alloc | apply Kd.S_drewN | apply Kd.S_drew)); exact HO_117001.out) hb); have n3_ := Aside0.mk (blk_below (g := gb101) (o := .cells #[.slice A0_0 l0_0.length c0_0, .slice A0_1 l0_1.length c0_1] 41 (0, 0)) (by (with_reducible repeat (first | refine blk_drewN ?_ _ | refine blk_drew ?_ | refine blk_alloc ?_ _)); exact BK101.out) hb); have n4_ := Aside0.mk (blk_below (g := gb116) (o := .cells #[.slice Ao19 t104.length co19, .slice Ao22 t107.length co22] 41 (0, 0)) (by (with_reducible repeat (first | refine blk_drewN ?_ _ | refine blk_drew ?_ | refine blk_alloc ?_ _)); exact BK116.out) hb); have n5_ := Aside0.mk (below_step (by repeat (first | (with_reducible first | exact HB.out | apply below_alloc | apply pw_below_drewN | apply below_drew1 | refine below_set ?_ GE101.out | refine below_set ?_ GE116.out) | exact HB.out)) hb); clear HO_6; clear HO_117000; clear HO_117001; clear BK101; clear BK116; clear HB; have HO_6 := n0_; have HO_117000 := n1_; have HO_117001 := n2_; have BK101 := n3_; have BK116 := n4_; have HB := n5_; clear n0_ n1_ n2_ n3_ n4_ n5_; (try clear hb); (try clear hb2); (try clear hk); (try clear hi)))
          go_ret
          exact ⟨by first | rfl | (simp [errW_none, errW_some] <;> rfl) | (simp [*, errW_none, errW_some] <;> rfl), by repeat (first | (with_reducible first | exact HB.out | apply below_alloc | apply pw_below_drewN | apply below_drew1 | refine below_set ?_ GE101.out | refine below_set ?_ GE116.out) | exact HB.out)⟩
        ·replace c42 := Bool.eq_false_iff.mpr c42
         subst c42
         have H1 : (some false) = some r := by rw [if_neg (show ¬ (false = true) by decide)] at H; exact H
         clear H
         have H := H1
         clear H1
         obtain rfl := Option.some.inj H
         have hnb63 := NB116_101.out
         have hnc63 := NB101_116.out
         have hcz64_0 : wc.cell? ⟨gb116, 0, none⟩ = some (.slice Ao19 t104.length co19) := (blk_cell BK116.out 0).trans rfl
         have hcz64_1 : wc.cell? ⟨gb116, 1, none⟩ = some (.slice Ao22 t107.length co22) := (blk_cell BK116.out 1).trans rfl
         have hfz64_0 := blk_frozen BK116.out 0
         have hfz64_1 := blk_frozen BK116.out 1
         go_wp2_with (first | ((with_reducible refine gate_callee (f := 32) rfl ?_); refine goesL_ (some 54) rfl rfl Try.func32 (by kernel_rfl) rfl #[.agg #[.slice Ao19 t104.length co19, .slice Ao22 t107.length co22], .slice Ao23 y113.length co23] rfl (by (try simp only [List.map_toArray, List.map_cons, List.map_nil]); first | done | rfl | (simp only [List.length_drop, List.length_take]; rfl)) ?_; (with_reducible refine (jam_Potential.calls kj8 _ _ t104 _ _ t107 _ _ y113 t128 t129 _ ?side1 ?side2 ?side3 ?side4 ?side5 ?side6 A37.out).mono ?_); (case side1 => repeat (first | exact (Kd.S_reads' HO_117000.out).2.2 | (with_reducible refine Kd.C_alloc ?_ _) | (with_reducible refine Kd.C_drewN ?_ _) | (with_reducible refine Kd.C_drew ?_))); (case side2 => exact (Kd.S_reads' HO_117000.out).2.1); (case side3 => repeat (first | exact (Kd.S_reads' HO_117001.out).2.2 | (with_reducible refine Kd.C_alloc ?_ _) | (with_reducible refine Kd.C_drewN ?_ _) | (with_reducible refine Kd.C_drew ?_))); (case side4 => exact (Kd.S_reads' HO_117001.out).2.1); (case side5 => repeat (first | exact (Kd.R_reads' HO_6.out).2.2 | (with_reducible refine Kd.C_alloc ?_ _) | (with_reducible refine Kd.C_drewN ?_ _) | (with_reducible refine Kd.C_drew ?_))); (case side6 => exact (Kd.R_reads' HO_6.out).2.1); rintro e w65 ⟨rfl, hb⟩; refine ⟨_, rfl, ?_⟩; have n0_ := Aside0.mk (Kd.R_below (by (with_reducible repeat (first | apply Kd.R_alloc | apply Kd.R_drewN | apply Kd.R_drew)); exact HO_6.out) hb); have n1_ := Aside0.mk (Kd.S_below (by (with_reducible repeat (first | apply Kd.S_alloc | apply Kd.S_drewN | apply Kd.S_drew)); exact HO_117000.out) hb); have n2_ := Aside0.mk (Kd.S_below (by (with_reducible repeat (first | apply Kd.S_alloc | apply Kd.S_drewN | apply Kd.S_drew)); exact HO_117001.out) hb); have n3_ := Aside0.mk (blk_below (g := gb101) (o := .cells #[.slice A0_0 l0_0.length c0_0, .slice A0_1 l0_1.length c0_1] 41 (0, 0)) (by (with_reducible repeat (first | refine blk_drewN ?_ _ | refine blk_drew ?_ | refine blk_alloc ?_ _)); exact BK101.out) hb); have n4_ := Aside0.mk (blk_below (g := gb116) (o := .cells #[.slice Ao19 t104.length co19, .slice Ao22 t107.length co22] 41 (0, 0)) (by (with_reducible repeat (first | refine blk_drewN ?_ _ | refine blk_drew ?_ | refine blk_alloc ?_ _)); exact BK116.out) hb); have n5_ := Aside0.mk (below_step (by repeat (first | (with_reducible first | exact HB.out | apply below_alloc | apply pw_below_drewN | apply below_drew1 | refine below_set ?_ GE101.out | refine below_set ?_ GE116.out) | exact HB.out)) hb); clear HO_6; clear HO_117000; clear HO_117001; clear BK101; clear BK116; clear HB; have HO_6 := n0_; have HO_117000 := n1_; have HO_117001 := n2_; have BK101 := n3_; have BK116 := n4_; have HB := n5_; clear n0_ n1_ n2_ n3_ n4_ n5_; (try clear hb); (try clear hb2); (try clear hk); (try clear hi); have hcz66_0 : w65.cell? ⟨gb101, 0, none⟩ = some (.slice A0_0 l0_0.length c0_0) := (blk_cell BK101.out 0).trans rfl; have hcz66_1 : w65.cell? ⟨gb101, 1, none⟩ = some (.slice A0_1 l0_1.length c0_1) := (blk_cell BK101.out 1).trans rfl; have hfz66_0 := blk_frozen BK101.out 0; have hfz66_1 := blk_frozen BK101.out 1) | ((with_reducible refine gate_callee (f := 33) rfl ?_); refine goesL_ (some 60) rfl rfl Try.func33 (by kernel_rfl) rfl #[.agg #[.slice A0_0 l0_0.length c0_0, .slice A0_1 l0_1.length c0_1], .slice A1 l1.length c1] rfl (by (try simp only [List.map_toArray, List.map_cons, List.map_nil]); first | done | rfl | (simp only [List.length_drop, List.length_take]; rfl)) ?_; (with_reducible refine (trishawref02_Potential.calls kj8 _ _ l0_0 _ _ l0_1 _ _ l1 t130 t131 _ ?side1 ?side2 ?side3 ?side4 ?side5 ?side6 A38.out).mono ?_); (case side1 => repeat (first | exact (Kd.C_below HR0_0.out HB.out) | (with_reducible refine Kd.C_alloc ?_ _) | (with_reducible refine Kd.C_drewN ?_ _) | (with_reducible refine Kd.C_drew ?_))); (case side2 => exact HC0_0.out); (case side3 => repeat (first | exact (Kd.C_below HR0_1.out HB.out) | (with_reducible refine Kd.C_alloc ?_ _) | (with_reducible refine Kd.C_drewN ?_ _) | (with_reducible refine Kd.C_drew ?_))); (case side4 => exact HC0_1.out); (case side5 => repeat (first | exact (Kd.C_below HR1.out HB.out) | (with_reducible refine Kd.C_alloc ?_ _) | (with_reducible refine Kd.C_drewN ?_ _) | (with_reducible refine Kd.C_drew ?_))); (case side6 => exact HC1.out); rintro e w67 ⟨rfl, hb⟩; refine ⟨_, rfl, ?_⟩; have n0_ := Aside0.mk (Kd.R_below (by (with_reducible repeat (first | apply Kd.R_alloc | apply Kd.R_drewN | apply Kd.R_drew)); exact HO_6.out) hb); have n1_ := Aside0.mk (Kd.S_below (by (with_reducible repeat (first | apply Kd.S_alloc | apply Kd.S_drewN | apply Kd.S_drew)); exact HO_117000.out) hb); have n2_ := Aside0.mk (Kd.S_below (by (with_reducible repeat (first | apply Kd.S_alloc | apply Kd.S_drewN | apply Kd.S_drew)); exact HO_117001.out) hb); have n3_ := Aside0.mk (blk_below (g := gb101) (o := .cells #[.slice A0_0 l0_0.length c0_0, .slice A0_1 l0_1.length c0_1] 41 (0, 0)) (by (with_reducible repeat (first | refine blk_drewN ?_ _ | refine blk_drew ?_ | refine blk_alloc ?_ _)); exact BK101.out) hb); have n4_ := Aside0.mk (blk_below (g := gb116) (o := .cells #[.slice Ao19 t104.length co19, .slice Ao22 t107.length co22] 41 (0, 0)) (by (with_reducible repeat (first | refine blk_drewN ?_ _ | refine blk_drew ?_ | refine blk_alloc ?_ _)); exact BK116.out) hb); have n5_ := Aside0.mk (below_step (by repeat (first | (with_reducible first | exact HB.out | apply below_alloc | apply pw_below_drewN | apply below_drew1 | refine below_set ?_ GE101.out | refine below_set ?_ GE116.out) | exact HB.out)) hb); clear HO_6; clear HO_117000; clear HO_117001; clear BK101; clear BK116; clear HB; have HO_6 := n0_; have HO_117000 := n1_; have HO_117001 := n2_; have BK101 := n3_; have BK116 := n4_; have HB := n5_; clear n0_ n1_ n2_ n3_ n4_ n5_; (try clear hb); (try clear hb2); (try clear hk); (try clear hi)) | (go_at_call 31; (with_reducible refine (trishawlaw02_same.calls kj8 _ _ y113 _ _ l1 false _ ?side1 ?side2 ?side3 ?side4 A41.out).mono ?_); (case side1 => repeat (first | exact (Kd.R_reads' HO_6.out).2.2 | (with_reducible refine Kd.C_alloc ?_ _) | (with_reducible refine Kd.C_drewN ?_ _) | (with_reducible refine Kd.C_drew ?_))); (case side2 => exact (Kd.R_reads' HO_6.out).2.1); (case side3 => repeat (first | exact (Kd.C_below HR1.out HB.out) | (with_reducible refine Kd.C_alloc ?_ _) | (with_reducible refine Kd.C_drewN ?_ _) | (with_reducible refine Kd.C_drew ?_))); (case side4 => exact HC1.out); rintro e w' ⟨rfl, ⟨nd, rfl⟩⟩))
         go_ret
         exact ⟨by first | rfl | (simp [errW_none, errW_some] <;> rfl) | (simp [*, errW_none, errW_some] <;> rfl), by repeat (first | (with_reducible first | exact HB.out | apply below_alloc | apply pw_below_drewN | apply below_drew1 | refine below_set ?_ GE101.out | refine below_set ?_ GE116.out) | exact HB.out)⟩
       ·rw [if_neg c40] at H
        have c40b0 : (t129 == t131) = false := beq_eq_false_iff_ne.mpr c40
        have c40b1 : (t129 != t131) = true := bne_iff_ne.mpr c40
        obtain rfl := Option.some.inj H
        have hnb68 := NB116_101.out
        have hnc68 := NB101_116.out
        have hcz69_0 : wc.cell? ⟨gb116, 0, none⟩ = some (.slice Ao19 t104.length co19) := (blk_cell BK116.out 0).trans rfl
        have hcz69_1 : wc.cell? ⟨gb116, 1, none⟩ = some (.slice Ao22 t107.length co22) := (blk_cell BK116.out 1).trans rfl
        have hfz69_0 := blk_frozen BK116.out 0
        have hfz69_1 := blk_frozen BK116.out 1
        go_wp2_with (first | ((with_reducible refine gate_callee (f := 32) rfl ?_); refine goesL_ (some 54) rfl rfl Try.func32 (by kernel_rfl) rfl #[.agg #[.slice Ao19 t104.length co19, .slice Ao22 t107.length co22], .slice Ao23 y113.length co23] rfl (by (try simp only [List.map_toArray, List.map_cons, List.map_nil]); first | done | rfl | (simp only [List.length_drop, List.length_take]; rfl)) ?_; (with_reducible refine (jam_Potential.calls kj8 _ _ t104 _ _ t107 _ _ y113 t128 t129 _ ?side1 ?side2 ?side3 ?side4 ?side5 ?side6 A37.out).mono ?_); (case side1 => repeat (first | exact (Kd.S_reads' HO_117000.out).2.2 | (with_reducible refine Kd.C_alloc ?_ _) | (with_reducible refine Kd.C_drewN ?_ _) | (with_reducible refine Kd.C_drew ?_))); (case side2 => exact (Kd.S_reads' HO_117000.out).2.1); (case side3 => repeat (first | exact (Kd.S_reads' HO_117001.out).2.2 | (with_reducible refine Kd.C_alloc ?_ _) | (with_reducible refine Kd.C_drewN ?_ _) | (with_reducible refine Kd.C_drew ?_))); (case side4 => exact (Kd.S_reads' HO_117001.out).2.1); (case side5 => repeat (first | exact (Kd.R_reads' HO_6.out).2.2 | (with_reducible refine Kd.C_alloc ?_ _) | (with_reducible refine Kd.C_drewN ?_ _) | (with_reducible refine Kd.C_drew ?_))); (case side6 => exact (Kd.R_reads' HO_6.out).2.1); rintro e w70 ⟨rfl, hb⟩; refine ⟨_, rfl, ?_⟩; have n0_ := Aside0.mk (Kd.R_below (by (with_reducible repeat (first | apply Kd.R_alloc | apply Kd.R_drewN | apply Kd.R_drew)); exact HO_6.out) hb); have n1_ := Aside0.mk (Kd.S_below (by (with_reducible repeat (first | apply Kd.S_alloc | apply Kd.S_drewN | apply Kd.S_drew)); exact HO_117000.out) hb); have n2_ := Aside0.mk (Kd.S_below (by (with_reducible repeat (first | apply Kd.S_alloc | apply Kd.S_drewN | apply Kd.S_drew)); exact HO_117001.out) hb); have n3_ := Aside0.mk (blk_below (g := gb101) (o := .cells #[.slice A0_0 l0_0.length c0_0, .slice A0_1 l0_1.length c0_1] 41 (0, 0)) (by (with_reducible repeat (first | refine blk_drewN ?_ _ | refine blk_drew ?_ | refine blk_alloc ?_ _)); exact BK101.out) hb); have n4_ := Aside0.mk (blk_below (g := gb116) (o := .cells #[.slice Ao19 t104.length co19, .slice Ao22 t107.length co22] 41 (0, 0)) (by (with_reducible repeat (first | refine blk_drewN ?_ _ | refine blk_drew ?_ | refine blk_alloc ?_ _)); exact BK116.out) hb); have n5_ := Aside0.mk (below_step (by repeat (first | (with_reducible first | exact HB.out | apply below_alloc | apply pw_below_drewN | apply below_drew1 | refine below_set ?_ GE101.out | refine below_set ?_ GE116.out) | exact HB.out)) hb); clear HO_6; clear HO_117000; clear HO_117001; clear BK101; clear BK116; clear HB; have HO_6 := n0_; have HO_117000 := n1_; have HO_117001 := n2_; have BK101 := n3_; have BK116 := n4_; have HB := n5_; clear n0_ n1_ n2_ n3_ n4_ n5_; (try clear hb); (try clear hb2); (try clear hk); (try clear hi); have hcz71_0 : w70.cell? ⟨gb101, 0, none⟩ = some (.slice A0_0 l0_0.length c0_0) := (blk_cell BK101.out 0).trans rfl; have hcz71_1 : w70.cell? ⟨gb101, 1, none⟩ = some (.slice A0_1 l0_1.length c0_1) := (blk_cell BK101.out 1).trans rfl; have hfz71_0 := blk_frozen BK101.out 0; have hfz71_1 := blk_frozen BK101.out 1) | ((with_reducible refine gate_callee (f := 33) rfl ?_); refine goesL_ (some 60) rfl rfl Try.func33 (by kernel_rfl) rfl #[.agg #[.slice A0_0 l0_0.length c0_0, .slice A0_1 l0_1.length c0_1], .slice A1 l1.length c1] rfl (by (try simp only [List.map_toArray, List.map_cons, List.map_nil]); first | done | rfl | (simp only [List.length_drop, List.length_take]; rfl)) ?_; (with_reducible refine (trishawref02_Potential.calls kj8 _ _ l0_0 _ _ l0_1 _ _ l1 t130 t131 _ ?side1 ?side2 ?side3 ?side4 ?side5 ?side6 A38.out).mono ?_); (case side1 => repeat (first | exact (Kd.C_below HR0_0.out HB.out) | (with_reducible refine Kd.C_alloc ?_ _) | (with_reducible refine Kd.C_drewN ?_ _) | (with_reducible refine Kd.C_drew ?_))); (case side2 => exact HC0_0.out); (case side3 => repeat (first | exact (Kd.C_below HR0_1.out HB.out) | (with_reducible refine Kd.C_alloc ?_ _) | (with_reducible refine Kd.C_drewN ?_ _) | (with_reducible refine Kd.C_drew ?_))); (case side4 => exact HC0_1.out); (case side5 => repeat (first | exact (Kd.C_below HR1.out HB.out) | (with_reducible refine Kd.C_alloc ?_ _) | (with_reducible refine Kd.C_drewN ?_ _) | (with_reducible refine Kd.C_drew ?_))); (case side6 => exact HC1.out); rintro e w72 ⟨rfl, hb⟩; refine ⟨_, rfl, ?_⟩; have n0_ := Aside0.mk (Kd.R_below (by (with_reducible repeat (first | apply Kd.R_alloc | apply Kd.R_drewN | apply Kd.R_drew)); exact HO_6.out) hb); have n1_ := Aside0.mk (Kd.S_below (by (with_reducible repeat (first | apply Kd.S_alloc | apply Kd.S_drewN | apply Kd.S_drew)); exact HO_117000.out) hb); have n2_ := Aside0.mk (Kd.S_below (by (with_reducible repeat (first | apply Kd.S_alloc | apply Kd.S_drewN | apply Kd.S_drew)); exact HO_117001.out) hb); have n3_ := Aside0.mk (blk_below (g := gb101) (o := .cells #[.slice A0_0 l0_0.length c0_0, .slice A0_1 l0_1.length c0_1] 41 (0, 0)) (by (with_reducible repeat (first | refine blk_drewN ?_ _ | refine blk_drew ?_ | refine blk_alloc ?_ _)); exact BK101.out) hb); have n4_ := Aside0.mk (blk_below (g := gb116) (o := .cells #[.slice Ao19 t104.length co19, .slice Ao22 t107.length co22] 41 (0, 0)) (by (with_reducible repeat (first | refine blk_drewN ?_ _ | refine blk_drew ?_ | refine blk_alloc ?_ _)); exact BK116.out) hb); have n5_ := Aside0.mk (below_step (by repeat (first | (with_reducible first | exact HB.out | apply below_alloc | apply pw_below_drewN | apply below_drew1 | refine below_set ?_ GE101.out | refine below_set ?_ GE116.out) | exact HB.out)) hb); clear HO_6; clear HO_117000; clear HO_117001; clear BK101; clear BK116; clear HB; have HO_6 := n0_; have HO_117000 := n1_; have HO_117001 := n2_; have BK101 := n3_; have BK116 := n4_; have HB := n5_; clear n0_ n1_ n2_ n3_ n4_ n5_; (try clear hb); (try clear hb2); (try clear hk); (try clear hi)))
        go_ret
        exact ⟨by first | rfl | (simp [errW_none, errW_some] <;> rfl) | (simp [*, errW_none, errW_some] <;> rfl), by repeat (first | (with_reducible first | exact HB.out | apply below_alloc | apply pw_below_drewN | apply below_drew1 | refine below_set ?_ GE101.out | refine below_set ?_ GE116.out) | exact HB.out)⟩
      ·rw [if_neg c39] at H
       have c39b0 : (t128 == t130) = false := beq_eq_false_iff_ne.mpr c39
       have c39b1 : (t128 != t130) = true := bne_iff_ne.mpr c39
       obtain rfl := Option.some.inj H
       have hnb73 := NB116_101.out
       have hnc73 := NB101_116.out
       have hcz74_0 : wc.cell? ⟨gb116, 0, none⟩ = some (.slice Ao19 t104.length co19) := (blk_cell BK116.out 0).trans rfl
       have hcz74_1 : wc.cell? ⟨gb116, 1, none⟩ = some (.slice Ao22 t107.length co22) := (blk_cell BK116.out 1).trans rfl
       have hfz74_0 := blk_frozen BK116.out 0
       have hfz74_1 := blk_frozen BK116.out 1
       go_wp2_with (first | ((with_reducible refine gate_callee (f := 32) rfl ?_); refine goesL_ (some 54) rfl rfl Try.func32 (by kernel_rfl) rfl #[.agg #[.slice Ao19 t104.length co19, .slice Ao22 t107.length co22], .slice Ao23 y113.length co23] rfl (by (try simp only [List.map_toArray, List.map_cons, List.map_nil]); first | done | rfl | (simp only [List.length_drop, List.length_take]; rfl)) ?_; (with_reducible refine (jam_Potential.calls kj8 _ _ t104 _ _ t107 _ _ y113 t128 t129 _ ?side1 ?side2 ?side3 ?side4 ?side5 ?side6 A37.out).mono ?_); (case side1 => repeat (first | exact (Kd.S_reads' HO_117000.out).2.2 | (with_reducible refine Kd.C_alloc ?_ _) | (with_reducible refine Kd.C_drewN ?_ _) | (with_reducible refine Kd.C_drew ?_))); (case side2 => exact (Kd.S_reads' HO_117000.out).2.1); (case side3 => repeat (first | exact (Kd.S_reads' HO_117001.out).2.2 | (with_reducible refine Kd.C_alloc ?_ _) | (with_reducible refine Kd.C_drewN ?_ _) | (with_reducible refine Kd.C_drew ?_))); (case side4 => exact (Kd.S_reads' HO_117001.out).2.1); (case side5 => repeat (first | exact (Kd.R_reads' HO_6.out).2.2 | (with_reducible refine Kd.C_alloc ?_ _) | (with_reducible refine Kd.C_drewN ?_ _) | (with_reducible refine Kd.C_drew ?_))); (case side6 => exact (Kd.R_reads' HO_6.out).2.1); rintro e w75 ⟨rfl, hb⟩; refine ⟨_, rfl, ?_⟩; have n0_ := Aside0.mk (Kd.R_below (by (with_reducible repeat (first | apply Kd.R_alloc | apply Kd.R_drewN | apply Kd.R_drew)); exact HO_6.out) hb); have n1_ := Aside0.mk (Kd.S_below (by (with_reducible repeat (first | apply Kd.S_alloc | apply Kd.S_drewN | apply Kd.S_drew)); exact HO_117000.out) hb); have n2_ := Aside0.mk (Kd.S_below (by (with_reducible repeat (first | apply Kd.S_alloc | apply Kd.S_drewN | apply Kd.S_drew)); exact HO_117001.out) hb); have n3_ := Aside0.mk (blk_below (g := gb101) (o := .cells #[.slice A0_0 l0_0.length c0_0, .slice A0_1 l0_1.length c0_1] 41 (0, 0)) (by (with_reducible repeat (first | refine blk_drewN ?_ _ | refine blk_drew ?_ | refine blk_alloc ?_ _)); exact BK101.out) hb); have n4_ := Aside0.mk (blk_below (g := gb116) (o := .cells #[.slice Ao19 t104.length co19, .slice Ao22 t107.length co22] 41 (0, 0)) (by (with_reducible repeat (first | refine blk_drewN ?_ _ | refine blk_drew ?_ | refine blk_alloc ?_ _)); exact BK116.out) hb); have n5_ := Aside0.mk (below_step (by repeat (first | (with_reducible first | exact HB.out | apply below_alloc | apply pw_below_drewN | apply below_drew1 | refine below_set ?_ GE101.out | refine below_set ?_ GE116.out) | exact HB.out)) hb); clear HO_6; clear HO_117000; clear HO_117001; clear BK101; clear BK116; clear HB; have HO_6 := n0_; have HO_117000 := n1_; have HO_117001 := n2_; have BK101 := n3_; have BK116 := n4_; have HB := n5_; clear n0_ n1_ n2_ n3_ n4_ n5_; (try clear hb); (try clear hb2); (try clear hk); (try clear hi); have hcz76_0 : w75.cell? ⟨gb101, 0, none⟩ = some (.slice A0_0 l0_0.length c0_0) := (blk_cell BK101.out 0).trans rfl; have hcz76_1 : w75.cell? ⟨gb101, 1, none⟩ = some (.slice A0_1 l0_1.length c0_1) := (blk_cell BK101.out 1).trans rfl; have hfz76_0 := blk_frozen BK101.out 0; have hfz76_1 := blk_frozen BK101.out 1) | ((with_reducible refine gate_callee (f := 33) rfl ?_); refine goesL_ (some 60) rfl rfl Try.func33 (by kernel_rfl) rfl #[.agg #[.slice A0_0 l0_0.length c0_0, .slice A0_1 l0_1.length c0_1], .slice A1 l1.length c1] rfl (by (try simp only [List.map_toArray, List.map_cons, List.map_nil]); first | done | rfl | (simp only [List.length_drop, List.length_take]; rfl)) ?_; (with_reducible refine (trishawref02_Potential.calls kj8 _ _ l0_0 _ _ l0_1 _ _ l1 t130 t131 _ ?side1 ?side2 ?side3 ?side4 ?side5 ?side6 A38.out).mono ?_); (case side1 => repeat (first | exact (Kd.C_below HR0_0.out HB.out) | (with_reducible refine Kd.C_alloc ?_ _) | (with_reducible refine Kd.C_drewN ?_ _) | (with_reducible refine Kd.C_drew ?_))); (case side2 => exact HC0_0.out); (case side3 => repeat (first | exact (Kd.C_below HR0_1.out HB.out) | (with_reducible refine Kd.C_alloc ?_ _) | (with_reducible refine Kd.C_drewN ?_ _) | (with_reducible refine Kd.C_drew ?_))); (case side4 => exact HC0_1.out); (case side5 => repeat (first | exact (Kd.C_below HR1.out HB.out) | (with_reducible refine Kd.C_alloc ?_ _) | (with_reducible refine Kd.C_drewN ?_ _) | (with_reducible refine Kd.C_drew ?_))); (case side6 => exact HC1.out); rintro e w77 ⟨rfl, hb⟩; refine ⟨_, rfl, ?_⟩; have n0_ := Aside0.mk (Kd.R_below (by (with_reducible repeat (first | apply Kd.R_alloc | apply Kd.R_drewN | apply Kd.R_drew)); exact HO_6.out) hb); have n1_ := Aside0.mk (Kd.S_below (by (with_reducible repeat (first | apply Kd.S_alloc | apply Kd.S_drewN | apply Kd.S_drew)); exact HO_117000.out) hb); have n2_ := Aside0.mk (Kd.S_below (by (with_reducible repeat (first | apply Kd.S_alloc | apply Kd.S_drewN | apply Kd.S_drew)); exact HO_117001.out) hb); have n3_ := Aside0.mk (blk_below (g := gb101) (o := .cells #[.slice A0_0 l0_0.length c0_0, .slice A0_1 l0_1.length c0_1] 41 (0, 0)) (by (with_reducible repeat (first | refine blk_drewN ?_ _ | refine blk_drew ?_ | refine blk_alloc ?_ _)); exact BK101.out) hb); have n4_ := Aside0.mk (blk_below (g := gb116) (o := .cells #[.slice Ao19 t104.length co19, .slice Ao22 t107.length co22] 41 (0, 0)) (by (with_reducible repeat (first | refine blk_drewN ?_ _ | refine blk_drew ?_ | refine blk_alloc ?_ _)); exact BK116.out) hb); have n5_ := Aside0.mk (below_step (by repeat (first | (with_reducible first | exact HB.out | apply below_alloc | apply pw_below_drewN | apply below_drew1 | refine below_set ?_ GE101.out | refine below_set ?_ GE116.out) | exact HB.out)) hb); clear HO_6; clear HO_117000; clear HO_117001; clear BK101; clear BK116; clear HB; have HO_6 := n0_; have HO_117000 := n1_; have HO_117001 := n2_; have BK101 := n3_; have BK116 := n4_; have HB := n5_; clear n0_ n1_ n2_ n3_ n4_ n5_; (try clear hb); (try clear hb2); (try clear hk); (try clear hi)))
       go_ret
       exact ⟨by first | rfl | (simp [errW_none, errW_some] <;> rfl) | (simp [*, errW_none, errW_some] <;> rfl), by repeat (first | (with_reducible first | exact HB.out | apply below_alloc | apply pw_below_drewN | apply below_drew1 | refine below_set ?_ GE101.out | refine below_set ?_ GE116.out) | exact HB.out)⟩
  ·rw [if_neg c6] at H
   exact absurd H (by simp)
 ·replace c4 := Bool.eq_false_iff.mpr c4
  subst c4
  have H1 : ((trishawlaw02_alive.f k).bind fun t103 => (some t103)) = some r := by rw [if_neg (show ¬ (false = true) by decide)] at H; exact H
  clear H
  have H := H1
  clear H1
  replace H := Option.bind_eq_some_iff.mp H
  obtain ⟨t103, A780, H⟩ := H
  replace H : (some t103) = some r := H
  have A78 := Aside0.mk A780
  clear A780
  obtain rfl := Option.some.inj H
  go_enter Try.func7, Try.ntmps7
  go_wp2_with (first | ((with_reducible refine gate_dst (N := 2) rfl ?_); refine box_event ?hg (N := 2) ?hd (cs := #[.slice A0_0 l0_0.length c0_0, .slice A0_1 l0_1.length c0_1]) (t := 41) ?hr ?_; (case hd => rfl); (case hg => rfl); (case hr => first | (go_simp; done) | (go_simp; rfl)); intro gb101 hg w79 hbox hb; have n0_ := Aside0.mk (below_step (by repeat (first | (with_reducible first | exact HB.out | apply below_alloc | apply pw_below_drewN | apply below_drew1) | exact HB.out)) hb); have n1_ := Aside0.mk (hbox); have n2_ := Aside0.mk ((by rw [hg]; exact (below_size (by repeat (first | (with_reducible first | exact HB.out | apply below_alloc | apply pw_below_drewN | apply below_drew1) | exact HB.out))) : w.heap.size ≤ gb101)); have n3_ := Aside0.mk ((by rw [hg]; exact (below_size (by repeat (first | (with_reducible first | exact HB.out | apply below_alloc | apply pw_below_drewN | apply below_drew1) | exact HB.out))) : w.heap.size ≤ gb101)); clear HB; have HB := n0_; have BK101 := n1_; have GW101 := n2_; have GE101 := n3_; clear n0_ n1_ n2_ n3_; clear hb hbox hg; have hcz80_0 : w79.cell? ⟨gb101, 0, none⟩ = some (.slice A0_0 l0_0.length c0_0) := (blk_cell BK101.out 0).trans rfl; have hcz80_1 : w79.cell? ⟨gb101, 1, none⟩ = some (.slice A0_1 l0_1.length c0_1) := (blk_cell BK101.out 1).trans rfl; have hfz80_0 := blk_frozen BK101.out 0; have hfz80_1 := blk_frozen BK101.out 1) | ((with_reducible refine gate_callee (f := 24) rfl ?_); refine goesL_ (some 15) rfl rfl Try.func24 (by kernel_rfl) rfl #[.agg #[.slice A0_0 l0_0.length c0_0, .slice A0_1 l0_1.length c0_1], .slice A1 l1.length c1] rfl (by (try simp only [List.map_toArray, List.map_cons, List.map_nil]); first | done | rfl | (simp only [List.length_drop, List.length_take]; rfl)) ?_; (with_reducible refine (trishawlaw02_few.calls k _ _ l0_0 _ _ l0_1 _ _ l1 false _ ?side1 ?side2 ?side3 ?side4 ?side5 ?side6 A3.out).mono ?_); (case side1 => repeat (first | exact (Kd.C_below HR0_0.out HB.out) | (with_reducible refine Kd.C_alloc ?_ _) | (with_reducible refine Kd.C_drewN ?_ _) | (with_reducible refine Kd.C_drew ?_))); (case side2 => exact HC0_0.out); (case side3 => repeat (first | exact (Kd.C_below HR0_1.out HB.out) | (with_reducible refine Kd.C_alloc ?_ _) | (with_reducible refine Kd.C_drewN ?_ _) | (with_reducible refine Kd.C_drew ?_))); (case side4 => exact HC0_1.out); (case side5 => repeat (first | exact (Kd.C_below HR1.out HB.out) | (with_reducible refine Kd.C_alloc ?_ _) | (with_reducible refine Kd.C_drewN ?_ _) | (with_reducible refine Kd.C_drew ?_))); (case side6 => exact HC1.out); rintro e w81 ⟨rfl, hb⟩; refine ⟨_, rfl, ?_⟩; have n0_ := Aside0.mk (blk_below (g := gb101) (o := .cells #[.slice A0_0 l0_0.length c0_0, .slice A0_1 l0_1.length c0_1] 41 (0, 0)) (by (with_reducible repeat (first | refine blk_drewN ?_ _ | refine blk_drew ?_ | refine blk_alloc ?_ _)); exact BK101.out) hb); have n1_ := Aside0.mk (below_step (by repeat (first | (with_reducible first | exact HB.out | apply below_alloc | apply pw_below_drewN | apply below_drew1 | refine below_set ?_ GE101.out) | exact HB.out)) hb); clear BK101; clear HB; have BK101 := n0_; have HB := n1_; clear n0_ n1_; (try clear hb); (try clear hb2); (try clear hk); (try clear hi)) | ((with_reducible refine gate_callee (f := 16) rfl ?_); refine goesL_ (some 17) rfl rfl Try.func16 (by kernel_rfl) rfl #[] rfl (by (try simp only [List.map_toArray, List.map_cons, List.map_nil]); first | done | rfl | (simp only [List.length_drop, List.length_take]; rfl)) ?_; (with_reducible refine (trishawlaw02_alive.calls k  t103 _ A78.out).mono ?_); rintro e w82 ⟨rfl, hb⟩; refine ⟨_, rfl, ?_⟩; have n0_ := Aside0.mk (blk_below (g := gb101) (o := .cells #[.slice A0_0 l0_0.length c0_0, .slice A0_1 l0_1.length c0_1] 41 (0, 0)) (by (with_reducible repeat (first | refine blk_drewN ?_ _ | refine blk_drew ?_ | refine blk_alloc ?_ _)); exact BK101.out) hb); have n1_ := Aside0.mk (below_step (by repeat (first | (with_reducible first | exact HB.out | apply below_alloc | apply pw_below_drewN | apply below_drew1 | refine below_set ?_ GE101.out) | exact HB.out)) hb); clear BK101; clear HB; have BK101 := n0_; have HB := n1_; clear n0_ n1_; (try clear hb); (try clear hb2); (try clear hk); (try clear hi)))
  go_ret
  exact ⟨by first | rfl | (simp [errW_none, errW_some] <;> rfl) | (simp [*, errW_none, errW_some] <;> rfl), by repeat (first | (with_reducible first | exact HB.out | apply below_alloc | apply pw_below_drewN | apply below_drew1 | refine below_set ?_ GE101.out) | exact HB.out)⟩
end Go.Proofs.Ytjgbdicbdlollaa.B
namespace Go.Proofs.Ytjgbdicbdlollaa.B
open Go.RowKit Go.ChangeShapes Go.WideShapes Go.Deep Go.Proofs.YtjgbdicbdlollaaW.PrintWords Go.Proofs.YtjgbdicbdlollaaW.PrintLast Go.Proofs.YtjgbdicbdlollaaW.PrintMore
def okI (x : Int) : Prop := (Lit.int .i64 x).wf = true
def okRow (l : List Int) : Prop := l.length ≤ maxLen ∧ ∀ x ∈ l, okI x
def okRows (l : List (List Int)) : Prop := l.length ≤ maxLen ∧ ∀ x ∈ l, okRow x
section
variable {H : Type} {enc : TypeId × Value → H} {w : World} {spare : Nat → Bool} {held : Bool}
theorem open_list {α : Type} [Inhabited α] (d : Kd α) (ok : α → Prop) {t e : TypeId} (ht : Try.prog.underlying t = some (.slice e)) (hsz : Try.prog.cellsOf e = d.sz)
    (ho : ∀ (fuel : Nat) (cs : List Value) (x : DataW H × List MemPlace), DataW.trod enc Try.prog w 0 spare held fuel e cs = some x → ∃ s, d.K w s cs ∧ ok s)
    {fuel : Nat} {cs : List Value} {x : DataW H × List MemPlace} (h : DataW.trod enc Try.prog w 0 spare held fuel t cs = some x) :
    ∃ (A : Option Addr) (l : List α) (c : Nat), cs = [.slice A l.length c] ∧ l.length ≤ c ∧ c ≤ maxLen ∧ Kd.C d w A l.length l ∧ ∀ x ∈ l, ok x := by
  rcases open_slice ht h with ⟨rfl, _⟩ | ⟨x, l, c, m, n, D, Pl, rfl, _, hl, hm, hmm, _, hi⟩
  · exact ⟨none, [], 0, rfl, Nat.le_refl _, by simp, Kd.C_nil d w, by simp⟩
  · have hlm : l ≤ m := by rw [hmm]; split <;> omega
    rw [hsz] at hi
    have hex : ∀ i : Nat, ∃ s : α, i < l → ok s ∧ ∃ cs', d.K w s cs' ∧ w.cells? 0 (x.add (i * d.sz)) d.sz = some cs' := by
      intro i
      by_cases h : i < l
      · obtain ⟨cs', hc, ht⟩ := hi i (by omega)
        obtain ⟨s, hs, hk⟩ := ho _ _ _ ht
        exact ⟨s, fun _ => ⟨hk, cs', hs, hc⟩⟩
      · exact ⟨default, fun h' => absurd h' h⟩
    obtain ⟨f, hf⟩ := Classical.axiomOfChoice hex
    have hll : ((List.range l).map f).length = l := by simp
    refine ⟨some x, (List.range l).map f, c, by rw [hll], by rw [hll]; exact hl, hm, ⟨rfl, by rw [hll]; simp only [maxLen] at hm; omega, fun _ => ⟨x, rfl, fun j p hj => ?_⟩⟩, fun y hy => ?_⟩
    · have hjl : j < l := by have := (List.getElem?_eq_some_iff.1 hj).1; rw [hll] at this; exact this
      rw [List.getElem?_map, List.getElem?_range hjl] at hj
      injection hj with hj
      subst hj
      obtain ⟨hs, cs', hK, hc⟩ := hf j hjl
      obtain ⟨_, hlen, hat⟩ := World.cells?_some hc
      refine ⟨cs', hlen, hK, fun i u hu => ?_⟩
      have hi2 : i < d.sz := by have := (List.getElem?_eq_some_iff.1 hu).1; omega
      rw [← Go.Deep.add_add, hat i hi2, hu]
    · obtain ⟨j, hj, rfl⟩ := List.mem_map.1 hy
      exact (hf j (List.mem_range.1 hj)).1
theorem open_int3 (fuel : Nat) (cs : List Value) (x : DataW H × List MemPlace) (h : DataW.trod enc Try.prog w 0 spare held fuel 3 cs = some x) : ∃ s : Int, (Kd.int .i64).K w s cs ∧ okI s := by
  obtain ⟨n0, e0, _, w0⟩ := DataW.trod_int Try.underlying3 h
  subst e0
  exact ⟨n0, rfl, w0⟩
theorem open_row24 {fuel : Nat} {cs : List Value} {x : DataW H × List MemPlace} (h : DataW.trod enc Try.prog w 0 spare held fuel 24 cs = some x) :
    ∃ (A : Option Addr) (l : List Int) (c : Nat), cs = [.slice A l.length c] ∧ l.length ≤ c ∧ c ≤ maxLen ∧ Kd.C (Kd.int .i64) w A l.length l ∧ ∀ x ∈ l, okI x :=
  open_list (Kd.int .i64) okI Try.underlying24 (by kernel_rfl) open_int3 h
theorem open_rows39 {fuel : Nat} {cs : List Value} {x : DataW H × List MemPlace} (h : DataW.trod enc Try.prog w 0 spare held fuel 39 cs = some x) :
    ∃ (A : Option Addr) (l : List (List Int)) (c : Nat), cs = [.slice A l.length c] ∧ l.length ≤ c ∧ c ≤ maxLen ∧ Kd.C (Kd.slice 3 (Kd.int .i64)) w A l.length l ∧ ∀ x ∈ l, okRow x := by
  refine open_list (Kd.slice 3 (Kd.int .i64)) okRow Try.underlying39 (by kernel_rfl) (fun fuel cs x h => ?_) h
  obtain ⟨A, l, c, rfl, h1, h2, h3, h4⟩ := open_row24 h
  exact ⟨l, ⟨A, c, rfl, h1, h3⟩, Nat.le_trans h1 h2, h4⟩
theorem open_numbers {a : Option Addr} {len cap : Nat} {d : DataW H} {p : List MemPlace} (h : DataW.Trod enc Try.prog w 0 spare held 24 (.slice a len cap) d p) :
    ∃ l : List Int, Kd.C (Kd.int .i64) w a l.length l ∧ l.length = len ∧ len ≤ cap ∧ cap ≤ maxLen ∧ ∀ x ∈ l, (Lit.int .i64 x).wf = true := by
  obtain ⟨fuel, hf⟩ := h
  obtain ⟨A, l, c, e, h1, h2, h3, h4⟩ := open_row24 hf
  simp only [Value.cells, List.cons.injEq, Value.slice.injEq, and_true] at e
  obtain ⟨rfl, rfl, rfl⟩ := e
  exact ⟨l, h3, rfl, h1, h2, h4⟩
set_option maxRecDepth 100000 in
theorem open_game {r : Reach} {b0 : Nat} {v : Value} {d : DataW H} {ps : List MemPlace} (hval : Value.okWide Try.prog w r b0 41 v) (h : DataW.Trod enc Try.prog w 0 spare held 41 v d ps) :
    ∃ (A : Option Addr) (l : List (List Int)) (c : Nat) (A' : Option Addr) (l' : List (List Int)) (c' : Nat), v = .agg #[.slice A l.length c, .slice A' l'.length c'] ∧
      (l.length ≤ c ∧ c ≤ maxLen ∧ Kd.C (Kd.slice 3 (Kd.int .i64)) w A l.length l ∧ ∀ x ∈ l, okRow x) ∧ (l'.length ≤ c' ∧ c' ≤ maxLen ∧ Kd.C (Kd.slice 3 (Kd.int .i64)) w A' l'.length l' ∧ ∀ x ∈ l', okRow x) := by
  obtain ⟨fuel, hf⟩ := h
  obtain ⟨cs, rfl, _⟩ := okWide_struct Try.underlying41 hval
  obtain ⟨xs, n, _, _, hlen, hxl, hg⟩ := DataW.trod_struct Try.underlying41 hf
  have h41 : Try.prog.cellsOf 41 = 2 := by kernel_rfl
  have h39 : Try.prog.cellsOf 39 = 1 := by kernel_rfl
  have hcs : ∃ u0 u1, cs = #[u0, u1] := by
    have hl2 : cs.toList.length = 2 := by rw [h41] at hlen; exact hlen
    match hc : cs.toList, hl2 with
    | [u0, u1], _ => exact ⟨u0, u1, by rw [← hc]⟩
  obtain ⟨u0, u1, rfl⟩ := hcs
  have hsz : xs.length = 2 := hxl
  match xs, hsz with
  | [y0, y1], _ =>
    have g0 : DataW.trod enc Try.prog w 0 spare held n 39 (([u0, u1].drop 0).take (Try.prog.cellsOf 39)) = some y0 := hg 0 _ rfl
    have g1 : DataW.trod enc Try.prog w 0 spare held n 39 (([u0, u1].drop 1).take (Try.prog.cellsOf 39)) = some y1 := hg 1 _ rfl
    rw [h39] at g0 g1
    obtain ⟨A, l, c, e0, k0⟩ := open_rows39 g0
    obtain ⟨A', l', c', e1, k1⟩ := open_rows39 g1
    obtain rfl : u0 = .slice A l.length c := by injection e0
    obtain rfl : u1 = .slice A' l'.length c' := by injection e1
    exact ⟨A, l, c, A', l', c', rfl, k0, k1⟩
end
end Go.Proofs.Ytjgbdicbdlollaa.B
namespace Go.Proofs.Ytjgbdicbdlollaa.B
open Go.RowKit Go.Proofs.YtjgbdicbdlollaaW.PrintWords Go.Proofs.YtjgbdicbdlollaaW.PrintLast Go.Proofs.YtjgbdicbdlollaaW.PrintMore
def trishawlaw02_JamCosts.Pure : Prop := ∀ (l0_0 l0_1 : List (List Int)) (l1 : List Int), okRows l0_0 → okRows l0_1 → l1.length ≤ maxLen → (∀ x ∈ l1, (fun x : Int => (Lit.int .i64 x).wf = true) x) → ∃ k, trishawlaw02_JamCosts.f k l0_0 l0_1 l1 = some true
theorem trishawlaw02_JamCosts.walk (P : trishawlaw02_JamCosts.Pure) (w : World) (A0_0 : Option Addr) (c0_0 : Nat) (l0_0 : List (List Int)) (hr0_0 : Kd.C (Kd.slice 3 (Kd.int .i64)) w A0_0 l0_0.length l0_0) (hc0_0 : l0_0.length ≤ c0_0) (A0_1 : Option Addr) (c0_1 : Nat) (l0_1 : List (List Int)) (hr0_1 : Kd.C (Kd.slice 3 (Kd.int .i64)) w A0_1 l0_1.length l0_1) (hc0_1 : l0_1.length ≤ c0_1) (A1 : Option Addr) (c1 : Nat) (l1 : List Int) (hr1 : Kd.C (Kd.int .i64) w A1 l1.length l1) (hc1 : l1.length ≤ c1) (h0_0 : okRows l0_0) (h1_0 : okRows l0_1) (h2_0 : l1.length ≤ maxLen) (h3_0 : (∀ x ∈ l1, (fun x : Int => (Lit.int .i64 x).wf = true) x)) :
    Calls Try.prog 7 #[.agg #[.slice A0_0 l0_0.length c0_0, .slice A0_1 l0_1.length c0_1], .slice A1 l1.length c1] w fun e w' => e = .returned (.bool true) ∧ Below w.heap.size w w' := by
  obtain ⟨k, h⟩ := P l0_0 l0_1 l1 h0_0 h1_0 h2_0 h3_0
  refine (trishawlaw02_JamCosts.calls k A0_0 c0_0 l0_0 A0_1 c0_1 l0_1 A1 c1 l1 true w hr0_0 hc0_0 hr0_1 hc0_1 hr1 hc1 h).mono ?_
  rintro e w' ⟨rfl, hd⟩
  exact ⟨rfl, hd⟩
end Go.Proofs.Ytjgbdicbdlollaa.B
namespace Go.Proofs.Ytjgbdicbdlollaa.B
open Go.RowKit Go.Proofs.YtjgbdicbdlollaaW.PrintWords Go.Proofs.YtjgbdicbdlollaaW.PrintLast Go.Proofs.YtjgbdicbdlollaaW.PrintMore
set_option linter.unusedVariables false
set_option linter.unusedSimpArgs false
def sm (x : Int) : Prop := -4611686018427387904 ≤ x ∧ x ≤ 4611686018427387904
theorem wsm {x : Int} (h : sm x) : wrap64 x = x := by unfold sm at h; unfold wrap64; omega
theorem wrapN (i : Nat) (h : i < 1000000) : wrap64 ((i : Int) + 1) = ((i + 1 : Nat) : Int) := by unfold wrap64; omega
theorem rd_mem2 (l : List Int) (i : Nat) (h : i < l.length) : rd l (i : Int) ∈ l := by
  have : rd l (i : Int) = l[i] := by simp [rd, List.getD, List.getElem?_eq_getElem h]
  rw [this]; exact List.getElem_mem h
end Go.Proofs.Ytjgbdicbdlollaa.B
namespace Go.Proofs.Ytjgbdicbdlollaa.B
open Go.RowKit Go.Sort Go.Proofs.YtjgbdicbdlollaaW.PrintWords Go.Proofs.YtjgbdicbdlollaaW.PrintLast Go.Proofs.YtjgbdicbdlollaaW.PrintMore
set_option linter.unusedVariables false
set_option linter.unusedSimpArgs false
def okL (x : S36) : Prop := 0 ≤ x.f0 ∧ x.f0 ≤ 10 ∧ 1 ≤ x.f1 ∧ x.f1 ≤ 10
def sumL (f : S36 → Int) : List S36 → Int
  | [] => 0
  | x :: l => f x + sumL f l
theorem sumL_le {f g : S36 → Int} : ∀ {l : List S36}, (∀ x ∈ l, f x ≤ g x) → sumL f l ≤ sumL g l
  | [], _ => Int.le_refl _
  | x :: l, h => by
    have h1 := h x (by simp)
    have h2 := sumL_le (l := l) fun y hy => h y (by simp [hy])
    simp only [sumL]; omega
theorem sumL_const (c : Int) : ∀ l : List S36, sumL (fun _ => c) l = c * l.length
  | [] => by simp [sumL]
  | x :: l => by simp only [sumL, sumL_const c l, List.length_cons, Int.natCast_add, Int.mul_add]; simp; omega
theorem sumL_pos {f : S36 → Int} {l : List S36} (h : ∀ x ∈ l, 0 ≤ f x) : 0 ≤ sumL f l := by
  have := sumL_le (f := fun _ => 0) (g := f) h
  rw [sumL_const] at this; simpa using this
/-- A time num/den is good: its own set of lanes gives it. -/
def Good (w : S36 → Int) (p : Int) (l : List S36) (n d : Int) : Prop :=
  0 < d ∧ n = p + sumL (fun x => if x.f0 * d < n then x.f0 * w x else 0) l ∧ d = sumL (fun x => if x.f0 * d < n then w x else 0) l
end Go.Proofs.Ytjgbdicbdlollaa.B
namespace Go.Proofs.Ytjgbdicbdlollaa.B
open Go.RowKit Go.Sort Go.Proofs.YtjgbdicbdlollaaW.PrintWords Go.Proofs.YtjgbdicbdlollaaW.PrintLast Go.Proofs.YtjgbdicbdlollaaW.PrintMore
set_option linter.unusedVariables false
set_option linter.unusedSimpArgs false
theorem mulb {x y X Y : Int} (hx : 0 ≤ x) (hX : x ≤ X) (hy : 0 ≤ y) (hY : y ≤ Y) : 0 ≤ x * y ∧ x * y ≤ X * Y :=
  ⟨Int.mul_nonneg hx hy, Int.mul_le_mul hX hY hy (by omega)⟩
def wv (p t : Int) (x : S36) : Int := Int.tdiv p (x.f1 * t)
theorem Good.b {p t : Int} {l : List S36} {n d : Int} (hp : 0 < p) (hp2 : p ≤ 160000) (hl : l.length ≤ 4) (hw : ∀ x ∈ l, okL x ∧ 0 < wv p t x ∧ wv p t x ≤ p) (g : Good (wv p t) p l n d) : 0 ≤ n ∧ n ≤ 6560000 ∧ 0 < d ∧ d ≤ 640000 := by
  obtain ⟨h0, h1, h2⟩ := g
  have a1 : sumL (fun x => if x.f0 * d < n then x.f0 * wv p t x else 0) l ≤ sumL (fun _ => 1600000) l := sumL_le fun x hx => by
    obtain ⟨h3, h4, h5⟩ := hw x hx
    unfold okL at h3
    have := mulb (x := x.f0) (y := wv p t x) (X := 10) (Y := 160000) (by omega) (by omega) (by omega) (by omega)
    split <;> omega
  have a0 : 0 ≤ sumL (fun x => if x.f0 * d < n then x.f0 * wv p t x else 0) l := sumL_pos fun x hx => by
    obtain ⟨h3, h4, h5⟩ := hw x hx
    unfold okL at h3
    have := mulb (x := x.f0) (y := wv p t x) (X := 10) (Y := 160000) (by omega) (by omega) (by omega) (by omega)
    split <;> omega
  have a2 : sumL (fun x => if x.f0 * d < n then wv p t x else 0) l ≤ sumL (fun _ => 160000) l := sumL_le fun x hx => by
    obtain ⟨h3, h4, h5⟩ := hw x hx
    split <;> omega
  rw [sumL_const] at a1 a2
  omega
end Go.Proofs.Ytjgbdicbdlollaa.B
namespace Go.Proofs.Ytjgbdicbdlollaa.B
open Go.RowKit Go.Sort Go.Proofs.YtjgbdicbdlollaaW.PrintWords Go.Proofs.YtjgbdicbdlollaaW.PrintLast Go.Proofs.YtjgbdicbdlollaaW.PrintMore
set_option linter.unusedVariables false
set_option linter.unusedSimpArgs false
theorem same_l0 (x : List Int) (hx : x.length < 1000000) : ∀ (m i : Nat), i + m = x.length → Ev (fun k => trishawlaw02_same.l0 k x x (i : Int)) true
  | 0, i, h => by
    refine Ev.step (f := fun _ => some true) (fun k => ?_) (Ev.now _)
    simp only [trishawlaw02_same.l0]
    rw [if_neg (by omega)]
  | m + 1, i, h => by
    refine Ev.step (fun k => ?_) (same_l0 x hx m (i + 1) (by omega))
    simp only [trishawlaw02_same.l0]
    rw [if_pos (by omega), if_pos (by omega), if_pos (by omega), if_pos True.intro, wrapN i (by omega)]
theorem same_ev (x : List Int) (hx : x.length < 1000000) : Ev (fun k => trishawlaw02_same.f k x x) true := by
  refine Ev.congr (fun k => ?_) (same_l0 x hx x.length 0 (by omega))
  unfold trishawlaw02_same.f
  rw [if_pos rfl]; rfl
end Go.Proofs.Ytjgbdicbdlollaa.B
namespace Go.Proofs.Ytjgbdicbdlollaa.B
open Go.RowKit Go.Sort Go.Proofs.YtjgbdicbdlollaaW.PrintWords Go.Proofs.YtjgbdicbdlollaaW.PrintLast Go.Proofs.YtjgbdicbdlollaaW.PrintMore
theorem alive_ev : Ev (fun k => trishawlaw02_alive.f k) true := ⟨60, fun k hk => alive_from k hk⟩
theorem alive_ev2 : Ev (fun k => (trishawlaw02_alive.f k).bind fun t => some t) true := Ev.bind alive_ev (Ev.now true)
end Go.Proofs.Ytjgbdicbdlollaa.B
namespace Go.Proofs.Ytjgbdicbdlollaa.B
open Go.RowKit Go.Sort Go.Proofs.YtjgbdicbdlollaaW.PrintWords Go.Proofs.YtjgbdicbdlollaaW.PrintLast Go.Proofs.YtjgbdicbdlollaaW.PrintMore
set_option linter.unusedVariables false
set_option linter.unusedSimpArgs false
theorem rdN (l : List Int) (i : Nat) (h : i < l.length) : rd l (i : Int) = l[i] := by simp [rd, List.getD, List.getElem?_eq_getElem h]
theorem rdL (l : List (List Int)) (i : Nat) (h : i < l.length) : rd_L12 l (i : Int) = l[i] := by simp [rd_L12, List.getD, List.getElem?_eq_getElem h]
theorem rdL_mem (l : List (List Int)) (i : Nat) (h : i < l.length) : rd_L12 l (i : Int) ∈ l := by rw [rdL l i h]; exact List.getElem_mem h
theorem rdZ_mem (l : List Int) (z : Int) (h0 : 0 ≤ z) (h : z < l.length) : rd l z ∈ l := by
  obtain ⟨i, rfl⟩ : ∃ i : Nat, z = i := ⟨z.toNat, by omega⟩
  exact rd_mem2 l i (by omega)
def mapR (m : Nat) (f : Nat → Int) : List Int := (List.range m).map f
theorem mapR_len (m : Nat) (f : Nat → Int) : (mapR m f).length = m := by simp [mapR]
theorem mapR_rd {m : Nat} {f : Nat → Int} {k : Nat} (h : k < m) : rd (mapR m f) (k : Int) = f k := by
  rw [rdN _ k (by rw [mapR_len]; exact h)]; simp [mapR]
theorem mapR_set (m : Nat) (f : Nat → Int) (k : Nat) (v : Int) : (mapR m f).set k v = mapR m (fun j => if j = k then v else f j) := by
  apply List.ext_getElem
  · simp [mapR]
  · intro i h1 h2
    simp only [mapR, List.getElem_set, List.getElem_map, List.getElem_range]
    by_cases h : k = i
    · subst h; simp
    · rw [if_neg h, if_neg (fun e => h e.symm)]
theorem mapR_congr {m : Nat} {f g : Nat → Int} (h : ∀ k, k < m → f k = g k) : mapR m f = mapR m g :=
  List.map_congr_left fun k hk => h k (List.mem_range.1 hk)
theorem mapR_succ (m : Nat) (f : Nat → Int) : mapR m f ++ [f m] = mapR (m + 1) f := by simp [mapR, List.range_succ]
theorem mapR_zero (m : Nat) : List.replicate m (0 : Int) = mapR m (fun _ => 0) := by
  apply List.ext_getElem
  · simp [mapR]
  · intro i h1 h2; simp [mapR]
structure GameOk (R T : List (List Int)) : Prop where
  r1 : 1 ≤ R.length
  r5 : R.length ≤ 5
  t1 : 1 ≤ T.length
  t8 : T.length ≤ 8
  row : ∀ l ∈ R, 1 ≤ l.length ∧ l.length ≤ 5 ∧ ∀ x ∈ l, 1 ≤ x ∧ x < 2 ^ T.length
  toll : ∀ t ∈ T, t.length = R.length ∧ ∀ x ∈ t, 0 ≤ x ∧ x ≤ 1000
structure ChOk (R : List (List Int)) (c : List Int) : Prop where
  len : c.length = R.length
  ok : ∀ i : Nat, i < R.length → 0 ≤ rd c (i : Int) ∧ rd c (i : Int) < ((rd_L12 R (i : Int)).length : Int)
/-- The route that driver i takes. -/
def rte (R : List (List Int)) (c : List Int) (i : Nat) : Int := rd (rd_L12 R (i : Int)) (rd c (i : Int))
theorem rte_b {R T : List (List Int)} {c : List Int} (g : GameOk R T) (h : ChOk R c) {i : Nat} (hi : i < R.length) : 1 ≤ rte R c i ∧ rte R c i < 2 ^ T.length := by
  have h1 := h.ok i hi
  exact (g.row _ (rdL_mem R i hi)).2.2 _ (rdZ_mem _ _ h1.1 h1.2)
theorem pow_b {m : Nat} (h : m ≤ 8) : (2 : Int) ^ m ≤ 256 := by
  have : (2 : Nat) ^ m ≤ 2 ^ 8 := Nat.pow_le_pow_right (by omega) h
  have e : ((2 ^ m : Nat) : Int) = (2 : Int) ^ m := by simp
  omega
/-- A street of a route. -/
def bk (x : Int) (k : Nat) : Int := x / 2 ^ k % 2
theorem fin_bk : ∀ s : Fin 256, ∀ a : Fin 8, Go.bits .and .i64 (shr .i64 ((s.val : Nat) : Int) ((a.val : Nat) : Int)) 1 = bk ((s.val : Nat) : Int) a.val ∧ Int.tmod (shr .i64 ((s.val : Nat) : Int) ((a.val : Nat) : Int)) 2 = bk ((s.val : Nat) : Int) a.val ∧ (bk ((s.val : Nat) : Int) a.val = 0 ∨ bk ((s.val : Nat) : Int) a.val = 1) := by decide +kernel
theorem bk_and {x : Int} {k : Nat} (h0 : 0 ≤ x) (h1 : x < 256) (hk : k < 8) : Go.bits .and .i64 (shr .i64 x (k : Int)) 1 = bk x k ∧ Int.tmod (shr .i64 x (k : Int)) 2 = bk x k ∧ (bk x k = 0 ∨ bk x k = 1) := by
  have := fin_bk ⟨x.toNat, by omega⟩ ⟨k, hk⟩
  simp only at this
  rw [show ((x.toNat : Nat) : Int) = x by omega] at this
  exact this
/-- How many of the first m drivers are on a street. -/
def uF (R : List (List Int)) (c : List Int) : Nat → Nat → Int
  | 0, _ => 0
  | m + 1, k => uF R c m k + bk (rte R c m) k
theorem uF_b {R T : List (List Int)} {c : List Int} (g : GameOk R T) (h : ChOk R c) {k : Nat} (hk : k < T.length) : ∀ m, m ≤ R.length → 0 ≤ uF R c m k ∧ uF R c m k ≤ m
  | 0, _ => by simp [uF]
  | m + 1, hm => by
    have ih := uF_b g h hk m (by omega)
    have hb := rte_b g h (i := m) (by omega)
    have hp := pow_b g.t8
    have h8 := g.t8
    have := (bk_and (x := rte R c m) (k := k) (by omega) (by omega) (by omega)).2.2
    simp only [uF]
    omega
theorem uF_pos {R T : List (List Int)} {c : List Int} (g : GameOk R T) (h : ChOk R c) {k : Nat} (hk : k < T.length) {i : Nat} : ∀ m, m ≤ R.length → i < m → bk (rte R c i) k = 1 → 1 ≤ uF R c m k
  | m + 1, hm, hi, hb1 => by
    have ih := uF_b g h hk m (by omega)
    have hb := rte_b g h (i := m) (by omega)
    have hp := pow_b g.t8
    have h8 := g.t8
    have := (bk_and (x := rte R c m) (k := k) (by omega) (by omega) (by omega)).2.2
    simp only [uF]
    by_cases he : i = m
    · subst he; omega
    · have := uF_pos g h hk m (by omega) (by omega) hb1
      omega
section
variable {R T : List (List Int)} {c : List Int} (g : GameOk R T) (h : ChOk R c)
include g h
/-- One driver's streets. -/
theorem users_l1 (U : List Unit) (P : Int → Int → Option Int) (r : List Int) (i : Nat) (hi : i < R.length) (hn : Ev (fun k => jam_game_users.l0 k (mapR T.length (uF R c (i + 1))) c (c.length : Int) ((i + 1 : Nat) : Int) R U P) r) : ∀ (m k : Nat), k + m = T.length →
    Ev (fun n => jam_game_users.l1 n (mapR T.length (fun j => if j < k then uF R c (i + 1) j else uF R c i j)) (i : Int) (rd c (i : Int)) c (c.length : Int) (i : Int) (T.length : Int) (k : Int) R U P) r
  | 0, k, hk => by
    have h5 := g.r5
    rw [mapR_congr (g := uF R c (i + 1)) (fun j hj => if_pos (by omega))]
    refine Ev.step (fun n => ?_) hn
    simp only [jam_game_users.l1]
    rw [if_neg (by omega), wrapN i (by omega)]
  | m + 1, k, hk => by
    have h5 := g.r5
    have h8 := g.t8
    have hb := rte_b g h hi
    have hp := pow_b g.t8
    have hc := h.ok i hi
    have hbk := bk_and (x := rte R c i) (k := k) (by omega) (by omega) (by omega)
    have hu := uF_b g h (k := k) (by omega) i (by omega)
    have ih := users_l1 U P r i hi hn m (k + 1) (by omega)
    refine Ev.step (fun n => ?_) ih
    simp only [jam_game_users.l1]
    rw [if_pos (by omega), if_pos (by omega), if_pos (by rw [mapR_len]; omega), if_pos (by omega), if_pos (by omega), if_pos (by omega), if_pos hc.2, mapR_rd (by omega), if_neg (by omega), show rd (rd_L12 R (i : Int)) (rd c (i : Int)) = rte R c i from rfl, hbk.1, wsm (by unfold sm; omega), wrapN k (by omega), Int.toNat_natCast, mapR_set]
    congr 1
    refine mapR_congr fun j hj => ?_
    by_cases h1 : j = k
    · subst h1; rw [if_pos rfl, if_pos (by omega)]; rfl
    · rw [if_neg h1]
      by_cases h2 : j < k
      · rw [if_pos h2, if_pos (by omega)]
      · rw [if_neg h2, if_neg (by omega)]
theorem users_l0 (U : List Unit) (P : Int → Int → Option Int) : ∀ (m i : Nat), i + m = R.length → Ev (fun n => jam_game_users.l0 n (mapR T.length (uF R c i)) c (c.length : Int) (i : Int) R U P) (mapR T.length (uF R c R.length))
  | 0, i, hi => by
    have e : i = R.length := by omega
    subst e
    have hl := h.len
    refine Ev.step (f := fun _ => some (mapR T.length (uF R c R.length))) (fun n => ?_) (Ev.now _)
    simp only [jam_game_users.l0]
    rw [if_neg (by omega)]
  | m + 1, i, hi => by
    have hl := h.len
    have h5 := g.r5
    have ih := users_l0 U P m (i + 1) (by omega)
    have hin := users_l1 g h U P _ i (by omega) ih T.length 0 (by omega)
    rw [mapR_congr (g := uF R c i) (fun j hj => if_neg (by omega))] at hin
    refine Ev.step (fun n => ?_) hin
    simp only [jam_game_users.l0]
    rw [if_pos (by omega), if_pos (by omega), if_pos (by omega), mapR_len]
    rfl
theorem users_ev (P : Int → Int → Option Int) : Ev (fun n => jam_game_users.f n R (unitsOf T) P c) (mapR T.length (uF R c R.length)) := by
  have h8 := g.t8
  have := users_l0 g h (unitsOf T) P R.length 0 (by omega)
  rw [show mapR T.length (uF R c 0) = List.replicate T.length (0 : Int) from (mapR_zero _).symm] at this
  refine Ev.congr (fun n => ?_) this
  have e : (unitsOf T).length = T.length := by simp [unitsOf]
  unfold jam_game_users.f
  rw [e, if_pos (Int.natCast_nonneg _), Int.toNat_natCast, if_pos (by omega)]
  rfl
/-- What a driver pays on streets k .. k + m - 1. -/
def payS (R T : List (List Int)) (c : List Int) (i : Nat) : Nat → Nat → Int
  | 0, _ => 0
  | m + 1, k => (if bk (rte R c i) k = 1 then rd (rd_L12 T (k : Int)) (uF R c R.length k - 1) else 0) + payS R T c i m (k + 1)
def cst (R T : List (List Int)) (c : List Int) (i : Nat) : Int := payS R T c i T.length 0
def totF (R T : List (List Int)) (c : List Int) : Nat → Int
  | 0 => 0
  | m + 1 => totF R T c m + cst R T c m
theorem pay_b {k i : Nat} (hk : k < T.length) (hi : i < R.length) (hb : bk (rte R c i) k = 1) : payF T (k : Int) (uF R c R.length k) = some (rd (rd_L12 T (k : Int)) (uF R c R.length k - 1)) ∧ 0 ≤ rd (rd_L12 T (k : Int)) (uF R c R.length k - 1) ∧ rd (rd_L12 T (k : Int)) (uF R c R.length k - 1) ≤ 1000 := by
  have h1 := uF_pos g h hk R.length (Nat.le_refl _) hi hb
  have h2 := uF_b g h hk R.length (Nat.le_refl _)
  have h3 := g.toll _ (rdL_mem T k hk)
  refine ⟨?_, h3.2 _ (rdZ_mem _ _ (by omega) (by omega))⟩
  unfold payF
  rw [if_pos (by omega), if_pos (by omega), if_pos (by omega), if_pos (by omega)]
theorem payS_b {i : Nat} (hi : i < R.length) : ∀ (m k : Nat), k + m = T.length → 0 ≤ payS R T c i m k ∧ payS R T c i m k ≤ 1000 * m
  | 0, _, _ => by simp [payS]
  | m + 1, k, hk => by
    have ih := payS_b hi m (k + 1) (by omega)
    simp only [payS]
    split
    · rename_i hb
      have := (pay_b g h (k := k) (by omega) hi hb).2
      omega
    · omega
theorem cst_b {i : Nat} (hi : i < R.length) : 0 ≤ cst R T c i ∧ cst R T c i ≤ 8000 := by
  have := payS_b g h hi T.length 0 (by omega)
  have h8 := g.t8
  unfold cst
  omega
theorem totF_b : ∀ m, m ≤ R.length → 0 ≤ totF R T c m ∧ totF R T c m ≤ 8000 * m
  | 0, _ => by simp [totF]
  | m + 1, hm => by
    have ih := totF_b m (by omega)
    have := cst_b g h (i := m) (by omega)
    simp only [totF]
    omega
theorem costs_l1 (U : List Unit) (r : List Int × Int) (i : Nat) (hi : i < R.length) (x7 : List Int) (x8 : Int) (h7 : x7.length = i)
    (hn : Ev (fun n => jam_game_costs.l0 n (mapR T.length (uF R c R.length)) (x7 ++ [cst R T c i]) (wrap64 (x8 + cst R T c i)) c (c.length : Int) ((i + 1 : Nat) : Int) R U (payF T)) r) : ∀ (m k : Nat) (a : Int), k + m = T.length → 0 ≤ a → a ≤ 1000 * k → a + payS R T c i m k = cst R T c i →
    Ev (fun n => jam_game_costs.l1 n (mapR T.length (uF R c R.length)) x7 x8 (i : Int) (rd c (i : Int)) a c (c.length : Int) (i : Int) (mapR T.length (uF R c R.length)) (T.length : Int) (k : Int) R U (payF T)) r
  | 0, k, a, hk, a0, a1, ha => by
    have h5 := g.r5
    have e : a = cst R T c i := by simp only [payS] at ha; omega
    subst e
    refine Ev.step (fun n => ?_) hn
    simp only [jam_game_costs.l1]
    rw [if_neg (by omega), if_pos (by omega), wrapN i (by omega)]
  | m + 1, k, a, hk, a0, a1, ha => by
    have h5 := g.r5
    have h8 := g.t8
    have hb := rte_b g h hi
    have hp := pow_b g.t8
    have hc := h.ok i hi
    have hbk := bk_and (x := rte R c i) (k := k) (by omega) (by omega) (by omega)
    simp only [payS] at ha
    by_cases hb1 : bk (rte R c i) k = 1
    · rw [if_pos hb1] at ha
      have hpay := pay_b g h (k := k) (by omega) hi hb1
      have ih := costs_l1 U r i hi x7 x8 h7 hn m (k + 1) (a + rd (rd_L12 T (k : Int)) (uF R c R.length k - 1)) (by omega) (by omega) (by omega) (by omega)
      refine Ev.step (fun n => ?_) ih
      simp only [jam_game_costs.l1]
      rw [if_pos (by omega), if_pos (by omega), if_pos (by rw [mapR_len]; omega), if_pos (by omega), if_pos (by omega), if_pos (by omega), if_pos hc.2, show rd (rd_L12 R (i : Int)) (rd c (i : Int)) = rte R c i from rfl, hbk.1, if_pos hb1, mapR_rd (by omega), hpay.1, Option.bind_some, wsm (by unfold sm; omega), wrapN k (by omega)]
    · rw [if_neg hb1] at ha
      have ih := costs_l1 U r i hi x7 x8 h7 hn m (k + 1) a (by omega) (by omega) (by omega) (by omega)
      refine Ev.step (fun n => ?_) ih
      simp only [jam_game_costs.l1]
      rw [if_pos (by omega), if_pos (by omega), if_pos (by rw [mapR_len]; omega), if_pos (by omega), if_pos (by omega), if_pos (by omega), if_pos hc.2, show rd (rd_L12 R (i : Int)) (rd c (i : Int)) = rte R c i from rfl, hbk.1, if_neg hb1, wrapN k (by omega)]
theorem costs_l0 (U : List Unit) : ∀ (m i : Nat), i + m = R.length → Ev (fun n => jam_game_costs.l0 n (mapR T.length (uF R c R.length)) (mapR i (cst R T c)) (totF R T c i) c (c.length : Int) (i : Int) R U (payF T)) (mapR R.length (cst R T c), totF R T c R.length)
  | 0, i, hi => by
    have e : i = R.length := by omega
    subst e
    have hl := h.len
    refine Ev.step (f := fun _ => some (mapR R.length (cst R T c), totF R T c R.length)) (fun n => ?_) (Ev.now _)
    simp only [jam_game_costs.l0]
    rw [if_neg (by omega)]
  | m + 1, i, hi => by
    have hl := h.len
    have h5 := g.r5
    have hcb := cst_b g h (i := i) (by omega)
    have htb := totF_b g h i (by omega)
    have ih := costs_l0 U m (i + 1) (by omega)
    have hin := costs_l1 g h U _ i (by omega) (mapR i (cst R T c)) (totF R T c i) (mapR_len _ _) (by
      rw [mapR_succ, wsm (by unfold sm; omega)]; exact ih) T.length 0 0 (by omega) (by omega) (by omega) (by unfold cst; omega)
    refine Ev.step (fun n => ?_) hin
    simp only [jam_game_costs.l0]
    rw [if_pos (by omega), if_pos (by omega), if_pos (by omega), mapR_len]
    rfl
theorem costs_ev : Ev (fun n => jam_game_costs.f n R (unitsOf T) (payF T) c) (mapR R.length (cst R T c), totF R T c R.length) := by
  unfold jam_game_costs.f
  exact Ev.bind (users_ev g h (payF T)) (costs_l0 g h (unitsOf T) R.length 0 (by omega))
end
end Go.Proofs.Ytjgbdicbdlollaa.B
namespace Go.Proofs.Ytjgbdicbdlollaa.B
open Go.RowKit Go.Sort Go.Proofs.YtjgbdicbdlollaaW.PrintWords Go.Proofs.YtjgbdicbdlollaaW.PrintLast Go.Proofs.YtjgbdicbdlollaaW.PrintMore
set_option linter.unusedVariables false
set_option linter.unusedSimpArgs false
theorem allRd {l : List Int} {P : Int → Prop} : (∀ q : Nat, q < l.length → P (rd l (q : Int))) ↔ ∀ x ∈ l, P x := by
  constructor
  · intro h x hx
    obtain ⟨q, hq, rfl⟩ := List.mem_iff_getElem.1 hx
    rw [← rdN l q hq]; exact h q hq
  · intro h q hq
    exact h _ (rd_mem2 l q hq)
theorem all_rdL {l : List (List Int)} {P : List Int → Prop} : (∀ q : Nat, q < l.length → P (rd_L12 l (q : Int))) ↔ ∀ x ∈ l, P x := by
  constructor
  · intro h x hx
    obtain ⟨q, hq, rfl⟩ := List.mem_iff_getElem.1 hx
    rw [← rdL l q hq]; exact h q hq
  · intro h q hq
    exact h _ (rdL_mem l q hq)
theorem shl_pow {m : Nat} (h : m ≤ 8) : shl .i64 1 (m : Int) = 2 ^ m := by
  have : ∀ a : Fin 9, shl .i64 1 ((a.val : Nat) : Int) = 2 ^ a.val := by decide +kernel
  exact this ⟨m, by omega⟩
structure FewOk (R T : List (List Int)) (c : List Int) : Prop where
  r : R.length ≤ 20
  t : T.length ≤ 20
  rr : ∀ x ∈ R, x.length ≤ 20
  tt : ∀ x ∈ T, x.length ≤ 20
  c : c.length ≤ 20
theorem few_l1 (R T : List (List Int)) (c : List Int) : ∀ (m i : Nat), i + m = 20 → ∃ b, Ev (fun k => trishawlaw02_few.l1 k c (i : Int) R T) b ∧ (b = true ↔ (T.length ≤ 20 ∧ ∀ q : Nat, i ≤ q → q < T.length → (rd_L12 T (q : Int)).length ≤ 20) ∧ c.length ≤ 20)
  | 0, i, h => by
    by_cases hT : i < T.length
    · refine ⟨false, Ev.step (f := fun _ => some false) (fun k => ?_) (Ev.now _), by simp; intro h1; omega⟩
      simp only [trishawlaw02_few.l1]
      rw [if_pos (by omega), if_pos (by omega)]
    · refine ⟨decide ((c.length : Int) ≤ 20), Ev.step (f := fun _ => some (decide ((c.length : Int) ≤ 20))) (fun k => ?_) (Ev.now _), ?_⟩
      · simp only [trishawlaw02_few.l1]
        rw [if_neg (by omega)]
      · rw [decide_eq_true_eq]
        exact ⟨fun h1 => ⟨⟨by omega, fun q h2 h3 => by omega⟩, by omega⟩, fun h1 => by have := h1.2; omega⟩
  | m + 1, i, h => by
    by_cases hT : i < T.length
    · by_cases hl : ((rd_L12 T (i : Int)).length : Int) > 20
      · refine ⟨false, Ev.step (f := fun _ => some false) (fun k => ?_) (Ev.now _), ?_⟩
        · simp only [trishawlaw02_few.l1]
          rw [if_pos (by omega), if_neg (by omega), if_pos (by omega), if_pos hl]
        · constructor
          · intro h1; exact absurd h1 (by simp)
          · intro h1; have := h1.1.2 i (Nat.le_refl _) hT; omega
      · obtain ⟨b, hb, hi⟩ := few_l1 R T c m (i + 1) (by omega)
        refine ⟨b, Ev.step (fun k => ?_) hb, ?_⟩
        · simp only [trishawlaw02_few.l1]
          rw [if_pos (by omega), if_neg (by omega), if_pos (by omega), if_neg hl, wrapN i (by omega)]
        · rw [hi]
          refine ⟨fun h1 => ⟨⟨h1.1.1, fun q h2 h3 => ?_⟩, h1.2⟩, fun h1 => ⟨⟨h1.1.1, fun q h2 h3 => h1.1.2 q (by omega) h3⟩, h1.2⟩⟩
          by_cases he : q = i
          · subst he; omega
          · exact h1.1.2 q (by omega) h3
    · refine ⟨decide ((c.length : Int) ≤ 20), Ev.step (f := fun _ => some (decide ((c.length : Int) ≤ 20))) (fun k => ?_) (Ev.now _), ?_⟩
      · simp only [trishawlaw02_few.l1]
        rw [if_neg (by omega)]
      · rw [decide_eq_true_eq]
        exact ⟨fun h1 => ⟨⟨by omega, fun q h2 h3 => by omega⟩, by omega⟩, fun h1 => by have := h1.2; omega⟩
theorem few_l0 (R T : List (List Int)) (c : List Int) : ∀ (m i : Nat), i + m = 20 → ∃ b, Ev (fun k => trishawlaw02_few.l0 k c (i : Int) R T) b ∧ (b = true ↔ (R.length ≤ 20 ∧ ∀ q : Nat, i ≤ q → q < R.length → (rd_L12 R (q : Int)).length ≤ 20) ∧ (T.length ≤ 20 ∧ ∀ q : Nat, 0 ≤ q → q < T.length → (rd_L12 T (q : Int)).length ≤ 20) ∧ c.length ≤ 20)
  | 0, i, h => by
    by_cases hT : i < R.length
    · refine ⟨false, Ev.step (f := fun _ => some false) (fun k => ?_) (Ev.now _), by simp; intro h1; omega⟩
      simp only [trishawlaw02_few.l0]
      rw [if_pos (by omega), if_pos (by omega)]
    · obtain ⟨b, hb, hi⟩ := few_l1 R T c 20 0 rfl
      refine ⟨b, Ev.step (fun k => ?_) hb, ?_⟩
      · simp only [trishawlaw02_few.l0]
        rw [if_neg (by omega)]; rfl
      · rw [hi]
        exact ⟨fun h1 => ⟨⟨by omega, fun q h2 h3 => by omega⟩, h1⟩, fun h1 => h1.2⟩
  | m + 1, i, h => by
    by_cases hT : i < R.length
    · by_cases hl : ((rd_L12 R (i : Int)).length : Int) > 20
      · refine ⟨false, Ev.step (f := fun _ => some false) (fun k => ?_) (Ev.now _), ?_⟩
        · simp only [trishawlaw02_few.l0]
          rw [if_pos (by omega), if_neg (by omega), if_pos (by omega), if_pos hl]
        · constructor
          · intro h1; exact absurd h1 (by simp)
          · intro h1; have := h1.1.2 i (Nat.le_refl _) hT; omega
      · obtain ⟨b, hb, hi⟩ := few_l0 R T c m (i + 1) (by omega)
        refine ⟨b, Ev.step (fun k => ?_) hb, ?_⟩
        · simp only [trishawlaw02_few.l0]
          rw [if_pos (by omega), if_neg (by omega), if_pos (by omega), if_neg hl, wrapN i (by omega)]
        · rw [hi]
          refine ⟨fun h1 => ⟨⟨h1.1.1, fun q h2 h3 => ?_⟩, h1.2⟩, fun h1 => ⟨⟨h1.1.1, fun q h2 h3 => h1.1.2 q (by omega) h3⟩, h1.2⟩⟩
          by_cases he : q = i
          · subst he; omega
          · exact h1.1.2 q (by omega) h3
    · obtain ⟨b, hb, hi⟩ := few_l1 R T c 20 0 rfl
      refine ⟨b, Ev.step (fun k => ?_) hb, ?_⟩
      · simp only [trishawlaw02_few.l0]
        rw [if_neg (by omega)]; rfl
      · rw [hi]
        exact ⟨fun h1 => ⟨⟨by omega, fun q h2 h3 => by omega⟩, h1⟩, fun h1 => h1.2⟩
theorem few_ev (R T : List (List Int)) (c : List Int) : ∃ b, Ev (fun k => trishawlaw02_few.f k R T c) b ∧ (b = true ↔ FewOk R T c) := by
  obtain ⟨b, hb, hi⟩ := few_l0 R T c 20 0 rfl
  refine ⟨b, hb, hi.trans ⟨fun h => ⟨h.1.1, h.2.1.1, ?_, ?_, h.2.2⟩, fun h => ⟨⟨h.r, ?_⟩, ⟨h.t, ?_⟩, h.c⟩⟩⟩
  · exact all_rdL.1 fun q hq => h.1.2 q (Nat.zero_le _) hq
  · exact all_rdL.1 fun q hq => h.2.1.2 q (Nat.zero_le _) hq
  · exact fun q _ hq => h.rr _ (rdL_mem R q hq)
  · exact fun q _ hq => h.tt _ (rdL_mem T q hq)
section
variable (R T : List (List Int)) (h5 : R.length ≤ 5) (h8 : T.length ≤ 8)
include h5 h8
theorem ig_l3 (k : Nat) (hk : k < T.length) (hl : (rd_L12 T (k : Int)).length = R.length) (b2 : Bool) (h2 : Ev (fun n => trishawref02_IsGame.l2 n (R.length : Int) (T.length : Int) ((k + 1 : Nat) : Int) R T) b2) : ∀ (m j : Nat), j + m = R.length →
    ∃ b, Ev (fun n => trishawref02_IsGame.l3 n (R.length : Int) (T.length : Int) (k : Int) (j : Int) R T) b ∧ (b = true ↔ (∀ q : Nat, j ≤ q → q < R.length → 0 ≤ rd (rd_L12 T (k : Int)) (q : Int) ∧ rd (rd_L12 T (k : Int)) (q : Int) ≤ 1000) ∧ b2 = true)
  | 0, j, h => by
    refine ⟨b2, Ev.step (fun n => ?_) h2, ⟨fun h => ⟨fun q h1 h2 => by omega, h⟩, fun h => h.2⟩⟩
    simp only [trishawref02_IsGame.l3]
    rw [if_neg (by omega), wrapN k (by omega)]
  | m + 1, j, h => by
    by_cases hx : 0 ≤ rd (rd_L12 T (k : Int)) (j : Int) ∧ rd (rd_L12 T (k : Int)) (j : Int) ≤ 1000
    · obtain ⟨b, hb, hi⟩ := ig_l3 k hk hl b2 h2 m (j + 1) (by omega)
      refine ⟨b, Ev.step (fun n => ?_) hb, hi.trans ⟨fun h => ⟨fun q h1 h2 => ?_, h.2⟩, fun h => ⟨fun q h1 h2 => h.1 q (by omega) h2, h.2⟩⟩⟩
      · simp only [trishawref02_IsGame.l3]
        rw [if_pos (by omega), if_pos (by omega), if_pos (by omega), if_pos (by omega), if_pos (by omega), if_neg (by omega), if_neg (by omega), wrapN j (by omega)]
      · by_cases he : q = j
        · subst he; exact hx
        · exact h.1 q (by omega) h2
    · refine ⟨false, Ev.step (f := fun _ => some false) (fun n => ?_) (Ev.now _), ⟨fun h => absurd h (by simp), fun h => absurd (h.1 j (Nat.le_refl _) (by omega)) hx⟩⟩
      simp only [trishawref02_IsGame.l3]
      rw [if_pos (by omega), if_pos (by omega), if_pos (by omega), if_pos (by omega), if_pos (by omega)]
      by_cases h0 : rd (rd_L12 T (k : Int)) (j : Int) < 0
      · rw [if_pos h0]
      · rw [if_neg h0, if_pos (by omega)]
theorem ig_l2 : ∀ (m k : Nat), k + m = T.length → ∃ b, Ev (fun n => trishawref02_IsGame.l2 n (R.length : Int) (T.length : Int) (k : Int) R T) b ∧ (b = true ↔ ∀ q : Nat, k ≤ q → q < T.length → (rd_L12 T (q : Int)).length = R.length ∧ ∀ x ∈ rd_L12 T (q : Int), 0 ≤ x ∧ x ≤ 1000)
  | 0, k, h => by
    refine ⟨true, Ev.step (f := fun _ => some true) (fun n => ?_) (Ev.now _), ⟨fun _ q h1 h2 => by omega, fun _ => rfl⟩⟩
    simp only [trishawref02_IsGame.l2]
    rw [if_neg (by omega)]
  | m + 1, k, h => by
    by_cases hl : (rd_L12 T (k : Int)).length = R.length
    · obtain ⟨b2, hb2, hi2⟩ := ig_l2 m (k + 1) (by omega)
      obtain ⟨b, hb, hi⟩ := ig_l3 R T h5 h8 k (by omega) hl b2 hb2 R.length 0 (by omega)
      refine ⟨b, Ev.step (fun n => ?_) hb, hi.trans ⟨fun h q h1 h2 => ?_, fun h => ⟨fun q h1 h2 => ?_, hi2.2 fun q h1 h2 => h q (by omega) h2⟩⟩⟩
      · simp only [trishawref02_IsGame.l2]
        rw [if_pos (by omega), if_pos (by omega), if_pos (by omega), if_pos (by omega)]
        rfl
      · by_cases he : q = k
        · subst he
          exact ⟨hl, allRd.1 fun p hp => h.1 p (Nat.zero_le _) (by omega)⟩
        · exact hi2.1 h.2 q (by omega) h2
      · exact (h k (Nat.le_refl _) (by omega)).2 _ (rd_mem2 _ q (by omega))
    · refine ⟨false, Ev.step (f := fun _ => some false) (fun n => ?_) (Ev.now _), ⟨fun h => absurd h (by simp), fun h => absurd (h k (Nat.le_refl _) (by omega)).1 hl⟩⟩
      simp only [trishawref02_IsGame.l2]
      rw [if_pos (by omega), if_pos (by omega), if_pos (by omega), if_neg (by omega)]
theorem ig_l1 (i : Nat) (hi : i < R.length) (hl : (rd_L12 R (i : Int)).length ≤ 5) (b2 : Bool) (h2 : Ev (fun n => trishawref02_IsGame.l0 n (R.length : Int) (T.length : Int) ((i + 1 : Nat) : Int) R T) b2) : ∀ (m j : Nat), j + m = (rd_L12 R (i : Int)).length →
    ∃ b, Ev (fun n => trishawref02_IsGame.l1 n (R.length : Int) (T.length : Int) (i : Int) (j : Int) R T) b ∧ (b = true ↔ (∀ q : Nat, j ≤ q → q < (rd_L12 R (i : Int)).length → 1 ≤ rd (rd_L12 R (i : Int)) (q : Int) ∧ rd (rd_L12 R (i : Int)) (q : Int) < 2 ^ T.length) ∧ b2 = true)
  | 0, j, h => by
    refine ⟨b2, Ev.step (fun n => ?_) h2, ⟨fun h => ⟨fun q h1 h2 => by omega, h⟩, fun h => h.2⟩⟩
    simp only [trishawref02_IsGame.l1]
    rw [if_pos (by omega), if_pos (by omega), if_neg (by omega), wrapN i (by omega)]
  | m + 1, j, h => by
    have hs := shl_pow h8
    by_cases hx : 1 ≤ rd (rd_L12 R (i : Int)) (j : Int) ∧ rd (rd_L12 R (i : Int)) (j : Int) < 2 ^ T.length
    · obtain ⟨b, hb, hi2⟩ := ig_l1 i hi hl b2 h2 m (j + 1) (by omega)
      refine ⟨b, Ev.step (fun n => ?_) hb, hi2.trans ⟨fun h => ⟨fun q h1 h2 => ?_, h.2⟩, fun h => ⟨fun q h1 h2 => h.1 q (by omega) h2, h.2⟩⟩⟩
      · simp only [trishawref02_IsGame.l1]
        rw [if_pos (by omega), if_pos (by omega), if_pos (by omega), if_pos (by omega), if_neg (by omega), if_pos (by omega), hs, if_neg (by omega), wrapN j (by omega)]
      · by_cases he : q = j
        · subst he; exact hx
        · exact h.1 q (by omega) h2
    · refine ⟨false, Ev.step (f := fun _ => some false) (fun n => ?_) (Ev.now _), ⟨fun h => absurd h (by simp), fun h => absurd (h.1 j (Nat.le_refl _) (by omega)) hx⟩⟩
      simp only [trishawref02_IsGame.l1]
      rw [if_pos (by omega), if_pos (by omega), if_pos (by omega), if_pos (by omega)]
      by_cases h0 : rd (rd_L12 R (i : Int)) (j : Int) < 1
      · rw [if_pos h0]
      · rw [if_neg h0, if_pos (by omega), hs, if_pos (by omega)]
theorem ig_l0 : ∀ (m i : Nat), i + m = R.length → ∃ b, Ev (fun n => trishawref02_IsGame.l0 n (R.length : Int) (T.length : Int) (i : Int) R T) b ∧ (b = true ↔ (∀ q : Nat, i ≤ q → q < R.length → 1 ≤ (rd_L12 R (q : Int)).length ∧ (rd_L12 R (q : Int)).length ≤ 5 ∧ ∀ x ∈ rd_L12 R (q : Int), 1 ≤ x ∧ x < 2 ^ T.length) ∧ (∀ q : Nat, q < T.length → (rd_L12 T (q : Int)).length = R.length ∧ ∀ x ∈ rd_L12 T (q : Int), 0 ≤ x ∧ x ≤ 1000))
  | 0, i, h => by
    obtain ⟨b2, hb2, hi2⟩ := ig_l2 R T h5 h8 T.length 0 (by omega)
    refine ⟨b2, Ev.step (fun n => ?_) hb2, hi2.trans ⟨fun h => ⟨fun q h1 h2 => by omega, fun q h1 => h q (Nat.zero_le _) h1⟩, fun h q _ h1 => h.2 q h1⟩⟩
    simp only [trishawref02_IsGame.l0]
    rw [if_neg (by omega)]
    rfl
  | m + 1, i, h => by
    have hbad : ¬ (1 ≤ (rd_L12 R (i : Int)).length ∧ (rd_L12 R (i : Int)).length ≤ 5) → Ev (fun n => trishawref02_IsGame.l0 n (R.length : Int) (T.length : Int) (i : Int) R T) false := by
      intro hx
      have hj : Ev (fun n => trishawref02_IsGame.j2 n (R.length : Int) (T.length : Int) (i : Int) true R T) false := Ev.step (f := fun _ => some false) (fun n => by simp [trishawref02_IsGame.j2]) (Ev.now _)
      refine Ev.step (fun n => ?_) hj
      simp only [trishawref02_IsGame.l0]
      rw [if_pos (by omega), if_pos (by omega), if_pos (by omega)]
      by_cases h0 : ((rd_L12 R (i : Int)).length : Int) < 1
      · rw [if_pos h0]
      · rw [if_neg h0, decide_eq_true (by omega)]
    by_cases hx : 1 ≤ (rd_L12 R (i : Int)).length ∧ (rd_L12 R (i : Int)).length ≤ 5
    · obtain ⟨b2, hb2, hi2⟩ := ig_l0 m (i + 1) (by omega)
      obtain ⟨b, hb, hi3⟩ := ig_l1 R T h5 h8 i (by omega) hx.2 b2 hb2 _ 0 (Nat.zero_add _)
      have hj : Ev (fun n => trishawref02_IsGame.j2 n (R.length : Int) (T.length : Int) (i : Int) false R T) b := Ev.step (fun n => by simp only [trishawref02_IsGame.j2]; rw [if_neg (by simp)]; rfl) hb
      refine ⟨b, Ev.step (fun n => ?_) hj, hi3.trans ⟨fun h => ⟨fun q h1 h2 => ?_, (hi2.1 h.2).2⟩, fun h => ⟨fun q h1 h2 => ?_, hi2.2 ⟨fun q h1 h2 => h.1 q (by omega) h2, h.2⟩⟩⟩⟩
      · simp only [trishawref02_IsGame.l0]
        rw [if_pos (by omega), if_pos (by omega), if_pos (by omega), if_neg (by omega), decide_eq_false (by omega)]
      · by_cases he : q = i
        · subst he
          exact ⟨hx.1, hx.2, allRd.1 fun p hp => h.1 p (Nat.zero_le _) hp⟩
        · exact (hi2.1 h.2).1 q (by omega) h2
      · exact (h.1 i (Nat.le_refl _) (by omega)).2.2 _ (rd_mem2 _ q h2)
    · refine ⟨false, hbad hx, ⟨fun h => absurd h (by simp), fun h => absurd ⟨(h.1 i (Nat.le_refl _) (by omega)).1, (h.1 i (Nat.le_refl _) (by omega)).2.1⟩ hx⟩⟩
end
theorem isGame_ev (R T : List (List Int)) : ∃ b, Ev (fun k => trishawref02_IsGame.f k R T) b ∧ (b = true ↔ GameOk R T) := by
  by_cases hx : 1 ≤ R.length ∧ R.length ≤ 5 ∧ 1 ≤ T.length ∧ T.length ≤ 8
  · obtain ⟨b, hb, hi⟩ := ig_l0 R T hx.2.1 hx.2.2.2 R.length 0 (by omega)
    have hj : Ev (fun n => trishawref02_IsGame.j0 n (R.length : Int) (T.length : Int) false R T) b := Ev.step (fun n => by simp only [trishawref02_IsGame.j0]; rw [if_neg (by simp)]; rfl) hb
    refine ⟨b, Ev.congr (fun k => ?_) hj, hi.trans ⟨fun h => ⟨hx.1, hx.2.1, hx.2.2.1, hx.2.2.2, all_rdL.1 fun q hq => h.1 q (Nat.zero_le _) hq, all_rdL.1 h.2⟩, fun h => ⟨fun q _ hq => h.row _ (rdL_mem R q hq), fun q hq => h.toll _ (rdL_mem T q hq)⟩⟩⟩
    unfold trishawref02_IsGame.f
    rw [if_neg (by omega), if_neg (by omega), if_neg (by omega), decide_eq_false (by omega)]
  · have hj : Ev (fun n => trishawref02_IsGame.j0 n (R.length : Int) (T.length : Int) true R T) false := Ev.step (f := fun _ => some false) (fun n => by simp [trishawref02_IsGame.j0]) (Ev.now _)
    refine ⟨false, Ev.congr (fun k => ?_) hj, ⟨fun h => absurd h (by simp), fun h => absurd ⟨h.r1, h.r5, h.t1, h.t8⟩ hx⟩⟩
    unfold trishawref02_IsGame.f
    by_cases h1 : (R.length : Int) < 1
    · rw [if_pos h1]
    · rw [if_neg h1]
      by_cases h2 : (R.length : Int) > 5
      · rw [if_pos h2]
      · rw [if_neg h2]
        by_cases h3 : (T.length : Int) < 1
        · rw [if_pos h3]
        · rw [if_neg h3, decide_eq_true (by omega)]
theorem ic_l0 (R T : List (List Int)) (c : List Int) (hl : c.length = R.length) (h5 : R.length ≤ 20) : ∀ (m i : Nat), i + m = R.length → ∃ b, Ev (fun k => trishawref02_IsChoice.l0 k c (i : Int) R T) b ∧ (b = true ↔ ∀ q : Nat, i ≤ q → q < R.length → 0 ≤ rd c (q : Int) ∧ rd c (q : Int) < ((rd_L12 R (q : Int)).length : Int))
  | 0, i, h => by
    refine ⟨true, Ev.step (f := fun _ => some true) (fun n => ?_) (Ev.now _), ⟨fun _ q h1 h2 => by omega, fun _ => rfl⟩⟩
    simp only [trishawref02_IsChoice.l0]
    rw [if_neg (by omega)]
  | m + 1, i, h => by
    by_cases hx : 0 ≤ rd c (i : Int) ∧ rd c (i : Int) < ((rd_L12 R (i : Int)).length : Int)
    · obtain ⟨b, hb, hi⟩ := ic_l0 R T c hl h5 m (i + 1) (by omega)
      refine ⟨b, Ev.step (fun n => ?_) hb, hi.trans ⟨fun h q h1 h2 => ?_, fun h q h1 h2 => h q (by omega) h2⟩⟩
      · simp only [trishawref02_IsChoice.l0]
        rw [if_pos (by omega), if_pos (by omega), if_neg (by omega), if_pos (by omega), if_neg (by omega), wrapN i (by omega)]
      · by_cases he : q = i
        · subst he; exact hx
        · exact h q (by omega) h2
    · refine ⟨false, Ev.step (f := fun _ => some false) (fun n => ?_) (Ev.now _), ⟨fun h => absurd h (by simp), fun h => absurd (h i (Nat.le_refl _) (by omega)) hx⟩⟩
      simp only [trishawref02_IsChoice.l0]
      rw [if_pos (by omega), if_pos (by omega)]
      by_cases h0 : rd c (i : Int) < 0
      · rw [if_pos h0]
      · rw [if_neg h0, if_pos (by omega), if_pos (by omega)]
theorem isChoice_ev (R T : List (List Int)) (c : List Int) (h5 : R.length ≤ 20) : ∃ b, Ev (fun k => trishawref02_IsChoice.f k R T c) b ∧ (b = true ↔ ChOk R c) := by
  by_cases hl : c.length = R.length
  · obtain ⟨b, hb, hi⟩ := ic_l0 R T c hl h5 R.length 0 (by omega)
    refine ⟨b, Ev.congr (fun k => ?_) hb, hi.trans ⟨fun h => ⟨hl, fun i hi => h i (Nat.zero_le _) hi⟩, fun h q _ hq => h.ok q hq⟩⟩
    unfold trishawref02_IsChoice.f
    rw [if_pos (by omega)]
    rfl
  · refine ⟨false, Ev.congr (f := fun _ => some false) (fun k => ?_) (Ev.now _), ⟨fun h => absurd h (by simp), fun h => absurd h.len hl⟩⟩
    unfold trishawref02_IsChoice.f
    rw [if_neg (by omega)]
theorem le_minU (l : List Int) (a : Int) : ∀ i : Nat, a ≤ minU l i ↔ ∀ q : Nat, q ≤ i → a ≤ rd l (q : Int)
  | 0 => by
    simp only [minU]
    exact ⟨fun h q hq => by obtain rfl : q = 0 := by omega
                            exact h, fun h => h 0 (Nat.le_refl _)⟩
  | i + 1 => by
    have ih := le_minU l a i
    have e : a ≤ minU l (i + 1) ↔ a ≤ minU l i ∧ a ≤ rd l ((i + 1 : Nat) : Int) := by
      simp only [minU, mn]
      split <;> omega
    rw [e, ih]
    refine ⟨fun h q hq => ?_, fun h => ⟨fun q hq => h q (by omega), h _ (Nat.le_refl _)⟩⟩
    by_cases he : q = i + 1
    · subst he; exact h.2
    · exact h.1 q (by omega)
theorem maxU_le (l : List Int) (a : Int) : ∀ i : Nat, maxU l i ≤ a ↔ ∀ q : Nat, q ≤ i → rd l (q : Int) ≤ a
  | 0 => by
    simp only [maxU]
    exact ⟨fun h q hq => by obtain rfl : q = 0 := by omega
                            exact h, fun h => h 0 (Nat.le_refl _)⟩
  | i + 1 => by
    have ih := maxU_le l a i
    have e : maxU l (i + 1) ≤ a ↔ maxU l i ≤ a ∧ rd l ((i + 1 : Nat) : Int) ≤ a := by
      simp only [maxU, mx]
      split <;> omega
    rw [e, ih]
    refine ⟨fun h q hq => ?_, fun h => ⟨fun q hq => h q (by omega), h _ (Nat.le_refl _)⟩⟩
    by_cases he : q = i + 1
    · subst he; exact h.2
    · exact h.1 q (by omega)
theorem minU_all (l : List Int) (a : Int) (h : 1 ≤ l.length) : a ≤ minU l (l.length - 1) ↔ ∀ x ∈ l, a ≤ x := by
  rw [le_minU, ← allRd]
  exact ⟨fun h1 q hq => h1 q (by omega), fun h1 q hq => h1 q (by omega)⟩
theorem maxU_all (l : List Int) (a : Int) (h : 1 ≤ l.length) : maxU l (l.length - 1) ≤ a ↔ ∀ x ∈ l, x ≤ a := by
  rw [maxU_le, ← allRd]
  exact ⟨fun h1 q hq => h1 q (by omega), fun h1 q hq => h1 q (by omega)⟩
theorem readOk_iff (R T : List (List Int)) : readOk R T = true ↔ GameOk R T := by
  unfold readOk
  simp only [Bool.and_eq_true, decide_eq_true_eq, List.all_eq_true]
  constructor
  · rintro ⟨⟨⟨⟨⟨h1, h2⟩, h3⟩, h4⟩, h5⟩, h6⟩
    refine ⟨h1, h2, h3, h4, fun l hl => ?_, fun t ht => ?_⟩
    · have := h6 l hl
      unfold routeOk at this
      simp only [Bool.and_eq_true, decide_eq_true_eq] at this
      obtain ⟨⟨⟨a1, a2⟩, a3⟩, a4⟩ := this
      rw [shl_pow h4] at a4
      refine ⟨a1, a2, fun x hx => ⟨(minU_all l 1 a1).1 a3 x hx, ?_⟩⟩
      have := (maxU_all l (2 ^ T.length - 1) a1).1 (by omega) x hx
      omega
    · have := h5 t ht
      unfold tollOk at this
      simp only [Bool.and_eq_true, decide_eq_true_eq] at this
      obtain ⟨⟨a1, a2⟩, a3⟩ := this
      exact ⟨a1, fun x hx => ⟨(minU_all t 0 (by omega)).1 a2 x hx, (maxU_all t 1000 (by omega)).1 a3 x hx⟩⟩
  · intro g
    refine ⟨⟨⟨⟨⟨g.r1, g.r5⟩, g.t1⟩, g.t8⟩, fun t ht => ?_⟩, fun l hl => ?_⟩
    · have h := g.toll t ht
      have h1 := g.r1
      unfold tollOk
      simp only [Bool.and_eq_true, decide_eq_true_eq]
      exact ⟨⟨h.1, (minU_all t 0 (by omega)).2 fun x hx => (h.2 x hx).1⟩, (maxU_all t 1000 (by omega)).2 fun x hx => (h.2 x hx).2⟩
    · have h := g.row l hl
      unfold routeOk
      simp only [Bool.and_eq_true, decide_eq_true_eq]
      refine ⟨⟨⟨h.1, h.2.1⟩, (minU_all l 1 h.1).2 fun x hx => (h.2.2 x hx).1⟩, ?_⟩
      rw [shl_pow g.t8]
      have := (maxU_all l (2 ^ T.length - 1) h.1).2 fun x hx => by have := (h.2.2 x hx).2; omega
      omega
theorem choiceOk_iff (R : List (List Int)) (c : List Int) : choiceOk R c = true ↔ ChOk R c := by
  unfold choiceOk
  simp only [Bool.and_eq_true, decide_eq_true_eq, List.all_eq_true, List.mem_range]
  exact ⟨fun h => ⟨h.1, fun i hi => h.2 i (by omega)⟩, fun h => ⟨h.len, fun i hi => h.ok i (by have := h.len; omega)⟩⟩
theorem playOk_iff (R T : List (List Int)) (c : List Int) : playOk R T c = true ↔ GameOk R T ∧ ChOk R c := by
  unfold playOk
  rw [Bool.and_eq_true, readOk_iff, choiceOk_iff]
end Go.Proofs.Ytjgbdicbdlollaa.B
namespace Go.Proofs.Ytjgbdicbdlollaa.B
open Go.RowKit Go.Sort Go.Proofs.YtjgbdicbdlollaaW.PrintWords Go.Proofs.YtjgbdicbdlollaaW.PrintLast Go.Proofs.YtjgbdicbdlollaaW.PrintMore
set_option linter.unusedVariables false
set_option linter.unusedSimpArgs false
def Agree (i : Nat) (a b : List Int) : Prop := ∀ j : Nat, j < i → rd a (j : Int) = rd b (j : Int)
def LexLe (n : Nat) (b c : List Int) : Prop := b = c ∨ ∃ j : Nat, j < n ∧ Agree j b c ∧ rd b (j : Int) < rd c (j : Int)
abbrev tot (R T : List (List Int)) (c : List Int) : Int := totF R T c R.length
structure Inv (R T : List (List Int)) (i : Nat) (ch0 : List Int) (s0 : List Int × Int) (r : Nat) (s : List Int × Int) : Prop where
  low : ∀ c', ChOk R c' → Agree i c' ch0 → rd c' (i : Int) < r → s.2 ≤ tot R T c' ∧ (s.2 = tot R T c' → s = s0 ∨ LexLe R.length s.1 c')
  own : s = s0 ∨ (ChOk R s.1 ∧ tot R T s.1 = s.2 ∧ Agree i s.1 ch0 ∧ rd s.1 (i : Int) < r ∧ (s0.1 = [] ∨ s.2 < s0.2))
  some_ : 0 < r → s.1 ≠ []
theorem jcosts_ev {R T : List (List Int)} {c : List Int} (g : GameOk R T) (h : ChOk R c) : Ev (fun k => jam_Costs.f k R T c) (mapR R.length (cst R T c), tot R T c, 0) := by
  unfold jam_Costs.f
  exact Ev.congr (fun k => if_pos ((playOk_iff R T c).2 ⟨g, h⟩)) (Ev.bind (costs_ev g h) (Ev.now _))
end Go.Proofs.Ytjgbdicbdlollaa.B
namespace Go.Proofs.Ytjgbdicbdlollaa.B
open Go.RowKit Go.Sort Go.Proofs.YtjgbdicbdlollaaW.PrintWords Go.Proofs.YtjgbdicbdlollaaW.PrintLast Go.Proofs.YtjgbdicbdlollaaW.PrintMore
set_option linter.unusedVariables false
set_option linter.unusedSimpArgs false
set_option linter.unusedSectionVars false
section
variable {R T : List (List Int)} {c : List Int} (g : GameOk R T) (h : ChOk R c)
include g h
theorem loads_l1 (r : List Int) (i : Nat) (hi : i < R.length) (hn : Ev (fun k => trishawref02_loads.l0 k c (mapR T.length (uF R c (i + 1))) ((i + 1 : Nat) : Int) R T) r) : ∀ (m k : Nat), k + m = T.length →
    Ev (fun n => trishawref02_loads.l1 n c (mapR T.length (fun j => if j < k then uF R c (i + 1) j else uF R c i j)) (i : Int) (k : Int) R T) r
  | 0, k, hk => by
    have h5 := g.r5
    rw [mapR_congr (g := uF R c (i + 1)) (fun j hj => if_pos (by omega))]
    refine Ev.step (fun n => ?_) hn
    simp only [trishawref02_loads.l1]
    rw [if_neg (by rw [mapR_len]; omega), wrapN i (by omega)]
  | m + 1, k, hk => by
    have h5 := g.r5
    have h8 := g.t8
    have hl := h.len
    have hb := rte_b g h hi
    have hp := pow_b g.t8
    have hc := h.ok i hi
    have hbk := bk_and (x := rte R c i) (k := k) (by omega) (by omega) (by omega)
    have hu := uF_b g h (k := k) (by omega) i (by omega)
    have ih := loads_l1 r i hi hn m (k + 1) (by omega)
    refine Ev.step (fun n => ?_) ih
    simp only [trishawref02_loads.l1]
    rw [if_pos (by rw [mapR_len]; omega), if_pos (by omega), if_pos (by omega), if_pos (by omega), if_pos (by omega), if_pos hc.1, if_pos hc.2, mapR_rd (by omega), if_neg (by omega), show rd (rd_L12 R (i : Int)) (rd c (i : Int)) = rte R c i from rfl, hbk.2.1, wsm (by unfold sm; omega), wrapN k (by omega), Int.toNat_natCast, mapR_set]
    congr 1
    refine mapR_congr fun j hj => ?_
    by_cases h1 : j = k
    · subst h1; rw [if_pos rfl, if_pos (by omega)]; rfl
    · rw [if_neg h1]
      by_cases h2 : j < k
      · rw [if_pos h2, if_pos (by omega)]
      · rw [if_neg h2, if_neg (by omega)]
theorem loads_l0 : ∀ (m i : Nat), i + m = R.length → Ev (fun n => trishawref02_loads.l0 n c (mapR T.length (uF R c i)) (i : Int) R T) (mapR T.length (uF R c R.length))
  | 0, i, hi => by
    have e : i = R.length := by omega
    subst e
    have hl := h.len
    refine Ev.step (f := fun _ => some (mapR T.length (uF R c R.length))) (fun n => ?_) (Ev.now _)
    simp only [trishawref02_loads.l0]
    rw [if_neg (by omega)]
  | m + 1, i, hi => by
    have hl := h.len
    have h5 := g.r5
    have ih := loads_l0 m (i + 1) (by omega)
    have hin := loads_l1 g h _ i (by omega) ih T.length 0 (by omega)
    rw [mapR_congr (g := uF R c i) (fun j hj => if_neg (by omega))] at hin
    refine Ev.step (fun n => ?_) hin
    simp only [trishawref02_loads.l0]
    rw [if_pos (by omega)]
    rfl
theorem loads_ev : Ev (fun n => trishawref02_loads.f n R T c) (mapR T.length (uF R c R.length)) := by
  have h8 := g.t8
  have := loads_l0 g h R.length 0 (by omega)
  rw [show mapR T.length (uF R c 0) = List.replicate T.length (0 : Int) from (mapR_zero _).symm] at this
  refine Ev.congr (fun n => ?_) this
  unfold trishawref02_loads.f
  rw [if_pos (Int.natCast_nonneg _), Int.toNat_natCast, if_pos (by omega)]
  rfl
theorem cost_l0 (i : Nat) (hi : i < R.length) : ∀ (m k : Nat) (a : Int), k + m = T.length → 0 ≤ a → a ≤ 1000 * k → a + payS R T c i m k = cst R T c i →
    Ev (fun n => trishawref02_cost.l0 n c (i : Int) (mapR T.length (uF R c R.length)) a (k : Int) R T) (cst R T c i)
  | 0, k, a, hk, a0, a1, ha => by
    have e : a = cst R T c i := by simp only [payS] at ha; omega
    subst e
    refine Ev.step (f := fun _ => some (cst R T c i)) (fun n => ?_) (Ev.now _)
    simp only [trishawref02_cost.l0]
    rw [if_neg (by rw [mapR_len]; omega)]
  | m + 1, k, a, hk, a0, a1, ha => by
    have h5 := g.r5
    have h8 := g.t8
    have hl := h.len
    have hb := rte_b g h hi
    have hp := pow_b g.t8
    have hc := h.ok i hi
    have hbk := bk_and (x := rte R c i) (k := k) (by omega) (by omega) (by omega)
    simp only [payS] at ha
    by_cases hb1 : bk (rte R c i) k = 1
    · rw [if_pos hb1] at ha
      have hpay := pay_b g h (k := k) (by omega) hi hb1
      have hu := uF_b g h (k := k) (by omega) R.length (Nat.le_refl _)
      have hu1 := uF_pos g h (k := k) (by omega) R.length (Nat.le_refl _) hi hb1
      have ht := g.toll _ (rdL_mem T k (by omega))
      have ih := cost_l0 i hi m (k + 1) (a + rd (rd_L12 T (k : Int)) (uF R c R.length k - 1)) (by omega) (by omega) (by omega) (by omega)
      refine Ev.step (fun n => ?_) ih
      simp only [trishawref02_cost.l0]
      rw [if_pos (by rw [mapR_len]; omega), if_pos (by omega), if_pos (by omega), if_pos (by omega), if_pos hc.1, if_pos hc.2, if_pos (by omega), show rd (rd_L12 R (i : Int)) (rd c (i : Int)) = rte R c i from rfl, hbk.2.1, if_pos hb1, if_pos (by omega), mapR_rd (by omega), wsm (x := uF R c R.length k - 1) (by unfold sm; omega), if_pos (by omega), if_pos (by omega), wsm (by unfold sm; omega), wrapN k (by omega)]
    · rw [if_neg hb1] at ha
      have ih := cost_l0 i hi m (k + 1) a (by omega) (by omega) (by omega) (by omega)
      refine Ev.step (fun n => ?_) ih
      simp only [trishawref02_cost.l0]
      rw [if_pos (by rw [mapR_len]; omega), if_pos (by omega), if_pos (by omega), if_pos (by omega), if_pos hc.1, if_pos hc.2, if_pos (by omega), show rd (rd_L12 R (i : Int)) (rd c (i : Int)) = rte R c i from rfl, hbk.2.1, if_neg hb1, wrapN k (by omega)]
theorem cost_ev (i : Nat) (hi : i < R.length) : Ev (fun n => trishawref02_cost.f n R T c (i : Int)) (cst R T c i) := by
  unfold trishawref02_cost.f
  exact Ev.bind (loads_ev g h) (cost_l0 g h i hi T.length 0 0 (by omega) (by omega) (by omega) (by unfold cst; omega))
theorem total_l0 : ∀ (m i : Nat), i + m = R.length → Ev (fun n => trishawref02_total.l0 n c (totF R T c i) (i : Int) R T) (tot R T c)
  | 0, i, hi => by
    have e : i = R.length := by omega
    subst e
    have hl := h.len
    refine Ev.step (f := fun _ => some (tot R T c)) (fun n => ?_) (Ev.now _)
    simp only [trishawref02_total.l0]
    rw [if_neg (by omega)]
  | m + 1, i, hi => by
    have hl := h.len
    have h5 := g.r5
    have hcb := cst_b g h (i := i) (by omega)
    have htb := totF_b g h i (by omega)
    have ih := total_l0 m (i + 1) (by omega)
    simp only [totF] at ih
    refine Ev.step (fun n => ?_) (Ev.bind (f := fun n t => trishawref02_total.l0 n c (wrap64 (totF R T c i + t)) (wrap64 ((i : Int) + 1)) R T) (cost_ev g h i (by omega)) (Ev.congr (fun n => by rw [wsm (by unfold sm; omega), wrapN i (by omega)]) ih))
    simp only [trishawref02_total.l0]
    rw [if_pos (by omega)]
theorem total_ev : Ev (fun n => trishawref02_total.f n R T c) (tot R T c) := by
  unfold trishawref02_total.f
  exact total_l0 g h R.length 0 (by omega)
theorem rcosts_l0 : ∀ (m i : Nat), i + m = R.length → Ev (fun n => trishawref02_Costs.l0 n c (mapR i (cst R T c)) (i : Int) R T) (mapR R.length (cst R T c), tot R T c, 0)
  | 0, i, hi => by
    have e : i = R.length := by omega
    subst e
    have hl := h.len
    refine Ev.step (fun n => ?_) (Ev.bind (f := fun _ t => some (mapR R.length (cst R T c), t, (0 : Int))) (total_ev g h) (Ev.now _))
    simp only [trishawref02_Costs.l0]
    rw [if_neg (by omega)]
  | m + 1, i, hi => by
    have hl := h.len
    have h5 := g.r5
    have ih := rcosts_l0 m (i + 1) (by omega)
    refine Ev.step (fun n => ?_) (Ev.bind (f := fun n t => if (mapR i (cst R T c)).length < 17592186044416 then trishawref02_Costs.l0 n c (mapR i (cst R T c) ++ [t]) (wrap64 ((i : Int) + 1)) R T else none) (cost_ev g h i (by omega)) (Ev.congr (fun n => by rw [if_pos (by rw [mapR_len]; omega), mapR_succ, wrapN i (by omega)]) ih))
    simp only [trishawref02_Costs.l0]
    rw [if_pos (by omega)]
end
/-- What drivers pay on a street, from the u-th on. -/
def pIn (t : List Int) : Nat → Nat → Int
  | 0, _ => 0
  | m + 1, u => rd t (u : Int) + pIn t m (u + 1)
def pO (R T : List (List Int)) (c : List Int) : Nat → Nat → Int
  | 0, _ => 0
  | m + 1, k => pIn (rd_L12 T (k : Int)) (uF R c R.length k).toNat 0 + pO R T c m (k + 1)
abbrev pot (R T : List (List Int)) (c : List Int) : Int := pO R T c T.length 0
theorem pIn_b {t : List Int} (ht : ∀ x ∈ t, 0 ≤ x ∧ x ≤ 1000) : ∀ (m u : Nat), u + m ≤ t.length → 0 ≤ pIn t m u ∧ pIn t m u ≤ 1000 * m
  | 0, _, _ => by simp [pIn]
  | m + 1, u, h => by
    have ih := pIn_b ht m (u + 1) (by omega)
    have := ht _ (rd_mem2 t u (by omega))
    simp only [pIn]
    omega
section
variable {R T : List (List Int)} {c : List Int} (g : GameOk R T) (h : ChOk R c)
include g
theorem potIn_ev (k : Nat) (hk : k < T.length) : ∀ (m u : Nat) (s : Int), u + m ≤ R.length → 0 ≤ s → s ≤ 100000 + 1000 * u → potIn T (k : Int) m u s = some (s + pIn (rd_L12 T (k : Int)) m u)
  | 0, u, s, hu, s0, s1 => by simp [potIn, pIn]
  | m + 1, u, s, hu, s0, s1 => by
    have h5 := g.r5
    have ht := g.toll _ (rdL_mem T k hk)
    have hx := ht.2 _ (rd_mem2 (rd_L12 T (k : Int)) u (by omega))
    have ep : payF T (k : Int) ((u : Int) + 1) = some (rd (rd_L12 T (k : Int)) (u : Int)) := by
      unfold payF
      rw [show ((u : Int) + 1 - 1) = (u : Int) by omega, if_pos (by omega), if_pos (by omega), if_pos (by omega), if_pos (by omega)]
    simp only [potIn, pIn]
    rw [ep, Option.bind_some, wsm (by unfold sm; omega), potIn_ev k hk m (u + 1) _ (by omega) (by omega) (by omega), Int.add_assoc]
include h
theorem pIn_b2 {k : Nat} (hk : k < T.length) : 0 ≤ pIn (rd_L12 T (k : Int)) (uF R c R.length k).toNat 0 ∧ pIn (rd_L12 T (k : Int)) (uF R c R.length k).toNat 0 ≤ 5000 := by
  have h5 := g.r5
  have hu := uF_b g h hk R.length (Nat.le_refl _)
  have ht := g.toll _ (rdL_mem T k hk)
  have := pIn_b ht.2 (uF R c R.length k).toNat 0 (by omega)
  omega
theorem potOut_ev : ∀ (m k : Nat) (s : Int), k + m = T.length → 0 ≤ s → s ≤ 5000 * k → potOut T (mapR T.length (uF R c R.length)) m k s = some (s + pO R T c m k)
  | 0, k, s, hk, s0, s1 => by simp [potOut, pO]
  | m + 1, k, s, hk, s0, s1 => by
    have h8 := g.t8
    have hb := pIn_b2 g h (k := k) (by omega)
    have hu := uF_b g h (k := k) (by omega) R.length (Nat.le_refl _)
    simp only [potOut, pO]
    rw [mapR_rd (by omega), potIn_ev g k (by omega) _ 0 s (by omega) s0 (by omega), Option.bind_some, potOut_ev m (k + 1) _ (by omega) (by omega) (by omega), Int.add_assoc]
theorem jpot_ev : Ev (fun n => jam_Potential.f n R T c) (pot R T c, 0) := by
  have h8 := g.t8
  unfold jam_Potential.f
  refine Ev.congr (fun n => if_pos ((playOk_iff R T c).2 ⟨g, h⟩)) (Ev.bind (users_ev g h (payF T)) (Ev.congr (f := fun _ => some (pot R T c, 0)) (fun n => ?_) (Ev.now _)))
  rw [if_pos (by rw [mapR_len]; omega), mapR_len, potOut_ev g h T.length 0 0 (by omega) (by omega) (by omega)]
  simp
theorem rpot_l1 (r : Int × Int) (k : Nat) (hk : k < T.length) (s0 : Int) (hn : Ev (fun n => trishawref02_Potential.l0 n (mapR T.length (uF R c R.length)) (s0 + pIn (rd_L12 T (k : Int)) (uF R c R.length k).toNat 0) ((k + 1 : Nat) : Int) R T) r) : ∀ (m u : Nat) (s : Int), u + m = (uF R c R.length k).toNat → 0 ≤ s → s ≤ 100000 + 1000 * u → s + pIn (rd_L12 T (k : Int)) m u = s0 + pIn (rd_L12 T (k : Int)) (uF R c R.length k).toNat 0 →
    Ev (fun n => trishawref02_Potential.l1 n (mapR T.length (uF R c R.length)) s (k : Int) (u : Int) R T) r
  | 0, u, s, hu, p0, p1, hs => by
    have h8 := g.t8
    have hub := uF_b g h hk R.length (Nat.le_refl _)
    simp only [pIn, Int.add_zero] at hs
    subst hs
    refine Ev.step (fun n => ?_) hn
    simp only [trishawref02_Potential.l1]
    rw [if_pos (by omega), if_pos (by rw [mapR_len]; omega), mapR_rd hk, if_neg (by omega), wrapN k (by omega)]
  | m + 1, u, s, hu, p0, p1, hs => by
    have h5 := g.r5
    have h8 := g.t8
    have hub := uF_b g h hk R.length (Nat.le_refl _)
    have ht := g.toll _ (rdL_mem T k hk)
    have hx := ht.2 _ (rd_mem2 (rd_L12 T (k : Int)) u (by omega))
    simp only [pIn] at hs
    have ih := rpot_l1 r k hk s0 hn m (u + 1) (s + rd (rd_L12 T (k : Int)) (u : Int)) (by omega) (by omega) (by omega) (by omega)
    refine Ev.step (fun n => ?_) ih
    simp only [trishawref02_Potential.l1]
    rw [if_pos (by omega), if_pos (by rw [mapR_len]; omega), mapR_rd hk, if_pos (by omega), if_pos (by omega), if_pos (by omega), if_pos (by omega), wsm (by unfold sm; omega), wrapN u (by omega)]
theorem rpot_l0 : ∀ (m k : Nat) (s : Int), k + m = T.length → 0 ≤ s → s ≤ 5000 * k → s + pO R T c m k = pot R T c → Ev (fun n => trishawref02_Potential.l0 n (mapR T.length (uF R c R.length)) s (k : Int) R T) (pot R T c, 0)
  | 0, k, s, hk, s0, s1, hs => by
    simp only [pO, Int.add_zero] at hs
    subst hs
    refine Ev.step (f := fun _ => some (pot R T c, 0)) (fun n => ?_) (Ev.now _)
    simp only [trishawref02_Potential.l0]
    rw [if_neg (by rw [mapR_len]; omega)]
  | m + 1, k, s, hk, s0, s1, hs => by
    have h8 := g.t8
    have hb := pIn_b2 g h (k := k) (by omega)
    simp only [pO] at hs
    have ih := rpot_l0 m (k + 1) (s + pIn (rd_L12 T (k : Int)) (uF R c R.length k).toNat 0) (by omega) (by omega) (by omega) (by omega)
    have hin := rpot_l1 g h _ k (by omega) s ih _ 0 s (Nat.zero_add _) s0 (by omega) rfl
    refine Ev.step (fun n => ?_) hin
    simp only [trishawref02_Potential.l0]
    rw [if_pos (by rw [mapR_len]; omega)]
    rfl
end
theorem rcosts_ev (R T : List (List Int)) (c : List Int) (h20 : R.length ≤ 20) : ∃ r, r.1.length < 1000000 ∧ Ev (fun n => trishawref02_Costs.f n R T c) r ∧ Ev (fun n => jam_Costs.f n R T c) r := by
  obtain ⟨b2, e2, i2⟩ := isGame_ev R T
  obtain ⟨b3, e3, i3⟩ := isChoice_ev R T c h20
  have hj : Ev (fun k => trishawref02_Costs.j0 k c true R T) ([], 0, 2) := Ev.step (f := fun _ => some ([], 0, 2)) (fun k => by simp only [trishawref02_Costs.j0]; rw [if_pos trivial]) (Ev.now _)
  by_cases hx : GameOk R T ∧ ChOk R c
  · obtain ⟨g, h⟩ := hx
    have hb2 := i2.2 g
    have hb3 := i3.2 h
    have h5 := g.r5
    refine ⟨(mapR R.length (cst R T c), tot R T c, 0), by show (mapR _ _).length < _; rw [mapR_len]; omega, ?_, jcosts_ev g h⟩
    unfold trishawref02_Costs.f
    refine Ev.bind e2 (Ev.congr (fun k => if_pos hb2) (Ev.bind e3 ?_))
    rw [hb3]
    refine Ev.step (fun k => ?_) (rcosts_l0 g h R.length 0 (by omega))
    simp only [trishawref02_Costs.j0]
    rw [if_neg (by simp)]
    rfl
  · refine ⟨([], 0, 2), by simp, ?_, ?_⟩
    · unfold trishawref02_Costs.f
      refine Ev.bind e2 ?_
      cases hb2 : b2 with
      | false => exact Ev.congr (fun k => if_neg (by simp)) hj
      | true =>
        refine Ev.congr (fun k => if_pos rfl) (Ev.bind e3 ?_)
        cases hb3 : b3 with
        | true => exact absurd ⟨i2.1 hb2, i3.1 hb3⟩ hx
        | false => exact hj
    · unfold jam_Costs.f
      exact Ev.congr (fun k => if_neg (fun e => hx ((playOk_iff R T c).1 e))) (Ev.now _)
theorem pots_ev (R T : List (List Int)) (c : List Int) (h20 : R.length ≤ 20) : ∃ r, Ev (fun n => trishawref02_Potential.f n R T c) r ∧ Ev (fun n => jam_Potential.f n R T c) r := by
  obtain ⟨b2, e2, i2⟩ := isGame_ev R T
  obtain ⟨b3, e3, i3⟩ := isChoice_ev R T c h20
  have hj : Ev (fun k => trishawref02_Potential.j0 k c true R T) (0, 2) := Ev.step (f := fun _ => some (0, 2)) (fun k => by simp only [trishawref02_Potential.j0]; rw [if_pos trivial]) (Ev.now _)
  by_cases hx : GameOk R T ∧ ChOk R c
  · obtain ⟨g, h⟩ := hx
    have hb2 := i2.2 g
    have hb3 := i3.2 h
    refine ⟨(pot R T c, 0), ?_, jpot_ev g h⟩
    unfold trishawref02_Potential.f
    refine Ev.bind e2 (Ev.congr (fun k => if_pos hb2) (Ev.bind e3 ?_))
    rw [hb3]
    refine Ev.step (fun k => ?_) (Ev.bind (f := fun k t => trishawref02_Potential.l0 k t 0 0 R T) (loads_ev g h) (rpot_l0 g h T.length 0 0 (by omega) (by omega) (by omega) (Int.zero_add _)))
    simp only [trishawref02_Potential.j0]
    rw [if_neg (by simp)]
  · refine ⟨(0, 2), ?_, ?_⟩
    · unfold trishawref02_Potential.f
      refine Ev.bind e2 ?_
      cases hb2 : b2 with
      | false => exact Ev.congr (fun k => if_neg (by simp)) hj
      | true =>
        refine Ev.congr (fun k => if_pos rfl) (Ev.bind e3 ?_)
        cases hb3 : b3 with
        | true => exact absurd ⟨i2.1 hb2, i3.1 hb3⟩ hx
        | false => exact hj
    · unfold jam_Potential.f
      exact Ev.congr (fun k => if_neg (fun e => hx ((playOk_iff R T c).1 e))) (Ev.now _)
theorem takeL (l : List (List Int)) (i : Nat) (h : i < l.length) : l.take (i + 1) = l.take i ++ [rd_L12 l (i : Int)] := by
  rw [List.take_add_one, List.getElem?_eq_getElem h, rdL l i h]
  rfl
section
variable {R T : List (List Int)} (hR : R.length ≤ 20) (hT : T.length ≤ 20) (hr : ∀ x ∈ R, x.length ≤ 20) (ht : ∀ x ∈ T, x.length ≤ 20)
include hR hT hr ht
theorem copied_l1 : ∀ (m i : Nat), i + m = T.length → Ev (fun k => trishawlaw02_copied.l1 k (i : Int) R T R (T.take i)) (R, T)
  | 0, i, h => by
    rw [List.take_of_length_le (by omega)]
    refine Ev.step (f := fun _ => some (R, T)) (fun k => ?_) (Ev.now _)
    simp only [trishawlaw02_copied.l1]
    rw [if_neg (by omega)]
  | m + 1, i, h => by
    have ih := copied_l1 m (i + 1) (by omega)
    rw [takeL T i (by omega)] at ih
    have := ht _ (rdL_mem T i (by omega))
    refine Ev.step (fun k => ?_) ih
    simp only [trishawlaw02_copied.l1]
    rw [if_pos (by omega), if_pos (by omega), if_pos (by simp; omega), if_pos (by simp; omega), wrapN i (by omega)]
    rfl
theorem copied_l0 : ∀ (m i : Nat), i + m = R.length → Ev (fun k => trishawlaw02_copied.l0 k (i : Int) R T (R.take i)) (R, T)
  | 0, i, h => by
    rw [List.take_of_length_le (by omega)]
    refine Ev.step (fun k => ?_) (copied_l1 hR hT hr ht T.length 0 (by omega))
    simp only [trishawlaw02_copied.l0]
    rw [if_neg (by omega)]
    rfl
  | m + 1, i, h => by
    have ih := copied_l0 m (i + 1) (by omega)
    rw [takeL R i (by omega)] at ih
    have := hr _ (rdL_mem R i (by omega))
    refine Ev.step (fun k => ?_) ih
    simp only [trishawlaw02_copied.l0]
    rw [if_pos (by omega), if_pos (by omega), if_pos (by simp; omega), if_pos (by simp; omega), wrapN i (by omega)]
    rfl
theorem copied_ev : Ev (fun k => trishawlaw02_copied.f k R T) (R, T) := copied_l0 hR hT hr ht R.length 0 (by omega)
theorem unch_l1 : ∀ (m i : Nat), i + m = T.length → Ev (fun k => trishawlaw02_unchanged.l1 k (i : Int) R T R T) true
  | 0, i, h => by
    refine Ev.step (f := fun _ => some true) (fun k => ?_) (Ev.now _)
    simp only [trishawlaw02_unchanged.l1]
    rw [if_neg (by omega)]
  | m + 1, i, h => by
    have ih := unch_l1 m (i + 1) (by omega)
    have := ht _ (rdL_mem T i (by omega))
    refine Ev.step (fun k => ?_) (Ev.bind (f := fun k t => if t = true then (trishawlaw02_unchanged.l1 k (wrap64 ((i : Int) + 1)) R T R T) else (some false)) (same_ev (rd_L12 T (i : Int)) (by omega)) (Ev.congr (fun k => by rw [if_pos rfl, wrapN i (by omega)]) ih))
    simp only [trishawlaw02_unchanged.l1]
    rw [if_pos (by omega), if_pos (by omega), if_pos (by omega)]
theorem unch_l0 : ∀ (m i : Nat), i + m = R.length → Ev (fun k => trishawlaw02_unchanged.l0 k (i : Int) R T R T) true
  | 0, i, h => by
    refine Ev.step (fun k => ?_) (unch_l1 hR hT hr ht T.length 0 (by omega))
    simp only [trishawlaw02_unchanged.l0]
    rw [if_neg (by omega)]
    rfl
  | m + 1, i, h => by
    have ih := unch_l0 m (i + 1) (by omega)
    have := hr _ (rdL_mem R i (by omega))
    refine Ev.step (fun k => ?_) (Ev.bind (f := fun k t => if t = true then (trishawlaw02_unchanged.l0 k (wrap64 ((i : Int) + 1)) R T R T) else (some false)) (same_ev (rd_L12 R (i : Int)) (by omega)) (Ev.congr (fun k => by rw [if_pos rfl, wrapN i (by omega)]) ih))
    simp only [trishawlaw02_unchanged.l0]
    rw [if_pos (by omega), if_pos (by omega), if_pos (by omega)]
theorem unch_ev : Ev (fun k => trishawlaw02_unchanged.f k R T R T) true := unch_l0 hR hT hr ht R.length 0 (by omega)
end
end Go.Proofs.Ytjgbdicbdlollaa.B
namespace Go.Proofs.Ytjgbdicbdlollaa.B
open Go.RowKit Go.Sort Go.Proofs.YtjgbdicbdlollaaW.PrintWords Go.Proofs.YtjgbdicbdlollaaW.PrintLast Go.Proofs.YtjgbdicbdlollaaW.PrintMore
set_option linter.unusedVariables false
set_option linter.unusedSimpArgs false
theorem jamcosts_ev (R T : List (List Int)) (c : List Int) : Ev (fun k => trishawlaw02_JamCosts.f k R T c) true := by
  unfold trishawlaw02_JamCosts.f
  obtain ⟨b1, e1, i1⟩ := few_ev R T c
  refine Ev.bind e1 ?_
  cases b1 with
  | false => exact Ev.congr (fun k => if_neg (by simp)) alive_ev2
  | true =>
    have hf := i1.1 rfl
    have hc20 := hf.c
    obtain ⟨r, hr, a1, a2⟩ := rcosts_ev R T c hf.r
    obtain ⟨p, p1, p2⟩ := pots_ev R T c hf.r
    have hj : Ev (fun k => trishawlaw02_JamCosts.j0 k c c false R T R T) true := by
      refine Ev.step (fun k => by simp only [trishawlaw02_JamCosts.j0]; rw [if_neg (by simp)]) (Ev.bind p2 (Ev.bind p1 ?_))
      refine Ev.congr (fun k => by rw [if_pos rfl, if_pos rfl]) (Ev.bind (same_ev c (by omega)) ?_)
      refine Ev.congr (fun k => by rw [if_pos rfl]) (Ev.bind (unch_ev hf.r hf.t hf.rr hf.tt) ?_)
      exact Ev.congr (fun k => by rw [if_pos rfl]) alive_ev2
    refine Ev.congr (fun k => if_pos rfl) (Ev.bind (copied_ev hf.r hf.t hf.rr hf.tt) ?_)
    refine Ev.congr (f := fun k => (jam_Costs.f k R T c).bind fun bt117 => ((trishawref02_Costs.f k R T c).bind fun bt122 => ((trishawlaw02_same.f k bt117.1 bt122.1).bind fun t127 => (if t127 = true then (if bt117.2.1 = bt122.2.1 then (trishawlaw02_JamCosts.j0 k c c (bt117.2.2 != bt122.2.2) R T R T) else (trishawlaw02_JamCosts.j0 k c c true R T R T)) else (trishawlaw02_JamCosts.j0 k c c true R T R T))))) (fun k => ?_) ?_
    · simp only [Option.bind_some, List.nil_append, List.length_nil]
      rw [if_pos (by omega)]
    · refine Ev.bind a2 (Ev.bind a1 (Ev.bind (same_ev r.1 hr) ?_))
      refine Ev.congr (fun k => ?_) hj
      rw [if_pos rfl, if_pos rfl]
      simp
end Go.Proofs.Ytjgbdicbdlollaa.B
namespace Go.Proofs.Ytjgbdicbdlollaa.Pure
open Go.RowKit Go.Proofs.Ytjgbdicbdlollaa.B Go.Proofs.YtjgbdicbdlollaaW.PrintWords Go.Proofs.YtjgbdicbdlollaaW.PrintLast Go.Proofs.YtjgbdicbdlollaaW.PrintMore
theorem JamCosts : trishawlaw02_JamCosts.Pure := fun l0_0 l0_1 l1 _ _ _ _ => (jamcosts_ev l0_0 l0_1 l1).rounds
end Go.Proofs.Ytjgbdicbdlollaa.Pure
