/- Texts behind the row of JamTried, part 5: contracts of the functions it reaches, words that their walks use, and lemmas in plain Lean. -/
import Derived.Below
import Derived.Deep.Draws
import Derived.Deep.AppendLies
import Derived.Maps.AppendAt
import Derived.OwnWalk
import Derived.Laws.BytesArg
import Derived.Laws.MakeOwn
import Derived.Laws.OwnMore
import Derived.Deep.OwnRows
import Derived.Tactics
import Derived.Lib.ConvBytes
import Derived.Laws.Slices
import Derived.WalkKit
import Derived.KernelRfl
import Derived.RowKit3
import Derived.Deep.LoopGhost
import Derived.Deep.QuietTactic
import Derived.BigQuiet
import Derived.WideLaws
import Derived.Deep.DeepCutAuto
import Derived.Deep.CutBlock
import Derived.Deep.RegionHeld3
import Derived.Laws.Rows
import Derived.Lib.AppendStr
import Derived.ArgAppend
import Derived.Laws.IdiomCopy
import Derived.RowKit
import Derived.OrdersHeld
import Derived.Laws.BitsLemmas
import Derived.Laws.StructEq
import Derived.Test.YtjgbdicbdlollaaProg
import Derived.WalkSpells
import Derived.MapKept
import Derived.Maps.RangeWalk
import Derived.Shelf.SlSortCmp.SmallK
import Derived.Ground.SlsfProg
import Derived.Deep.Slices
import Derived.Deep.Fields
import Derived.ChangeSame
import Derived.ChangeSlices
import Derived.Sort.LotA
import Derived.Test.YtjgbdicbdlollaaT1
import Derived.Test.YtjgbdicbdlollaaT2
import Derived.Test.YtjgbdicbdlollaaT3
import Derived.Test.YtjgbdicbdlollaaT4
namespace Go.Proofs.Ytjgbdicbdlollaa.B
open Go.RowKit Go.Proofs.YtjgbdicbdlollaaW.PrintWords Go.Proofs.YtjgbdicbdlollaaW.PrintLast Go.Proofs.YtjgbdicbdlollaaW.PrintMore
attribute [local go_sem] max2_int min2_int max_two min_two max_three min_three max_four min_four   -- for this text's walks alone
set_option linter.unusedVariables false
set_option linter.unusedSimpArgs false
mutual
def trishawlaw02_JamTried.j0 : Nat → List Int → Bool → List (List Int) → List (List Int) → Option (Bool)
  | 0, _, _, _, _ => none
  | k + 1, x1, x29, x102000, x102001 => if x29 = true then ((trishawlaw02_alive.f k).bind fun t105 => (some t105)) else ((jam_Best.f k x102000 x102001).bind fun bt106 => ((jam_Costs.f k x102000 x102001 bt106.1).bind fun bt111 => ((jam_Costs.f k x102000 x102001 x1).bind fun bt116 => (if bt106.2.2 = 0 then (if bt111.2.2 = 0 then (if bt116.2.2 = 0 then (if bt106.2.1 = bt111.2.1 then (if bt116.2.1 < bt106.2.1 then (trishawlaw02_JamTried.j1 k x1 bt106.1 bt106.2.1 bt116.2.1 true) else (trishawlaw02_JamTried.j1 k x1 bt106.1 bt106.2.1 bt116.2.1 ((bt106.1.length : Int) != (x1.length : Int)))) else (trishawlaw02_JamTried.j1 k x1 bt106.1 bt106.2.1 bt116.2.1 true)) else (trishawlaw02_JamTried.j1 k x1 bt106.1 bt106.2.1 bt116.2.1 true)) else (trishawlaw02_JamTried.j1 k x1 bt106.1 bt106.2.1 bt116.2.1 true)) else (trishawlaw02_JamTried.j1 k x1 bt106.1 bt106.2.1 bt116.2.1 true)))))
def trishawlaw02_JamTried.j1 : Nat → List Int → List Int → Int → Int → Bool → Option (Bool)
  | 0, _, _, _, _, _ => none
  | k + 1, x1, x5, x6, x12, x77 => if x77 = true then (some false) else (trishawlaw02_JamTried.l0 k x1 x5 x6 x12 0)
def trishawlaw02_JamTried.l0 : Nat → List Int → List Int → Int → Int → Int → Option (Bool)
  | 0, _, _, _, _, _ => none
  | k + 1, x1, x5, x6, x12, x14 => if x14 < (x5.length : Int) then (trishawlaw02_JamTried.j3 k x1 x5 x6 x12 x14 (x12 == x6)) else (trishawlaw02_JamTried.j3 k x1 x5 x6 x12 x14 false)
def trishawlaw02_JamTried.j3 : Nat → List Int → List Int → Int → Int → Int → Bool → Option (Bool)
  | 0, _, _, _, _, _, _ => none
  | k + 1, x1, x5, x6, x12, x14, x86 => if x86 = true then (if 0 ≤ x14 then (if x14 < (x5.length : Int) then (if x14 < (x1.length : Int) then (if (rd x5 x14) = (rd x1 x14) then (trishawlaw02_JamTried.l0 k x1 x5 x6 x12 (wrap64 (x14 + 1))) else (if (rd x5 x14) < (rd x1 x14) then ((trishawlaw02_alive.f k).bind fun t125 => (some t125)) else (some false))) else (none)) else (none)) else (none)) else ((trishawlaw02_alive.f k).bind fun t126 => (some t126))
end
def trishawlaw02_JamTried.f (k : Nat) (l0_0 : List (List Int)) (l0_1 : List (List Int)) (l1 : List Int) : Option (Bool) := (trishawlaw02_few.f k l0_0 l0_1 l1).bind fun t102 => (if t102 = true then ((trishawref02_IsGame.f k l0_0 l0_1).bind fun t103 => (if t103 = true then ((trishawref02_IsChoice.f k l0_0 l0_1 l1).bind fun t104 => (trishawlaw02_JamTried.j0 k l1 (!t104) l0_0 l0_1)) else (trishawlaw02_JamTried.j0 k l1 true l0_0 l0_1))) else (trishawlaw02_JamTried.j0 k l1 true l0_0 l0_1))
def trishawlaw02_JamTried.T11 : Bool × List (List Nat × List Nat) := (true, [([], []), ([], []), ([0, 1], [0, 1]), ([2], [2]), ([], []), ([], []), ([4, 5], [4, 5]), ([6], [6]), ([3, 7], [3, 7])])
def trishawlaw02_JamTried.B11 : List Nat := [0, 0, 3, 7, 0, 0, 48, 112, 255]
theorem trishawlaw02_JamTried.tab11 : rtab .any (opsOf Try.f6 11) = trishawlaw02_JamTried.T11 := by kernel_rfl
theorem trishawlaw02_JamTried.bits11 : waitsOk trishawlaw02_JamTried.T11.2 trishawlaw02_JamTried.B11 = true := by kernel_rfl
def trishawlaw02_JamTried.T12 : Bool × List (List Nat × List Nat) := (true, [([], []), ([], []), ([0, 1], [0, 1]), ([2], [2]), ([], []), ([], []), ([4, 5], [4, 5]), ([6], [6]), ([3, 7], [3, 7]), ([8], [8]), ([9, 9], [9]), ([9, 10], [9, 10]), ([11, 10, 0, 1, 2, 3, 4, 5, 6, 7, 8, 9, 10, 11], [11])])
def trishawlaw02_JamTried.B12 : List Nat := [0, 0, 3, 7, 0, 0, 48, 112, 255, 511, 1023, 2047, 4095]
theorem trishawlaw02_JamTried.tab12 : rtab .any (opsOf Try.f6 12) = trishawlaw02_JamTried.T12 := by kernel_rfl
theorem trishawlaw02_JamTried.bits12 : waitsOk trishawlaw02_JamTried.T12.2 trishawlaw02_JamTried.B12 = true := by kernel_rfl
set_option maxHeartbeats 8000000 in
set_option maxRecDepth 100000 in
theorem trishawlaw02_JamTried.calls (k : Nat) (A0_0 : Option Addr) (c0_0 : Nat) (l0_0 : List (List Int)) (A0_1 : Option Addr) (c0_1 : Nat) (l0_1 : List (List Int)) (A1 : Option Addr) (c1 : Nat) (l1 : List Int) (r : Bool) (w : World) (hr0_0 : Kd.C (Kd.slice 3 (Kd.int .i64)) w A0_0 l0_0.length l0_0) (hc0_0 : l0_0.length ≤ c0_0) (hr0_1 : Kd.C (Kd.slice 3 (Kd.int .i64)) w A0_1 l0_1.length l0_1) (hc0_1 : l0_1.length ≤ c0_1) (hr1 : Kd.C (Kd.int .i64) w A1 l1.length l1) (hc1 : l1.length ≤ c1) (h : trishawlaw02_JamTried.f k l0_0 l0_1 l1 = some r) :
  Calls Try.prog 6 #[.agg #[.slice A0_0 l0_0.length c0_0, .slice A0_1 l0_1.length c0_1], .slice A1 l1.length c1] w fun e w' => e = .returned (.bool r) ∧ Below w.heap.size w w' := by
 have hu41 := Try.underlying41
 have HR0_0 := Aside0.mk hr0_0
 have HC0_0 := Aside0.mk hc0_0
 clear hr0_0 hc0_0
 have HR0_1 := Aside0.mk hr0_1
 have HC0_1 := Aside0.mk hc0_1
 clear hr0_1 hc0_1
 have HR1 := Aside0.mk hr1
 have HC1 := Aside0.mk hc1
 clear hr1 hc1
 have HB := Aside0.mk (Below.refl w.heap.size w)
 have H : ((trishawlaw02_few.f k l0_0 l0_1 l1).bind fun t102 => (if t102 = true then ((trishawref02_IsGame.f k l0_0 l0_1).bind fun t103 => (if t103 = true then ((trishawref02_IsChoice.f k l0_0 l0_1 l1).bind fun t104 => (trishawlaw02_JamTried.j0 k l1 (!t104) l0_0 l0_1)) else (trishawlaw02_JamTried.j0 k l1 true l0_0 l0_1))) else (trishawlaw02_JamTried.j0 k l1 true l0_0 l0_1))) = some r := h
 clear h
 have HC3 := Aside0.mk H
 clear H
 go_enter Try.func6, Try.ntmps6
 go_upto_region 1 with (first | ((with_reducible refine gate_dst (N := 2) rfl ?_); (try (refine gate_guard (by rfl) ?_; dsimp only)); refine box_event ?hg (N := 2) ?hd (cs := #[.slice A0_0 l0_0.length c0_0, .slice A0_1 l0_1.length c0_1]) (t := 41) ?hr ?_; (case hd => rfl); (case hg => rfl); (case hr => first | (go_simp; done) | (go_simp; rfl)); intro gb101 hg w4 hbox hb; have n0_ := Aside0.mk (below_step (by repeat (first | (with_reducible first | exact HB.out | apply below_alloc | apply pw_below_drewN | apply below_drew1) | exact HB.out)) hb); have n1_ := Aside0.mk (hbox); have n2_ := Aside0.mk ((by rw [hg]; exact (below_size (by repeat (first | (with_reducible first | exact HB.out | apply below_alloc | apply pw_below_drewN | apply below_drew1) | exact HB.out))) : w.heap.size ≤ gb101)); have n3_ := Aside0.mk ((by rw [hg]; exact (below_size (by repeat (first | (with_reducible first | exact HB.out | apply below_alloc | apply pw_below_drewN | apply below_drew1) | exact HB.out))) : w.heap.size ≤ gb101)); clear HB; have HB := n0_; have BK101 := n1_; have GW101 := n2_; have GE101 := n3_; clear n0_ n1_ n2_ n3_; clear hb hbox hg))
 (try simp only [Act.put, List.setIfInBounds_toArray, List.set_cons_zero, List.set_cons_succ])
 go_cut [29] (fun v29 wc => ∃ (kq : Nat) (x29_2 : Bool), v29 = .bool x29_2 ∧ Aside0 (trishawlaw02_JamTried.j0 kq l1 x29_2 l0_0 l0_1 = some r) ∧ Aside0 (kq ≤ k) ∧ Aside0 (wc.heap[gb101]? = some (.cells #[(.slice A0_0 l0_0.length c0_0), (.slice A0_1 l0_1.length c0_1)] 41 (0, 0))) ∧ Aside0 (Below w.heap.size w wc))
 case first =>
  have H := HC3.out
  clear HC3
  replace H := Option.bind_eq_some_iff.mp H
  obtain ⟨t102, A50, H⟩ := H
  replace H : (if t102 = true then ((trishawref02_IsGame.f k l0_0 l0_1).bind fun t103 => (if t103 = true then ((trishawref02_IsChoice.f k l0_0 l0_1 l1).bind fun t104 => (trishawlaw02_JamTried.j0 k l1 (!t104) l0_0 l0_1)) else (trishawlaw02_JamTried.j0 k l1 true l0_0 l0_1))) else (trishawlaw02_JamTried.j0 k l1 true l0_0 l0_1)) = some r := H
  have A5 := Aside0.mk A50
  clear A50
  by_cases c6 : t102 = true
  ·subst c6
   have H1 : ((trishawref02_IsGame.f k l0_0 l0_1).bind fun t103 => (if t103 = true then ((trishawref02_IsChoice.f k l0_0 l0_1 l1).bind fun t104 => (trishawlaw02_JamTried.j0 k l1 (!t104) l0_0 l0_1)) else (trishawlaw02_JamTried.j0 k l1 true l0_0 l0_1))) = some r := by rw [if_pos rfl] at H; exact H
   clear H
   have H := H1
   clear H1
   replace H := Option.bind_eq_some_iff.mp H
   obtain ⟨t103, A70, H⟩ := H
   replace H : (if t103 = true then ((trishawref02_IsChoice.f k l0_0 l0_1 l1).bind fun t104 => (trishawlaw02_JamTried.j0 k l1 (!t104) l0_0 l0_1)) else (trishawlaw02_JamTried.j0 k l1 true l0_0 l0_1)) = some r := H
   have A7 := Aside0.mk A70
   clear A70
   by_cases c8 : t103 = true
   ·subst c8
    have H1 : ((trishawref02_IsChoice.f k l0_0 l0_1 l1).bind fun t104 => (trishawlaw02_JamTried.j0 k l1 (!t104) l0_0 l0_1)) = some r := by rw [if_pos rfl] at H; exact H
    clear H
    have H := H1
    clear H1
    replace H := Option.bind_eq_some_iff.mp H
    obtain ⟨t104, A90, H⟩ := H
    replace H : (trishawlaw02_JamTried.j0 k l1 (!t104) l0_0 l0_1) = some r := H
    have A9 := Aside0.mk A90
    clear A90
    have H' := Aside0.mk H
    clear H
    have hcz10_0 : w4.cell? ⟨gb101, 0, none⟩ = some (.slice A0_0 l0_0.length c0_0) := (blk_cell BK101.out 0).trans rfl
    have hcz10_1 : w4.cell? ⟨gb101, 1, none⟩ = some (.slice A0_1 l0_1.length c0_1) := (blk_cell BK101.out 1).trans rfl
    have hfz10_0 := blk_frozen BK101.out 0
    have hfz10_1 := blk_frozen BK101.out 1
    go_wp2_with (first | ((with_reducible refine gate_callee (f := 24) rfl ?_); refine goesL_ (some 17) rfl rfl Try.func24 (by kernel_rfl) rfl #[.agg #[.slice A0_0 l0_0.length c0_0, .slice A0_1 l0_1.length c0_1], .slice A1 l1.length c1] rfl (by (try simp only [List.map_toArray, List.map_cons, List.map_nil]); first | done | rfl | (simp only [List.length_drop, List.length_take]; rfl)) ?_; (with_reducible refine (trishawlaw02_few.calls k _ _ l0_0 _ _ l0_1 _ _ l1 true _ ?side1 ?side2 ?side3 ?side4 ?side5 ?side6 A5.out).mono ?_); (case side1 => repeat (first | exact (Kd.C_below HR0_0.out HB.out) | (with_reducible refine Kd.C_alloc ?_ _) | (with_reducible refine Kd.C_drewN ?_ _) | (with_reducible refine Kd.C_drew ?_))); (case side2 => exact HC0_0.out); (case side3 => repeat (first | exact (Kd.C_below HR0_1.out HB.out) | (with_reducible refine Kd.C_alloc ?_ _) | (with_reducible refine Kd.C_drewN ?_ _) | (with_reducible refine Kd.C_drew ?_))); (case side4 => exact HC0_1.out); (case side5 => repeat (first | exact (Kd.C_below HR1.out HB.out) | (with_reducible refine Kd.C_alloc ?_ _) | (with_reducible refine Kd.C_drewN ?_ _) | (with_reducible refine Kd.C_drew ?_))); (case side6 => exact HC1.out); rintro e w11 ⟨rfl, hb⟩; refine ⟨_, rfl, ?_⟩; have n0_ := Aside0.mk (blk_below (g := gb101) (o := .cells #[.slice A0_0 l0_0.length c0_0, .slice A0_1 l0_1.length c0_1] 41 (0, 0)) (by (with_reducible repeat (first | refine blk_drewN ?_ _ | refine blk_drew ?_ | refine blk_alloc ?_ _)); exact BK101.out) hb); have n1_ := Aside0.mk (below_step (by repeat (first | (with_reducible first | exact HB.out | apply below_alloc | apply pw_below_drewN | apply below_drew1 | refine below_set ?_ GE101.out) | exact HB.out)) hb); clear BK101; clear HB; have BK101 := n0_; have HB := n1_; clear n0_ n1_; (try clear hb); (try clear hb2); (try clear hk); (try clear hi); have hcz12_0 : w11.cell? ⟨gb101, 0, none⟩ = some (.slice A0_0 l0_0.length c0_0) := (blk_cell BK101.out 0).trans rfl; have hcz12_1 : w11.cell? ⟨gb101, 1, none⟩ = some (.slice A0_1 l0_1.length c0_1) := (blk_cell BK101.out 1).trans rfl; have hfz12_0 := blk_frozen BK101.out 0; have hfz12_1 := blk_frozen BK101.out 1) | (go_at_call 25; (with_reducible refine (trishawref02_IsGame.calls k _ _ l0_0 _ _ l0_1 true _ ?side1 ?side2 ?side3 ?side4 A7.out).mono ?_); (case side1 => repeat (first | exact (Kd.C_below HR0_0.out HB.out) | (with_reducible refine Kd.C_alloc ?_ _) | (with_reducible refine Kd.C_drewN ?_ _) | (with_reducible refine Kd.C_drew ?_))); (case side2 => exact HC0_0.out); (case side3 => repeat (first | exact (Kd.C_below HR0_1.out HB.out) | (with_reducible refine Kd.C_alloc ?_ _) | (with_reducible refine Kd.C_drewN ?_ _) | (with_reducible refine Kd.C_drew ?_))); (case side4 => exact HC0_1.out); rintro e w13 ⟨rfl, hb⟩; have n0_ := Aside0.mk (blk_below (g := gb101) (o := .cells #[.slice A0_0 l0_0.length c0_0, .slice A0_1 l0_1.length c0_1] 41 (0, 0)) (by (with_reducible repeat (first | refine blk_drewN ?_ _ | refine blk_drew ?_ | refine blk_alloc ?_ _)); exact BK101.out) hb); have n1_ := Aside0.mk (below_step (by repeat (first | (with_reducible first | exact HB.out | apply below_alloc | apply pw_below_drewN | apply below_drew1 | refine below_set ?_ GE101.out) | exact HB.out)) hb); clear BK101; clear HB; have BK101 := n0_; have HB := n1_; clear n0_ n1_; (try clear hb); (try clear hb2); (try clear hk); (try clear hi); have hcz14_0 : w13.cell? ⟨gb101, 0, none⟩ = some (.slice A0_0 l0_0.length c0_0) := (blk_cell BK101.out 0).trans rfl; have hcz14_1 : w13.cell? ⟨gb101, 1, none⟩ = some (.slice A0_1 l0_1.length c0_1) := (blk_cell BK101.out 1).trans rfl; have hfz14_0 := blk_frozen BK101.out 0; have hfz14_1 := blk_frozen BK101.out 1) | (go_at_call 26; (with_reducible refine (trishawref02_IsChoice.calls k _ _ l0_0 _ _ l0_1 _ _ l1 t104 _ ?side1 ?side2 ?side3 ?side4 ?side5 ?side6 A9.out).mono ?_); (case side1 => repeat (first | exact (Kd.C_below HR0_0.out HB.out) | (with_reducible refine Kd.C_alloc ?_ _) | (with_reducible refine Kd.C_drewN ?_ _) | (with_reducible refine Kd.C_drew ?_))); (case side2 => exact HC0_0.out); (case side3 => repeat (first | exact (Kd.C_below HR0_1.out HB.out) | (with_reducible refine Kd.C_alloc ?_ _) | (with_reducible refine Kd.C_drewN ?_ _) | (with_reducible refine Kd.C_drew ?_))); (case side4 => exact HC0_1.out); (case side5 => repeat (first | exact (Kd.C_below HR1.out HB.out) | (with_reducible refine Kd.C_alloc ?_ _) | (with_reducible refine Kd.C_drewN ?_ _) | (with_reducible refine Kd.C_drew ?_))); (case side6 => exact HC1.out); rintro e w15 ⟨rfl, hb⟩; have n0_ := Aside0.mk (blk_below (g := gb101) (o := .cells #[.slice A0_0 l0_0.length c0_0, .slice A0_1 l0_1.length c0_1] 41 (0, 0)) (by (with_reducible repeat (first | refine blk_drewN ?_ _ | refine blk_drew ?_ | refine blk_alloc ?_ _)); exact BK101.out) hb); have n1_ := Aside0.mk (below_step (by repeat (first | (with_reducible first | exact HB.out | apply below_alloc | apply pw_below_drewN | apply below_drew1 | refine below_set ?_ GE101.out) | exact HB.out)) hb); clear BK101; clear HB; have BK101 := n0_; have HB := n1_; clear n0_ n1_; (try clear hb); (try clear hb2); (try clear hk); (try clear hi)))
    go_meet
    case rel => exact ⟨_, (!t104), (by first | rfl | (simp; done) | (simp [*]; done)), H', ⟨by first | omega | exact Nat.le_refl _⟩, ⟨by (with_reducible repeat (first | refine blk_drewN ?_ _ | refine blk_drew ?_ | refine blk_alloc ?_ _)); exact BK101.out⟩, ⟨by repeat (first | (with_reducible first | exact HB.out | apply below_alloc | apply pw_below_drewN | apply below_drew1 | refine below_set ?_ GE101.out) | exact HB.out)⟩⟩
   ·replace c8 := Bool.eq_false_iff.mpr c8
    subst c8
    have H1 : (trishawlaw02_JamTried.j0 k l1 true l0_0 l0_1) = some r := by rw [if_neg (show ¬ (false = true) by decide)] at H; exact H
    clear H
    have H := H1
    clear H1
    have H' := Aside0.mk H
    clear H
    have hcz16_0 : w4.cell? ⟨gb101, 0, none⟩ = some (.slice A0_0 l0_0.length c0_0) := (blk_cell BK101.out 0).trans rfl
    have hcz16_1 : w4.cell? ⟨gb101, 1, none⟩ = some (.slice A0_1 l0_1.length c0_1) := (blk_cell BK101.out 1).trans rfl
    have hfz16_0 := blk_frozen BK101.out 0
    have hfz16_1 := blk_frozen BK101.out 1
    go_wp2_with (first | ((with_reducible refine gate_callee (f := 24) rfl ?_); refine goesL_ (some 17) rfl rfl Try.func24 (by kernel_rfl) rfl #[.agg #[.slice A0_0 l0_0.length c0_0, .slice A0_1 l0_1.length c0_1], .slice A1 l1.length c1] rfl (by (try simp only [List.map_toArray, List.map_cons, List.map_nil]); first | done | rfl | (simp only [List.length_drop, List.length_take]; rfl)) ?_; (with_reducible refine (trishawlaw02_few.calls k _ _ l0_0 _ _ l0_1 _ _ l1 true _ ?side1 ?side2 ?side3 ?side4 ?side5 ?side6 A5.out).mono ?_); (case side1 => repeat (first | exact (Kd.C_below HR0_0.out HB.out) | (with_reducible refine Kd.C_alloc ?_ _) | (with_reducible refine Kd.C_drewN ?_ _) | (with_reducible refine Kd.C_drew ?_))); (case side2 => exact HC0_0.out); (case side3 => repeat (first | exact (Kd.C_below HR0_1.out HB.out) | (with_reducible refine Kd.C_alloc ?_ _) | (with_reducible refine Kd.C_drewN ?_ _) | (with_reducible refine Kd.C_drew ?_))); (case side4 => exact HC0_1.out); (case side5 => repeat (first | exact (Kd.C_below HR1.out HB.out) | (with_reducible refine Kd.C_alloc ?_ _) | (with_reducible refine Kd.C_drewN ?_ _) | (with_reducible refine Kd.C_drew ?_))); (case side6 => exact HC1.out); rintro e w17 ⟨rfl, hb⟩; refine ⟨_, rfl, ?_⟩; have n0_ := Aside0.mk (blk_below (g := gb101) (o := .cells #[.slice A0_0 l0_0.length c0_0, .slice A0_1 l0_1.length c0_1] 41 (0, 0)) (by (with_reducible repeat (first | refine blk_drewN ?_ _ | refine blk_drew ?_ | refine blk_alloc ?_ _)); exact BK101.out) hb); have n1_ := Aside0.mk (below_step (by repeat (first | (with_reducible first | exact HB.out | apply below_alloc | apply pw_below_drewN | apply below_drew1 | refine below_set ?_ GE101.out) | exact HB.out)) hb); clear BK101; clear HB; have BK101 := n0_; have HB := n1_; clear n0_ n1_; (try clear hb); (try clear hb2); (try clear hk); (try clear hi); have hcz18_0 : w17.cell? ⟨gb101, 0, none⟩ = some (.slice A0_0 l0_0.length c0_0) := (blk_cell BK101.out 0).trans rfl; have hcz18_1 : w17.cell? ⟨gb101, 1, none⟩ = some (.slice A0_1 l0_1.length c0_1) := (blk_cell BK101.out 1).trans rfl; have hfz18_0 := blk_frozen BK101.out 0; have hfz18_1 := blk_frozen BK101.out 1) | (go_at_call 25; (with_reducible refine (trishawref02_IsGame.calls k _ _ l0_0 _ _ l0_1 false _ ?side1 ?side2 ?side3 ?side4 A7.out).mono ?_); (case side1 => repeat (first | exact (Kd.C_below HR0_0.out HB.out) | (with_reducible refine Kd.C_alloc ?_ _) | (with_reducible refine Kd.C_drewN ?_ _) | (with_reducible refine Kd.C_drew ?_))); (case side2 => exact HC0_0.out); (case side3 => repeat (first | exact (Kd.C_below HR0_1.out HB.out) | (with_reducible refine Kd.C_alloc ?_ _) | (with_reducible refine Kd.C_drewN ?_ _) | (with_reducible refine Kd.C_drew ?_))); (case side4 => exact HC0_1.out); rintro e w19 ⟨rfl, hb⟩; have n0_ := Aside0.mk (blk_below (g := gb101) (o := .cells #[.slice A0_0 l0_0.length c0_0, .slice A0_1 l0_1.length c0_1] 41 (0, 0)) (by (with_reducible repeat (first | refine blk_drewN ?_ _ | refine blk_drew ?_ | refine blk_alloc ?_ _)); exact BK101.out) hb); have n1_ := Aside0.mk (below_step (by repeat (first | (with_reducible first | exact HB.out | apply below_alloc | apply pw_below_drewN | apply below_drew1 | refine below_set ?_ GE101.out) | exact HB.out)) hb); clear BK101; clear HB; have BK101 := n0_; have HB := n1_; clear n0_ n1_; (try clear hb); (try clear hb2); (try clear hk); (try clear hi)))
    go_meet
    case rel => exact ⟨_, (true), (by first | rfl | (simp; done) | (simp [*]; done)), H', ⟨by first | omega | exact Nat.le_refl _⟩, ⟨by (with_reducible repeat (first | refine blk_drewN ?_ _ | refine blk_drew ?_ | refine blk_alloc ?_ _)); exact BK101.out⟩, ⟨by repeat (first | (with_reducible first | exact HB.out | apply below_alloc | apply pw_below_drewN | apply below_drew1 | refine below_set ?_ GE101.out) | exact HB.out)⟩⟩
  ·replace c6 := Bool.eq_false_iff.mpr c6
   subst c6
   have H1 : (trishawlaw02_JamTried.j0 k l1 true l0_0 l0_1) = some r := by rw [if_neg (show ¬ (false = true) by decide)] at H; exact H
   clear H
   have H := H1
   clear H1
   have H' := Aside0.mk H
   clear H
   have hcz20_0 : w4.cell? ⟨gb101, 0, none⟩ = some (.slice A0_0 l0_0.length c0_0) := (blk_cell BK101.out 0).trans rfl
   have hcz20_1 : w4.cell? ⟨gb101, 1, none⟩ = some (.slice A0_1 l0_1.length c0_1) := (blk_cell BK101.out 1).trans rfl
   have hfz20_0 := blk_frozen BK101.out 0
   have hfz20_1 := blk_frozen BK101.out 1
   go_wp2_with (first | ((with_reducible refine gate_callee (f := 24) rfl ?_); refine goesL_ (some 17) rfl rfl Try.func24 (by kernel_rfl) rfl #[.agg #[.slice A0_0 l0_0.length c0_0, .slice A0_1 l0_1.length c0_1], .slice A1 l1.length c1] rfl (by (try simp only [List.map_toArray, List.map_cons, List.map_nil]); first | done | rfl | (simp only [List.length_drop, List.length_take]; rfl)) ?_; (with_reducible refine (trishawlaw02_few.calls k _ _ l0_0 _ _ l0_1 _ _ l1 false _ ?side1 ?side2 ?side3 ?side4 ?side5 ?side6 A5.out).mono ?_); (case side1 => repeat (first | exact (Kd.C_below HR0_0.out HB.out) | (with_reducible refine Kd.C_alloc ?_ _) | (with_reducible refine Kd.C_drewN ?_ _) | (with_reducible refine Kd.C_drew ?_))); (case side2 => exact HC0_0.out); (case side3 => repeat (first | exact (Kd.C_below HR0_1.out HB.out) | (with_reducible refine Kd.C_alloc ?_ _) | (with_reducible refine Kd.C_drewN ?_ _) | (with_reducible refine Kd.C_drew ?_))); (case side4 => exact HC0_1.out); (case side5 => repeat (first | exact (Kd.C_below HR1.out HB.out) | (with_reducible refine Kd.C_alloc ?_ _) | (with_reducible refine Kd.C_drewN ?_ _) | (with_reducible refine Kd.C_drew ?_))); (case side6 => exact HC1.out); rintro e w21 ⟨rfl, hb⟩; refine ⟨_, rfl, ?_⟩; have n0_ := Aside0.mk (blk_below (g := gb101) (o := .cells #[.slice A0_0 l0_0.length c0_0, .slice A0_1 l0_1.length c0_1] 41 (0, 0)) (by (with_reducible repeat (first | refine blk_drewN ?_ _ | refine blk_drew ?_ | refine blk_alloc ?_ _)); exact BK101.out) hb); have n1_ := Aside0.mk (below_step (by repeat (first | (with_reducible first | exact HB.out | apply below_alloc | apply pw_below_drewN | apply below_drew1 | refine below_set ?_ GE101.out) | exact HB.out)) hb); clear BK101; clear HB; have BK101 := n0_; have HB := n1_; clear n0_ n1_; (try clear hb); (try clear hb2); (try clear hk); (try clear hi)))
   go_meet
   case rel => exact ⟨_, (true), (by first | rfl | (simp; done) | (simp [*]; done)), H', ⟨by first | omega | exact Nat.le_refl _⟩, ⟨by (with_reducible repeat (first | refine blk_drewN ?_ _ | refine blk_drew ?_ | refine blk_alloc ?_ _)); exact BK101.out⟩, ⟨by repeat (first | (with_reducible first | exact HB.out | apply below_alloc | apply pw_below_drewN | apply below_drew1 | refine below_set ?_ GE101.out) | exact HB.out)⟩⟩
 case rest =>
  clear HC3
  try clear c1
  try clear c2
  try clear p2
  try clear c6
  try clear c8
  try clear hcz10_0
  try clear hcz10_1
  try clear hcz12_0
  try clear hcz12_1
  try clear hcz14_0
  try clear hcz14_1
  try clear hcz16_0
  try clear hcz16_1
  try clear hcz18_0
  try clear hcz18_1
  try clear hcz20_0
  try clear hcz20_1
  try clear hfz10_0
  try clear hfz10_1
  try clear hfz12_0
  try clear hfz12_1
  try clear hfz14_0
  try clear hfz14_1
  try clear hfz16_0
  try clear hfz16_1
  try clear hfz18_0
  try clear hfz18_1
  try clear hfz20_0
  try clear hfz20_1
  obtain ⟨kq, x29_2, rfl, HA, HJ2, BK101, HB⟩ := hcut
  cases kq with
  | zero => exact absurd HA.out (by simp [trishawlaw02_JamTried.j0])
  | succ kj2 =>
   have H := HA.out
   clear HA
   simp only [trishawlaw02_JamTried.j0] at H
   by_cases c22 : x29_2 = true
   ·subst c22
    have H1 : ((trishawlaw02_alive.f kj2).bind fun t105 => (some t105)) = some r := by rw [if_pos rfl] at H; exact H
    clear H
    have H := H1
    clear H1
    replace H := Option.bind_eq_some_iff.mp H
    obtain ⟨t105, A230, H⟩ := H
    replace H : (some t105) = some r := H
    have A23 := Aside0.mk A230
    clear A230
    obtain rfl := Option.some.inj H
    go_wp2_with (first | ((with_reducible refine gate_callee (f := 16) rfl ?_); refine goesL_ (some 30) rfl rfl Try.func16 (by kernel_rfl) rfl #[] rfl (by (try simp only [List.map_toArray, List.map_cons, List.map_nil]); first | done | rfl | (simp only [List.length_drop, List.length_take]; rfl)) ?_; (with_reducible refine (trishawlaw02_alive.calls kj2  t105 _ A23.out).mono ?_); rintro e w24 ⟨rfl, hb⟩; refine ⟨_, rfl, ?_⟩; have n0_ := Aside0.mk (blk_below (g := gb101) (o := .cells #[.slice A0_0 l0_0.length c0_0, .slice A0_1 l0_1.length c0_1] 41 (0, 0)) (by (with_reducible repeat (first | refine blk_drewN ?_ _ | refine blk_drew ?_ | refine blk_alloc ?_ _)); exact BK101.out) hb); have n1_ := Aside0.mk (below_step (by repeat (first | (with_reducible first | exact HB.out | apply below_alloc | apply pw_below_drewN | apply below_drew1 | refine below_set ?_ GE101.out) | exact HB.out)) hb); clear BK101; clear HB; have BK101 := n0_; have HB := n1_; clear n0_ n1_; (try clear hb); (try clear hb2); (try clear hk); (try clear hi)))
    go_ret
    exact ⟨by first | rfl | (simp [errW_none, errW_some] <;> rfl) | (simp [*, errW_none, errW_some] <;> rfl), by repeat (first | (with_reducible first | exact HB.out | apply below_alloc | apply pw_below_drewN | apply below_drew1 | refine below_set ?_ GE101.out) | exact HB.out)⟩
   ·replace c22 := Bool.eq_false_iff.mpr c22
    subst c22
    have H1 : ((jam_Best.f kj2 l0_0 l0_1).bind fun bt106 => ((jam_Costs.f kj2 l0_0 l0_1 bt106.1).bind fun bt111 => ((jam_Costs.f kj2 l0_0 l0_1 l1).bind fun bt116 => (if bt106.2.2 = 0 then (if bt111.2.2 = 0 then (if bt116.2.2 = 0 then (if bt106.2.1 = bt111.2.1 then (if bt116.2.1 < bt106.2.1 then (trishawlaw02_JamTried.j1 kj2 l1 bt106.1 bt106.2.1 bt116.2.1 true) else (trishawlaw02_JamTried.j1 kj2 l1 bt106.1 bt106.2.1 bt116.2.1 ((bt106.1.length : Int) != (l1.length : Int)))) else (trishawlaw02_JamTried.j1 kj2 l1 bt106.1 bt106.2.1 bt116.2.1 true)) else (trishawlaw02_JamTried.j1 kj2 l1 bt106.1 bt106.2.1 bt116.2.1 true)) else (trishawlaw02_JamTried.j1 kj2 l1 bt106.1 bt106.2.1 bt116.2.1 true)) else (trishawlaw02_JamTried.j1 kj2 l1 bt106.1 bt106.2.1 bt116.2.1 true))))) = some r := by rw [if_neg (show ¬ (false = true) by decide)] at H; exact H
    clear H
    have H := H1
    clear H1
    replace H := Option.bind_eq_some_iff.mp H
    obtain ⟨⟨t106, t109, t110⟩, A250, H⟩ := H
    replace H : ((jam_Costs.f kj2 l0_0 l0_1 t106).bind fun bt111 => ((jam_Costs.f kj2 l0_0 l0_1 l1).bind fun bt116 => (if t110 = 0 then (if bt111.2.2 = 0 then (if bt116.2.2 = 0 then (if t109 = bt111.2.1 then (if bt116.2.1 < t109 then (trishawlaw02_JamTried.j1 kj2 l1 t106 t109 bt116.2.1 true) else (trishawlaw02_JamTried.j1 kj2 l1 t106 t109 bt116.2.1 ((t106.length : Int) != (l1.length : Int)))) else (trishawlaw02_JamTried.j1 kj2 l1 t106 t109 bt116.2.1 true)) else (trishawlaw02_JamTried.j1 kj2 l1 t106 t109 bt116.2.1 true)) else (trishawlaw02_JamTried.j1 kj2 l1 t106 t109 bt116.2.1 true)) else (trishawlaw02_JamTried.j1 kj2 l1 t106 t109 bt116.2.1 true)))) = some r := H
    have A25 := Aside0.mk A250
    clear A250
    replace H := Option.bind_eq_some_iff.mp H
    obtain ⟨⟨t111, t114, t115⟩, A260, H⟩ := H
    replace H : ((jam_Costs.f kj2 l0_0 l0_1 l1).bind fun bt116 => (if t110 = 0 then (if t115 = 0 then (if bt116.2.2 = 0 then (if t109 = t114 then (if bt116.2.1 < t109 then (trishawlaw02_JamTried.j1 kj2 l1 t106 t109 bt116.2.1 true) else (trishawlaw02_JamTried.j1 kj2 l1 t106 t109 bt116.2.1 ((t106.length : Int) != (l1.length : Int)))) else (trishawlaw02_JamTried.j1 kj2 l1 t106 t109 bt116.2.1 true)) else (trishawlaw02_JamTried.j1 kj2 l1 t106 t109 bt116.2.1 true)) else (trishawlaw02_JamTried.j1 kj2 l1 t106 t109 bt116.2.1 true)) else (trishawlaw02_JamTried.j1 kj2 l1 t106 t109 bt116.2.1 true))) = some r := H
    have A26 := Aside0.mk A260
    clear A260
    replace H := Option.bind_eq_some_iff.mp H
    obtain ⟨⟨t116, t119, t120⟩, A270, H⟩ := H
    replace H : (if t110 = 0 then (if t115 = 0 then (if t120 = 0 then (if t109 = t114 then (if t119 < t109 then (trishawlaw02_JamTried.j1 kj2 l1 t106 t109 t119 true) else (trishawlaw02_JamTried.j1 kj2 l1 t106 t109 t119 ((t106.length : Int) != (l1.length : Int)))) else (trishawlaw02_JamTried.j1 kj2 l1 t106 t109 t119 true)) else (trishawlaw02_JamTried.j1 kj2 l1 t106 t109 t119 true)) else (trishawlaw02_JamTried.j1 kj2 l1 t106 t109 t119 true)) else (trishawlaw02_JamTried.j1 kj2 l1 t106 t109 t119 true)) = some r := H
    have A27 := Aside0.mk A270
    clear A270
    have HC28 := Aside0.mk H
    clear H
    have hcz29_0 : wc.cell? ⟨gb101, 0, none⟩ = some (.slice A0_0 l0_0.length c0_0) := (blk_cell BK101.out 0).trans rfl
    have hcz29_1 : wc.cell? ⟨gb101, 1, none⟩ = some (.slice A0_1 l0_1.length c0_1) := (blk_cell BK101.out 1).trans rfl
    have hfz29_0 := blk_frozen BK101.out 0
    have hfz29_1 := blk_frozen BK101.out 1
    go_upto_region 6 with (first | ((with_reducible refine gate_callee (f := 27) rfl ?_); refine goesL_ (some 33) rfl rfl Try.func27 (by kernel_rfl) rfl #[.agg #[.slice A0_0 l0_0.length c0_0, .slice A0_1 l0_1.length c0_1]] rfl (by (try simp only [List.map_toArray, List.map_cons, List.map_nil]); first | done | rfl | (simp only [List.length_drop, List.length_take]; rfl)) ?_; (with_reducible refine (jam_Best.calls kj2 _ _ l0_0 _ _ l0_1 t106 t109 t110 _ ?side1 ?side2 ?side3 ?side4 A25.out).mono ?_); (case side1 => repeat (first | exact (Kd.C_below HR0_0.out HB.out) | (with_reducible refine Kd.C_alloc ?_ _) | (with_reducible refine Kd.C_drewN ?_ _) | (with_reducible refine Kd.C_drew ?_))); (case side2 => exact HC0_0.out); (case side3 => repeat (first | exact (Kd.C_below HR0_1.out HB.out) | (with_reducible refine Kd.C_alloc ?_ _) | (with_reducible refine Kd.C_drewN ?_ _) | (with_reducible refine Kd.C_drew ?_))); (case side4 => exact HC0_1.out); rintro e w30 ⟨v107, rfl, ho0, hb⟩; refine ⟨_, rfl, ?_⟩; have n0_ := Aside0.mk (Kd.R_lower ho0 (below_size (by repeat (first | (with_reducible first | exact HB.out | apply below_alloc | apply pw_below_drewN | apply below_drew1 | refine below_set ?_ GE101.out) | exact HB.out)))); have n1_ := Aside0.mk (blk_below (g := gb101) (o := .cells #[.slice A0_0 l0_0.length c0_0, .slice A0_1 l0_1.length c0_1] 41 (0, 0)) (by (with_reducible repeat (first | refine blk_drewN ?_ _ | refine blk_drew ?_ | refine blk_alloc ?_ _)); exact BK101.out) hb); have n2_ := Aside0.mk (below_step (by repeat (first | (with_reducible first | exact HB.out | apply below_alloc | apply pw_below_drewN | apply below_drew1 | refine below_set ?_ GE101.out) | exact HB.out)) hb); clear BK101; clear HB; have HO108 := n0_; have BK101 := n1_; have HB := n2_; clear n0_ n1_ n2_; (try clear hb); (try clear hb2); (try clear hk); (try clear hi); (try clear ho0); have hcz31_0 : w30.cell? ⟨gb101, 0, none⟩ = some (.slice A0_0 l0_0.length c0_0) := (blk_cell BK101.out 0).trans rfl; have hcz31_1 : w30.cell? ⟨gb101, 1, none⟩ = some (.slice A0_1 l0_1.length c0_1) := (blk_cell BK101.out 1).trans rfl; have hfz31_0 := blk_frozen BK101.out 0; have hfz31_1 := blk_frozen BK101.out 1; obtain ⟨Ao32, co32, eo32⟩ := Kd.R_slice HO108.out; subst eo32) | ((with_reducible refine gate_callee (f := 28) rfl ?_); refine goesL_ (some 40) rfl rfl Try.func28 (by kernel_rfl) rfl #[.agg #[.slice A0_0 l0_0.length c0_0, .slice A0_1 l0_1.length c0_1], .slice Ao32 t106.length co32] rfl (by (try simp only [List.map_toArray, List.map_cons, List.map_nil]); first | done | rfl | (simp only [List.length_drop, List.length_take]; rfl)) ?_; (with_reducible refine (jam_Costs.calls kj2 _ _ l0_0 _ _ l0_1 _ _ t106 t111 t114 t115 _ ?side1 ?side2 ?side3 ?side4 ?side5 ?side6 A26.out).mono ?_); (case side1 => repeat (first | exact (Kd.C_below HR0_0.out HB.out) | (with_reducible refine Kd.C_alloc ?_ _) | (with_reducible refine Kd.C_drewN ?_ _) | (with_reducible refine Kd.C_drew ?_))); (case side2 => exact HC0_0.out); (case side3 => repeat (first | exact (Kd.C_below HR0_1.out HB.out) | (with_reducible refine Kd.C_alloc ?_ _) | (with_reducible refine Kd.C_drewN ?_ _) | (with_reducible refine Kd.C_drew ?_))); (case side4 => exact HC0_1.out); (case side5 => repeat (first | exact (Kd.R_reads' HO108.out).2.2 | (with_reducible refine Kd.C_alloc ?_ _) | (with_reducible refine Kd.C_drewN ?_ _) | (with_reducible refine Kd.C_drew ?_))); (case side6 => exact (Kd.R_reads' HO108.out).2.1); rintro e w33 ⟨v112, rfl, ho0, hb⟩; refine ⟨_, rfl, ?_⟩; have n0_ := Aside0.mk (Kd.R_elder' (by (with_reducible repeat (first | apply Kd.R_alloc | apply Kd.R_drewN | apply Kd.R_drew)); exact HO108.out) (Kd.R_base ho0) hb); have n1_ := Aside0.mk (Kd.R_lower (Kd.R_new' ho0 (Kd.R_lt (by (with_reducible repeat (first | apply Kd.R_alloc | apply Kd.R_drewN | apply Kd.R_drew)); exact HO108.out))) (below_size (by repeat (first | (with_reducible first | exact HB.out | apply below_alloc | apply pw_below_drewN | apply below_drew1 | refine below_set ?_ GE101.out) | exact HB.out)))); have n2_ := Aside0.mk (blk_below (g := gb101) (o := .cells #[.slice A0_0 l0_0.length c0_0, .slice A0_1 l0_1.length c0_1] 41 (0, 0)) (by (with_reducible repeat (first | refine blk_drewN ?_ _ | refine blk_drew ?_ | refine blk_alloc ?_ _)); exact BK101.out) hb); have n3_ := Aside0.mk (below_step (by repeat (first | (with_reducible first | exact HB.out | apply below_alloc | apply pw_below_drewN | apply below_drew1 | refine below_set ?_ GE101.out) | exact HB.out)) hb); clear HO108; clear BK101; clear HB; have HO108 := n0_; have HO113 := n1_; have BK101 := n2_; have HB := n3_; clear n0_ n1_ n2_ n3_; (try clear hb); (try clear hb2); (try clear hk); (try clear hi); (try clear ho0); have hcz34_0 : w33.cell? ⟨gb101, 0, none⟩ = some (.slice A0_0 l0_0.length c0_0) := (blk_cell BK101.out 0).trans rfl; have hcz34_1 : w33.cell? ⟨gb101, 1, none⟩ = some (.slice A0_1 l0_1.length c0_1) := (blk_cell BK101.out 1).trans rfl; have hfz34_0 := blk_frozen BK101.out 0; have hfz34_1 := blk_frozen BK101.out 1) | ((with_reducible refine gate_callee (f := 28) rfl ?_); refine goesL_ (some 47) rfl rfl Try.func28 (by kernel_rfl) rfl #[.agg #[.slice A0_0 l0_0.length c0_0, .slice A0_1 l0_1.length c0_1], .slice A1 l1.length c1] rfl (by (try simp only [List.map_toArray, List.map_cons, List.map_nil]); first | done | rfl | (simp only [List.length_drop, List.length_take]; rfl)) ?_; (with_reducible refine (jam_Costs.calls kj2 _ _ l0_0 _ _ l0_1 _ _ l1 t116 t119 t120 _ ?side1 ?side2 ?side3 ?side4 ?side5 ?side6 A27.out).mono ?_); (case side1 => repeat (first | exact (Kd.C_below HR0_0.out HB.out) | (with_reducible refine Kd.C_alloc ?_ _) | (with_reducible refine Kd.C_drewN ?_ _) | (with_reducible refine Kd.C_drew ?_))); (case side2 => exact HC0_0.out); (case side3 => repeat (first | exact (Kd.C_below HR0_1.out HB.out) | (with_reducible refine Kd.C_alloc ?_ _) | (with_reducible refine Kd.C_drewN ?_ _) | (with_reducible refine Kd.C_drew ?_))); (case side4 => exact HC0_1.out); (case side5 => repeat (first | exact (Kd.C_below HR1.out HB.out) | (with_reducible refine Kd.C_alloc ?_ _) | (with_reducible refine Kd.C_drewN ?_ _) | (with_reducible refine Kd.C_drew ?_))); (case side6 => exact HC1.out); rintro e w35 ⟨v117, rfl, ho0, hb⟩; refine ⟨_, rfl, ?_⟩; have n0_ := Aside0.mk (Kd.R_elder' (by (with_reducible repeat (first | apply Kd.R_alloc | apply Kd.R_drewN | apply Kd.R_drew)); exact HO108.out) (Kd.R_base ho0) hb); have n1_ := Aside0.mk (Kd.R_elder' (by (with_reducible repeat (first | apply Kd.R_alloc | apply Kd.R_drewN | apply Kd.R_drew)); exact HO113.out) (Kd.R_base ho0) hb); have n2_ := Aside0.mk (Kd.R_lower (Kd.R_new' (Kd.R_new' ho0 (Kd.R_lt (by (with_reducible repeat (first | apply Kd.R_alloc | apply Kd.R_drewN | apply Kd.R_drew)); exact HO108.out))) (Kd.R_lt (by (with_reducible repeat (first | apply Kd.R_alloc | apply Kd.R_drewN | apply Kd.R_drew)); exact HO113.out))) (below_size (by repeat (first | (with_reducible first | exact HB.out | apply below_alloc | apply pw_below_drewN | apply below_drew1 | refine below_set ?_ GE101.out) | exact HB.out)))); have n3_ := Aside0.mk (blk_below (g := gb101) (o := .cells #[.slice A0_0 l0_0.length c0_0, .slice A0_1 l0_1.length c0_1] 41 (0, 0)) (by (with_reducible repeat (first | refine blk_drewN ?_ _ | refine blk_drew ?_ | refine blk_alloc ?_ _)); exact BK101.out) hb); have n4_ := Aside0.mk (below_step (by repeat (first | (with_reducible first | exact HB.out | apply below_alloc | apply pw_below_drewN | apply below_drew1 | refine below_set ?_ GE101.out) | exact HB.out)) hb); clear HO108; clear HO113; clear BK101; clear HB; have HO108 := n0_; have HO113 := n1_; have HO118 := n2_; have BK101 := n3_; have HB := n4_; clear n0_ n1_ n2_ n3_ n4_; (try clear hb); (try clear hb2); (try clear hk); (try clear hi); (try clear ho0)))
    (try simp only [Act.put, List.setIfInBounds_toArray, List.set_cons_zero, List.set_cons_succ])
    go_cut [77] (fun v77 wc => ∃ (kq : Nat) (x77_27 : Bool), v77 = .bool x77_27 ∧ Aside0 (trishawlaw02_JamTried.j1 kq l1 t106 t109 t119 x77_27 = some r) ∧ Aside0 (kq ≤ kj2) ∧ Aside0 (Kd.R (Kd.int .i64) 3 wc w.heap.size (fun _ => True) (.slice Ao32 t106.length co32) t106) ∧ Aside0 (wc.heap[gb101]? = some (.cells #[(.slice A0_0 l0_0.length c0_0), (.slice A0_1 l0_1.length c0_1)] 41 (0, 0))) ∧ Aside0 (Below w.heap.size w wc))
    case first =>
     have H := HC28.out
     clear HC28
     by_cases c36 : t110 = 0
     ·rw [if_pos c36] at H
      have c36b0 : (t110 == 0) = true := beq_iff_eq.mpr c36
      have c36b1 : (t110 != 0) = false := bne_eq_false_iff_eq.mpr c36
      clear c36
      (first | rw [c36b0] | (simp only [i64_w, i32_w]; rw [c36b0]) | skip)
      by_cases c37 : t115 = 0
      ·rw [if_pos c37] at H
       have c37b0 : (t115 == 0) = true := beq_iff_eq.mpr c37
       have c37b1 : (t115 != 0) = false := bne_eq_false_iff_eq.mpr c37
       clear c37
       by_cases c38 : t120 = 0
       ·rw [if_pos c38] at H
        have c38b0 : (t120 == 0) = true := beq_iff_eq.mpr c38
        have c38b1 : (t120 != 0) = false := bne_eq_false_iff_eq.mpr c38
        clear c38
        by_cases c39 : t109 = t114
        ·rw [if_pos c39] at H
         have c39b0 : (t109 == t114) = true := beq_iff_eq.mpr c39
         have c39b1 : (t109 != t114) = false := bne_eq_false_iff_eq.mpr c39
         clear c39
         by_cases c40 : t119 < t109
         ·rw [if_pos c40] at H
          have c40b0 : decide (t119 < t109) = true := decide_eq_true c40
          clear c40
          have H' := Aside0.mk H
          clear H
          go_wp2
          go_meet
          case rel => exact ⟨_, (true), (by first | rfl | (simp; done) | (simp [*]; done)), H', ⟨by have := HJ2.out; first | omega | exact Nat.le_refl _⟩, ⟨by (with_reducible repeat (first | apply Kd.R_alloc | apply Kd.R_drewN | apply Kd.R_drew)); exact Kd.R_mono HO108.out (fun _ hk => trivial)⟩, ⟨by (with_reducible repeat (first | refine blk_drewN ?_ _ | refine blk_drew ?_ | refine blk_alloc ?_ _)); exact BK101.out⟩, ⟨by repeat (first | (with_reducible first | exact HB.out | apply below_alloc | apply pw_below_drewN | apply below_drew1 | refine below_set ?_ GE101.out) | exact HB.out)⟩⟩
         ·rw [if_neg c40] at H
          have c40b0 : decide (t119 < t109) = false := decide_eq_false c40
          clear c40
          have H' := Aside0.mk H
          clear H
          go_wp2
          go_meet
          case rel => exact ⟨_, (((t106.length : Int) != (l1.length : Int))), (by first | rfl | (simp; done) | (simp [*]; done)), H', ⟨by have := HJ2.out; first | omega | exact Nat.le_refl _⟩, ⟨by (with_reducible repeat (first | apply Kd.R_alloc | apply Kd.R_drewN | apply Kd.R_drew)); exact Kd.R_mono HO108.out (fun _ hk => trivial)⟩, ⟨by (with_reducible repeat (first | refine blk_drewN ?_ _ | refine blk_drew ?_ | refine blk_alloc ?_ _)); exact BK101.out⟩, ⟨by repeat (first | (with_reducible first | exact HB.out | apply below_alloc | apply pw_below_drewN | apply below_drew1 | refine below_set ?_ GE101.out) | exact HB.out)⟩⟩
        ·rw [if_neg c39] at H
         have c39b0 : (t109 == t114) = false := beq_eq_false_iff_ne.mpr c39
         have c39b1 : (t109 != t114) = true := bne_iff_ne.mpr c39
         have H' := Aside0.mk H
         clear H
         go_wp2
         go_meet
         case rel => exact ⟨_, (true), (by first | rfl | (simp; done) | (simp [*]; done)), H', ⟨by have := HJ2.out; first | omega | exact Nat.le_refl _⟩, ⟨by (with_reducible repeat (first | apply Kd.R_alloc | apply Kd.R_drewN | apply Kd.R_drew)); exact Kd.R_mono HO108.out (fun _ hk => trivial)⟩, ⟨by (with_reducible repeat (first | refine blk_drewN ?_ _ | refine blk_drew ?_ | refine blk_alloc ?_ _)); exact BK101.out⟩, ⟨by repeat (first | (with_reducible first | exact HB.out | apply below_alloc | apply pw_below_drewN | apply below_drew1 | refine below_set ?_ GE101.out) | exact HB.out)⟩⟩
       ·rw [if_neg c38] at H
        have c38b0 : (t120 == 0) = false := beq_eq_false_iff_ne.mpr c38
        have c38b1 : (t120 != 0) = true := bne_iff_ne.mpr c38
        have H' := Aside0.mk H
        clear H
        go_wp2
        go_meet
        case rel => exact ⟨_, (true), (by first | rfl | (simp; done) | (simp [*]; done)), H', ⟨by have := HJ2.out; first | omega | exact Nat.le_refl _⟩, ⟨by (with_reducible repeat (first | apply Kd.R_alloc | apply Kd.R_drewN | apply Kd.R_drew)); exact Kd.R_mono HO108.out (fun _ hk => trivial)⟩, ⟨by (with_reducible repeat (first | refine blk_drewN ?_ _ | refine blk_drew ?_ | refine blk_alloc ?_ _)); exact BK101.out⟩, ⟨by repeat (first | (with_reducible first | exact HB.out | apply below_alloc | apply pw_below_drewN | apply below_drew1 | refine below_set ?_ GE101.out) | exact HB.out)⟩⟩
      ·rw [if_neg c37] at H
       have c37b0 : (t115 == 0) = false := beq_eq_false_iff_ne.mpr c37
       have c37b1 : (t115 != 0) = true := bne_iff_ne.mpr c37
       have H' := Aside0.mk H
       clear H
       go_wp2
       go_meet
       case rel => exact ⟨_, (true), (by first | rfl | (simp; done) | (simp [*]; done)), H', ⟨by have := HJ2.out; first | omega | exact Nat.le_refl _⟩, ⟨by (with_reducible repeat (first | apply Kd.R_alloc | apply Kd.R_drewN | apply Kd.R_drew)); exact Kd.R_mono HO108.out (fun _ hk => trivial)⟩, ⟨by (with_reducible repeat (first | refine blk_drewN ?_ _ | refine blk_drew ?_ | refine blk_alloc ?_ _)); exact BK101.out⟩, ⟨by repeat (first | (with_reducible first | exact HB.out | apply below_alloc | apply pw_below_drewN | apply below_drew1 | refine below_set ?_ GE101.out) | exact HB.out)⟩⟩
     ·rw [if_neg c36] at H
      have c36b0 : (t110 == 0) = false := beq_eq_false_iff_ne.mpr c36
      have c36b1 : (t110 != 0) = true := bne_iff_ne.mpr c36
      (first | rw [c36b0] | (simp only [i64_w, i32_w]; rw [c36b0]) | skip)
      have H' := Aside0.mk H
      clear H
      go_wp2
      go_meet
      case rel => exact ⟨_, (true), (by first | rfl | (simp; done) | (simp [*]; done)), H', ⟨by have := HJ2.out; first | omega | exact Nat.le_refl _⟩, ⟨by (with_reducible repeat (first | apply Kd.R_alloc | apply Kd.R_drewN | apply Kd.R_drew)); exact Kd.R_mono HO108.out (fun _ hk => trivial)⟩, ⟨by (with_reducible repeat (first | refine blk_drewN ?_ _ | refine blk_drew ?_ | refine blk_alloc ?_ _)); exact BK101.out⟩, ⟨by repeat (first | (with_reducible first | exact HB.out | apply below_alloc | apply pw_below_drewN | apply below_drew1 | refine below_set ?_ GE101.out) | exact HB.out)⟩⟩
    case rest =>
     clear HC28
     try clear c1
     try clear c2
     try clear p2
     try clear c3
     try clear c4
     try clear c6
     try clear c8
     try clear c16
     try clear c22
     try clear c24
     try clear c27
     try clear c28
     try clear c36
     try clear c36b0
     try clear c36b1
     try clear c37
     try clear c37b0
     try clear c37b1
     try clear c38
     try clear c38b0
     try clear c38b1
     try clear c39
     try clear c39b0
     try clear c39b1
     try clear c40
     try clear c40b0
     try clear hcz10_0
     try clear hcz10_1
     try clear hcz12_0
     try clear hcz12_1
     try clear hcz14_0
     try clear hcz14_1
     try clear hcz16_0
     try clear hcz16_1
     try clear hcz18_0
     try clear hcz18_1
     try clear hcz20_0
     try clear hcz20_1
     try clear hcz29_0
     try clear hcz29_1
     try clear hcz31_0
     try clear hcz31_1
     try clear hcz34_0
     try clear hcz34_1
     try clear hfz10_0
     try clear hfz10_1
     try clear hfz12_0
     try clear hfz12_1
     try clear hfz14_0
     try clear hfz14_1
     try clear hfz16_0
     try clear hfz16_1
     try clear hfz18_0
     try clear hfz18_1
     try clear hfz20_0
     try clear hfz20_1
     try clear hfz29_0
     try clear hfz29_1
     try clear hfz31_0
     try clear hfz31_1
     try clear hfz34_0
     try clear hfz34_1
     try clear p2
     obtain ⟨kq, x77_27, rfl, HA, HJ27, HO_5, BK101, HB⟩ := hcut
     cases kq with
     | zero => exact absurd HA.out (by simp [trishawlaw02_JamTried.j1])
     | succ kj27 =>
      have H := HA.out
      clear HA
      simp only [trishawlaw02_JamTried.j1] at H
      by_cases c41 : x77_27 = true
      ·subst c41
       have H1 : (some false) = some r := by rw [if_pos rfl] at H; exact H
       clear H
       have H := H1
       clear H1
       obtain rfl := Option.some.inj H
       go_wp2
       go_ret
       exact ⟨by first | rfl | (simp [errW_none, errW_some] <;> rfl) | (simp [*, errW_none, errW_some] <;> rfl), by repeat (first | (with_reducible first | exact HB.out | apply below_alloc | apply pw_below_drewN | apply below_drew1 | refine below_set ?_ GE101.out) | exact HB.out)⟩
      ·replace c41 := Bool.eq_false_iff.mpr c41
       subst c41
       have H1 : (trishawlaw02_JamTried.l0 kj27 l1 t106 t109 t119 0) = some r := by rw [if_neg (show ¬ (false = true) by decide)] at H; exact H
       clear H
       have H := H1
       clear H1
       have H' := Aside0.mk H
       clear H
       go_wp2
       go_loopg [14] kj27 (fun kq v14 w' => ∃ (x14_3 : Int), v14 = .int .i64 x14_3 ∧ Aside0 (trishawlaw02_JamTried.l0 kq l1 t106 t109 t119 x14_3 = some r) ∧ Aside0 (kq ≤ kj27) ∧ Aside0 (Kd.R (Kd.int .i64) 3 w' w.heap.size (fun _ => True) (.slice Ao32 t106.length co32) t106) ∧ Aside0 (w'.heap[gb101]? = some (.cells #[(.slice A0_0 l0_0.length c0_0), (.slice A0_1 l0_1.length c0_1)] 41 (0, 0))) ∧ Aside0 (Below w.heap.size w w'))
       case atStart => exact ⟨(0), (by first | rfl | (simp; done) | (simp [*]; done)), H', ⟨Nat.le_refl _⟩, ⟨by (with_reducible repeat (first | apply Kd.R_alloc | apply Kd.R_drewN | apply Kd.R_drew)); exact HO_5.out⟩, ⟨by (with_reducible repeat (first | refine blk_drewN ?_ _ | refine blk_drew ?_ | refine blk_alloc ?_ _)); exact BK101.out⟩, ⟨by repeat (first | (with_reducible first | exact HB.out | apply below_alloc | apply pw_below_drewN | apply below_drew1 | refine below_set ?_ GE101.out) | exact HB.out)⟩⟩
       case round =>
        clear H'
        try clear c1
        try clear c2
        try clear p2
        try clear c3
        try clear c4
        try clear c6
        try clear c8
        try clear c16
        try clear c22
        try clear c24
        try clear c27
        try clear c28
        try clear c36
        try clear c36b0
        try clear c36b1
        try clear c37
        try clear c37b0
        try clear c37b1
        try clear c38
        try clear c38b0
        try clear c38b1
        try clear c39
        try clear c39b0
        try clear c39b1
        try clear c40
        try clear c40b0
        try clear c41
        try clear hcz10_0
        try clear hcz10_1
        try clear hcz12_0
        try clear hcz12_1
        try clear hcz14_0
        try clear hcz14_1
        try clear hcz16_0
        try clear hcz16_1
        try clear hcz18_0
        try clear hcz18_1
        try clear hcz20_0
        try clear hcz20_1
        try clear hcz29_0
        try clear hcz29_1
        try clear hcz31_0
        try clear hcz31_1
        try clear hcz34_0
        try clear hcz34_1
        try clear hfz10_0
        try clear hfz10_1
        try clear hfz12_0
        try clear hfz12_1
        try clear hfz14_0
        try clear hfz14_1
        try clear hfz16_0
        try clear hfz16_1
        try clear hfz18_0
        try clear hfz18_1
        try clear hfz20_0
        try clear hfz20_1
        try clear hfz29_0
        try clear hfz29_1
        try clear hfz31_0
        try clear hfz31_1
        try clear hfz34_0
        try clear hfz34_1
        try clear p2
        obtain ⟨x14_3, rfl, HA, HK3, HO_5, BK101, HB⟩ := hrel
        cases gk with
        | zero => exact absurd HA.out (by simp [trishawlaw02_JamTried.l0])
        | succ k3 =>
         have H := HA.out
         clear HA
         simp only [trishawlaw02_JamTried.l0] at H
         have HC42 := Aside0.mk H
         clear H
         go_upto_region 9 with (fail)
         go_cut [86] (fun v86 wc => ∃ (kq : Nat) (x86_41 : Bool), v86 = .bool x86_41 ∧ Aside0 (trishawlaw02_JamTried.j3 kq l1 t106 t109 t119 x14_3 x86_41 = some r) ∧ Aside0 (kq ≤ k3) ∧ Aside0 (Kd.R (Kd.int .i64) 3 wc w.heap.size (fun _ => True) (.slice Ao32 t106.length co32) t106) ∧ Aside0 (wc.heap[gb101]? = some (.cells #[(.slice A0_0 l0_0.length c0_0), (.slice A0_1 l0_1.length c0_1)] 41 (0, 0))) ∧ Aside0 (Below w.heap.size w wc))
         case first =>
          have H := HC42.out
          clear HC42
          by_cases c43 : x14_3 < (t106.length : Int)
          ·rw [if_pos c43] at H
           have c43b0 : decide (x14_3 < (t106.length : Int)) = true := decide_eq_true c43
           clear c43
           (first | rw [c43b0] | (simp only [i64_w, i32_w]; rw [c43b0]) | skip)
           have H' := Aside0.mk H
           clear H
           go_wp2
           go_meet
           case rel => exact ⟨_, ((t119 == t109)), (by first | rfl | (simp; done) | (simp [*]; done)), H', ⟨by have := HJ2.out; have := HJ27.out; have := HK3.out; first | omega | exact Nat.le_refl _⟩, ⟨by (with_reducible repeat (first | apply Kd.R_alloc | apply Kd.R_drewN | apply Kd.R_drew)); exact HO_5.out⟩, ⟨by (with_reducible repeat (first | refine blk_drewN ?_ _ | refine blk_drew ?_ | refine blk_alloc ?_ _)); exact BK101.out⟩, ⟨by repeat (first | (with_reducible first | exact HB.out | apply below_alloc | apply pw_below_drewN | apply below_drew1 | refine below_set ?_ GE101.out) | exact HB.out)⟩⟩
          ·rw [if_neg c43] at H
           have c43b0 : decide (x14_3 < (t106.length : Int)) = false := decide_eq_false c43
           clear c43
           (first | rw [c43b0] | (simp only [i64_w, i32_w]; rw [c43b0]) | skip)
           have H' := Aside0.mk H
           clear H
           go_wp2
           go_meet
           case rel => exact ⟨_, (false), (by first | rfl | (simp; done) | (simp [*]; done)), H', ⟨by have := HJ2.out; have := HJ27.out; have := HK3.out; first | omega | exact Nat.le_refl _⟩, ⟨by (with_reducible repeat (first | apply Kd.R_alloc | apply Kd.R_drewN | apply Kd.R_drew)); exact HO_5.out⟩, ⟨by (with_reducible repeat (first | refine blk_drewN ?_ _ | refine blk_drew ?_ | refine blk_alloc ?_ _)); exact BK101.out⟩, ⟨by repeat (first | (with_reducible first | exact HB.out | apply below_alloc | apply pw_below_drewN | apply below_drew1 | refine below_set ?_ GE101.out) | exact HB.out)⟩⟩
         case rest =>
          clear HC42
          try clear c1
          try clear c2
          try clear p2
          try clear c3
          try clear c4
          try clear c6
          try clear c8
          try clear c16
          try clear c22
          try clear c24
          try clear c27
          try clear c28
          try clear c36
          try clear c36b0
          try clear c36b1
          try clear c37
          try clear c37b0
          try clear c37b1
          try clear c38
          try clear c38b0
          try clear c38b1
          try clear c39
          try clear c39b0
          try clear c39b1
          try clear c40
          try clear c40b0
          try clear c41
          try clear c43
          try clear c43b0
          try clear hcz10_0
          try clear hcz10_1
          try clear hcz12_0
          try clear hcz12_1
          try clear hcz14_0
          try clear hcz14_1
          try clear hcz16_0
          try clear hcz16_1
          try clear hcz18_0
          try clear hcz18_1
          try clear hcz20_0
          try clear hcz20_1
          try clear hcz29_0
          try clear hcz29_1
          try clear hcz31_0
          try clear hcz31_1
          try clear hcz34_0
          try clear hcz34_1
          try clear hfz10_0
          try clear hfz10_1
          try clear hfz12_0
          try clear hfz12_1
          try clear hfz14_0
          try clear hfz14_1
          try clear hfz16_0
          try clear hfz16_1
          try clear hfz18_0
          try clear hfz18_1
          try clear hfz20_0
          try clear hfz20_1
          try clear hfz29_0
          try clear hfz29_1
          try clear hfz31_0
          try clear hfz31_1
          try clear hfz34_0
          try clear hfz34_1
          try clear p2
          obtain ⟨kq, x86_41, rfl, HA, HJ41, HO_5, BK101, HB⟩ := hcut
          cases kq with
          | zero => exact absurd HA.out (by simp [trishawlaw02_JamTried.j3])
          | succ kj41 =>
           have H := HA.out
           clear HA
           simp only [trishawlaw02_JamTried.j3] at H
           by_cases c44 : x86_41 = true
           ·subst c44
            have H1 : (if 0 ≤ x14_3 then (if x14_3 < (t106.length : Int) then (if x14_3 < (l1.length : Int) then (if (rd t106 x14_3) = (rd l1 x14_3) then (trishawlaw02_JamTried.l0 kj41 l1 t106 t109 t119 (wrap64 (x14_3 + 1))) else (if (rd t106 x14_3) < (rd l1 x14_3) then ((trishawlaw02_alive.f kj41).bind fun t125 => (some t125)) else (some false))) else (none)) else (none)) else (none)) = some r := by rw [if_pos rfl] at H; exact H
            clear H
            have H := H1
            clear H1
            by_cases c45 : 0 ≤ x14_3
            ·rw [if_pos c45] at H
             have c45b0 : decide (0 ≤ x14_3) = true := decide_eq_true c45
             clear c45
             by_cases c46 : x14_3 < (t106.length : Int)
             ·rw [if_pos c46] at H
              have c46b0 : decide (x14_3 < (t106.length : Int)) = true := decide_eq_true c46
              clear c46
              by_cases c47 : x14_3 < (l1.length : Int)
              ·rw [if_pos c47] at H
               have c47b0 : decide (x14_3 < (l1.length : Int)) = true := decide_eq_true c47
               clear c47
               by_cases c48 : (rd t106 x14_3) = (rd l1 x14_3)
               ·rw [if_pos c48] at H
                have c48b0 : ((rd t106 x14_3) == (rd l1 x14_3)) = true := beq_iff_eq.mpr c48
                have c48b1 : ((rd t106 x14_3) != (rd l1 x14_3)) = false := bne_eq_false_iff_eq.mpr c48
                clear c48
                have H' := Aside0.mk H
                clear H
                try go_wp2
                have n0_ := Aside0.mk (Kd.R_drew HO_5.out)
                have n1_ := Aside0.mk (blk_drew BK101.out)
                have n2_ := Aside0.mk (below_drew1 HB.out)
                clear HO_5
                clear BK101
                clear HB
                have HO_5 := n0_
                have BK101 := n1_
                have HB := n2_
                clear n0_ n1_ n2_
                have p121 : 0 ≤ (x14_3 : Int) := of_decide_eq_true (by first | (with_reducible assumption) | assumption)
                have q121 : x14_3 < (t106.length : Int) := of_decide_eq_true (by first | (with_reducible assumption) | assumption)
                obtain ⟨ad121, e121, hx121_0⟩ := Kd.at_int (Kd.R_reads' HO_5.out).2.2 x14_3 p121 q121
                cases e121
                replace p121 := eq_true p121
                replace q121 := eq_true q121
                have p122 : 0 ≤ (x14_3 : Int) := of_decide_eq_true (by first | (with_reducible assumption) | assumption)
                have q122 : x14_3 < (l1.length : Int) := of_decide_eq_true (by first | (with_reducible assumption) | assumption)
                obtain ⟨ad122, e122, hx122_0⟩ := Kd.at_int HR1.out x14_3 p122 q122
                have hw122_0 := hx122_0
                cases e122
                replace hx122_0 := (HB.out.cell (World.block_lt_of_cell? w _ hx122_0)).trans hx122_0
                replace p122 := eq_true p122
                replace q122 := eq_true q122
                refine start_ (n := 9) (S := fun w' => w'.cell? (ad121.add (x14_3).toNat) = some (.int .i64 (rd t106 x14_3)) ∧ w'.cell? (ad122.add (x14_3).toNat) = some (.int .i64 (rd l1 x14_3))) (ds := []) #[false, false, false, false, false, false, false, false, false] (by kernel_rfl) rfl rfl ⟨hx121_0, ((HB.out.cell (World.block_lt_of_cell? w _ hw122_0)).trans hw122_0)⟩ (fun hHeld => ?_); refine with_tabW trishawlaw02_JamTried.tab11 trishawlaw02_JamTried.bits11 (fun HT_ HW_ => ?_)
                generalize wc.drew = w49 at HO_5 BK101 HB hx121_0 hx122_0 hHeld ⊢
                refine pure_ (i := 0) (N := some 89) (v := ?_) (a' := ?_) #[true, false, false, false, false, false, false, false, false] rfl rfl (any_of HT_.out (by kernel_rfl)) (fun _ _ _ h => h) (Or.inl ⟨by rfl, ?_⟩) ?_ ?_
                rotate_left
                ·intro w'
                 go_simp
                 with_reducible rfl
                rotate_left
                ·simp only [Act.put, List.setIfInBounds_toArray, List.set_cons_zero, List.set_cons_succ, i64_w, i32_w]
                 rfl
                refine pure_ (i := 1) (N := some 90) (v := ?_) (a' := ?_) #[true, true, false, false, false, false, false, false, false] rfl rfl (any_of HT_.out (by kernel_rfl)) (fun _ _ _ h => h) (Or.inl ⟨by rfl, ?_⟩) ?_ ?_
                rotate_left
                ·intro w'
                 go_simp
                 with_reducible rfl
                rotate_left
                ·simp only [Act.put, List.setIfInBounds_toArray, List.set_cons_zero, List.set_cons_succ, i64_w, i32_w]
                 rfl
                refine pure_ (i := 2) (N := some 91) (v := ?_) (a' := ?_) #[true, true, true, false, false, false, false, false, false] rfl rfl (any_of HT_.out (by kernel_rfl)) (fun _ _ _ h => h) (Or.inl ⟨by rfl, ?_⟩) ?_ ?_
                rotate_left
                ·intro w'
                 go_simp
                 with_reducible rfl
                rotate_left
                ·simp only [Act.put, List.setIfInBounds_toArray, List.set_cons_zero, List.set_cons_succ, i64_w, i32_w]
                 rfl
                refine pure_ (i := 4) (N := some 93) (v := ?_) (a' := ?_) #[true, true, true, false, true, false, false, false, false] rfl rfl (any_of HT_.out (by kernel_rfl)) (fun _ _ _ h => h) (Or.inl ⟨by rfl, ?_⟩) ?_ ?_
                rotate_left
                ·intro w'
                 go_simp
                 with_reducible rfl
                rotate_left
                ·simp only [Act.put, List.setIfInBounds_toArray, List.set_cons_zero, List.set_cons_succ, i64_w, i32_w]
                 rfl
                refine pure_ (i := 5) (N := some 94) (v := ?_) (a' := ?_) #[true, true, true, false, true, true, false, false, false] rfl rfl (any_of HT_.out (by kernel_rfl)) (fun _ _ _ h => h) (Or.inl ⟨by rfl, ?_⟩) ?_ ?_
                rotate_left
                ·intro w'
                 go_simp
                 with_reducible rfl
                rotate_left
                ·simp only [Act.put, List.setIfInBounds_toArray, List.set_cons_zero, List.set_cons_succ, i64_w, i32_w]
                 rfl
                refine pure_ (i := 6) (N := some 95) (v := ?_) (a' := ?_) #[true, true, true, false, true, true, true, false, false] rfl rfl (any_of HT_.out (by kernel_rfl)) (fun _ _ _ h => h) (Or.inl ⟨by rfl, ?_⟩) ?_ ?_
                rotate_left
                ·intro w'
                 go_simp
                 with_reducible rfl
                rotate_left
                ·simp only [Act.put, List.setIfInBounds_toArray, List.set_cons_zero, List.set_cons_succ, i64_w, i32_w]
                 rfl
                refine take_ (i := 3) (N := some 92) (v := ?_) (a' := ?_) #[true, true, true, true, true, true, true, false, false] rfl rfl (take_ofW HT_.out HW_.out (by kernel_rfl)) (fun _ _ _ h => h) (Or.inl ⟨by rfl, ?_⟩) hHeld ?_ ?_
                rotate_left
                ·rintro w' ⟨s0, s1⟩
                 go_simp
                 with_reducible rfl
                rotate_left
                ·simp only [Act.put, List.setIfInBounds_toArray, List.set_cons_zero, List.set_cons_succ, i64_w, i32_w]
                 rfl
                refine take_ (i := 7) (N := some 96) (v := ?_) (a' := ?_) #[true, true, true, true, true, true, true, true, false] rfl rfl (take_ofW HT_.out HW_.out (by kernel_rfl)) (fun _ _ _ h => h) (Or.inl ⟨by rfl, ?_⟩) hHeld ?_ ?_
                rotate_left
                ·rintro w' ⟨s0, s1⟩
                 go_simp
                 with_reducible rfl
                rotate_left
                ·simp only [Act.put, List.setIfInBounds_toArray, List.set_cons_zero, List.set_cons_succ, i64_w, i32_w]
                 rfl
                refine pure_ (i := 8) (N := some 97) (v := ?_) (a' := ?_) #[true, true, true, true, true, true, true, true, true] rfl rfl (any_of HT_.out (by kernel_rfl)) (fun _ _ _ h => h) (Or.inl ⟨by rfl, ?_⟩) ?_ ?_
                rotate_left
                ·intro w'
                 go_simp
                 with_reducible rfl
                rotate_left
                ·simp only [Act.put, List.setIfInBounds_toArray, List.set_cons_zero, List.set_cons_succ, i64_w, i32_w]
                 rfl
                refine done_ (done_of HT_.out (by kernel_rfl)) ?_
                try go_wp2
                go_roundg kj41
                case measure => have := HJ2.out; have := HJ27.out; have := HK3.out; have := HJ41.out; omega
                case rel => exact ⟨(wrap64 (x14_3 + 1)), (by first | rfl | (simp; done) | (simp [*]; done)), H', ⟨by have := HJ2.out; have := HJ27.out; have := HK3.out; have := HJ41.out; omega⟩, ⟨by (with_reducible repeat (first | apply Kd.R_alloc | apply Kd.R_drewN | apply Kd.R_drew)); exact HO_5.out⟩, ⟨by (with_reducible repeat (first | refine blk_drewN ?_ _ | refine blk_drew ?_ | refine blk_alloc ?_ _)); exact BK101.out⟩, ⟨by repeat (first | (with_reducible first | exact HB.out | apply below_alloc | apply pw_below_drewN | apply below_drew1 | refine below_set ?_ GE101.out) | exact HB.out)⟩⟩
               ·rw [if_neg c48] at H
                have c48b0 : ((rd t106 x14_3) == (rd l1 x14_3)) = false := beq_eq_false_iff_ne.mpr c48
                have c48b1 : ((rd t106 x14_3) != (rd l1 x14_3)) = true := bne_iff_ne.mpr c48
                by_cases c50 : (rd t106 x14_3) < (rd l1 x14_3)
                ·rw [if_pos c50] at H
                 have c50b0 : decide ((rd t106 x14_3) < (rd l1 x14_3)) = true := decide_eq_true c50
                 clear c50
                 replace H := Option.bind_eq_some_iff.mp H
                 obtain ⟨t125, A510, H⟩ := H
                 replace H : (some t125) = some r := H
                 have A51 := Aside0.mk A510
                 clear A510
                 obtain rfl := Option.some.inj H
                 try go_wp2
                 have n0_ := Aside0.mk (Kd.R_drew HO_5.out)
                 have n1_ := Aside0.mk (blk_drew BK101.out)
                 have n2_ := Aside0.mk (below_drew1 HB.out)
                 clear HO_5
                 clear BK101
                 clear HB
                 have HO_5 := n0_
                 have BK101 := n1_
                 have HB := n2_
                 clear n0_ n1_ n2_
                 have p121 : 0 ≤ (x14_3 : Int) := of_decide_eq_true (by first | (with_reducible assumption) | assumption)
                 have q121 : x14_3 < (t106.length : Int) := of_decide_eq_true (by first | (with_reducible assumption) | assumption)
                 obtain ⟨ad121, e121, hx121_0⟩ := Kd.at_int (Kd.R_reads' HO_5.out).2.2 x14_3 p121 q121
                 cases e121
                 replace p121 := eq_true p121
                 replace q121 := eq_true q121
                 have p122 : 0 ≤ (x14_3 : Int) := of_decide_eq_true (by first | (with_reducible assumption) | assumption)
                 have q122 : x14_3 < (l1.length : Int) := of_decide_eq_true (by first | (with_reducible assumption) | assumption)
                 obtain ⟨ad122, e122, hx122_0⟩ := Kd.at_int HR1.out x14_3 p122 q122
                 have hw122_0 := hx122_0
                 cases e122
                 replace hx122_0 := (HB.out.cell (World.block_lt_of_cell? w _ hx122_0)).trans hx122_0
                 replace p122 := eq_true p122
                 replace q122 := eq_true q122
                 refine start_ (n := 9) (S := fun w' => w'.cell? (ad121.add (x14_3).toNat) = some (.int .i64 (rd t106 x14_3)) ∧ w'.cell? (ad122.add (x14_3).toNat) = some (.int .i64 (rd l1 x14_3))) (ds := []) #[false, false, false, false, false, false, false, false, false] (by kernel_rfl) rfl rfl ⟨hx121_0, ((HB.out.cell (World.block_lt_of_cell? w _ hw122_0)).trans hw122_0)⟩ (fun hHeld => ?_); refine with_tabW trishawlaw02_JamTried.tab11 trishawlaw02_JamTried.bits11 (fun HT_ HW_ => ?_)
                 generalize wc.drew = w52 at HO_5 BK101 HB hx121_0 hx122_0 hHeld ⊢
                 refine pure_ (i := 0) (N := some 89) (v := ?_) (a' := ?_) #[true, false, false, false, false, false, false, false, false] rfl rfl (any_of HT_.out (by kernel_rfl)) (fun _ _ _ h => h) (Or.inl ⟨by rfl, ?_⟩) ?_ ?_
                 rotate_left
                 ·intro w'
                  go_simp
                  with_reducible rfl
                 rotate_left
                 ·simp only [Act.put, List.setIfInBounds_toArray, List.set_cons_zero, List.set_cons_succ, i64_w, i32_w]
                  rfl
                 refine pure_ (i := 1) (N := some 90) (v := ?_) (a' := ?_) #[true, true, false, false, false, false, false, false, false] rfl rfl (any_of HT_.out (by kernel_rfl)) (fun _ _ _ h => h) (Or.inl ⟨by rfl, ?_⟩) ?_ ?_
                 rotate_left
                 ·intro w'
                  go_simp
                  with_reducible rfl
                 rotate_left
                 ·simp only [Act.put, List.setIfInBounds_toArray, List.set_cons_zero, List.set_cons_succ, i64_w, i32_w]
                  rfl
                 refine pure_ (i := 2) (N := some 91) (v := ?_) (a' := ?_) #[true, true, true, false, false, false, false, false, false] rfl rfl (any_of HT_.out (by kernel_rfl)) (fun _ _ _ h => h) (Or.inl ⟨by rfl, ?_⟩) ?_ ?_
                 rotate_left
                 ·intro w'
                  go_simp
                  with_reducible rfl
                 rotate_left
                 ·simp only [Act.put, List.setIfInBounds_toArray, List.set_cons_zero, List.set_cons_succ, i64_w, i32_w]
                  rfl
                 refine pure_ (i := 4) (N := some 93) (v := ?_) (a' := ?_) #[true, true, true, false, true, false, false, false, false] rfl rfl (any_of HT_.out (by kernel_rfl)) (fun _ _ _ h => h) (Or.inl ⟨by rfl, ?_⟩) ?_ ?_
                 rotate_left
                 ·intro w'
                  go_simp
                  with_reducible rfl
                 rotate_left
                 ·simp only [Act.put, List.setIfInBounds_toArray, List.set_cons_zero, List.set_cons_succ, i64_w, i32_w]
                  rfl
                 refine pure_ (i := 5) (N := some 94) (v := ?_) (a' := ?_) #[true, true, true, false, true, true, false, false, false] rfl rfl (any_of HT_.out (by kernel_rfl)) (fun _ _ _ h => h) (Or.inl ⟨by rfl, ?_⟩) ?_ ?_
                 rotate_left
                 ·intro w'
                  go_simp
                  with_reducible rfl
                 rotate_left
                 ·simp only [Act.put, List.setIfInBounds_toArray, List.set_cons_zero, List.set_cons_succ, i64_w, i32_w]
                  rfl
                 refine pure_ (i := 6) (N := some 95) (v := ?_) (a' := ?_) #[true, true, true, false, true, true, true, false, false] rfl rfl (any_of HT_.out (by kernel_rfl)) (fun _ _ _ h => h) (Or.inl ⟨by rfl, ?_⟩) ?_ ?_
                 rotate_left
                 ·intro w'
                  go_simp
                  with_reducible rfl
                 rotate_left
                 ·simp only [Act.put, List.setIfInBounds_toArray, List.set_cons_zero, List.set_cons_succ, i64_w, i32_w]
                  rfl
                 refine take_ (i := 3) (N := some 92) (v := ?_) (a' := ?_) #[true, true, true, true, true, true, true, false, false] rfl rfl (take_ofW HT_.out HW_.out (by kernel_rfl)) (fun _ _ _ h => h) (Or.inl ⟨by rfl, ?_⟩) hHeld ?_ ?_
                 rotate_left
                 ·rintro w' ⟨s0, s1⟩
                  go_simp
                  with_reducible rfl
                 rotate_left
                 ·simp only [Act.put, List.setIfInBounds_toArray, List.set_cons_zero, List.set_cons_succ, i64_w, i32_w]
                  rfl
                 refine take_ (i := 7) (N := some 96) (v := ?_) (a' := ?_) #[true, true, true, true, true, true, true, true, false] rfl rfl (take_ofW HT_.out HW_.out (by kernel_rfl)) (fun _ _ _ h => h) (Or.inl ⟨by rfl, ?_⟩) hHeld ?_ ?_
                 rotate_left
                 ·rintro w' ⟨s0, s1⟩
                  go_simp
                  with_reducible rfl
                 rotate_left
                 ·simp only [Act.put, List.setIfInBounds_toArray, List.set_cons_zero, List.set_cons_succ, i64_w, i32_w]
                  rfl
                 refine pure_ (i := 8) (N := some 97) (v := ?_) (a' := ?_) #[true, true, true, true, true, true, true, true, true] rfl rfl (any_of HT_.out (by kernel_rfl)) (fun _ _ _ h => h) (Or.inl ⟨by rfl, ?_⟩) ?_ ?_
                 rotate_left
                 ·intro w'
                  go_simp
                  with_reducible rfl
                 rotate_left
                 ·simp only [Act.put, List.setIfInBounds_toArray, List.set_cons_zero, List.set_cons_succ, i64_w, i32_w]
                  rfl
                 refine done_ (done_of HT_.out (by kernel_rfl)) ?_
                 try go_wp2
                 have n0_ := Aside0.mk (Kd.R_drew HO_5.out)
                 have n1_ := Aside0.mk (blk_drew BK101.out)
                 have n2_ := Aside0.mk (below_drew1 HB.out)
                 clear HO_5
                 clear BK101
                 clear HB
                 have HO_5 := n0_
                 have BK101 := n1_
                 have HB := n2_
                 clear n0_ n1_ n2_
                 have p123 : 0 ≤ (x14_3 : Int) := of_decide_eq_true (by first | (with_reducible assumption) | assumption)
                 have q123 : x14_3 < (t106.length : Int) := of_decide_eq_true (by first | (with_reducible assumption) | assumption)
                 obtain ⟨ad123, e123, hx123_0⟩ := Kd.at_int (Kd.R_reads' HO_5.out).2.2 x14_3 p123 q123
                 obtain rfl : ad121 = ad123 := (by injection e123)
                 replace p123 := eq_true p123
                 replace q123 := eq_true q123
                 have p124 : 0 ≤ (x14_3 : Int) := of_decide_eq_true (by first | (with_reducible assumption) | assumption)
                 have q124 : x14_3 < (l1.length : Int) := of_decide_eq_true (by first | (with_reducible assumption) | assumption)
                 obtain ⟨ad124, e124, hx124_0⟩ := Kd.at_int HR1.out x14_3 p124 q124
                 have hw124_0 := hx124_0
                 obtain rfl : ad122 = ad124 := (by injection e124)
                 replace hx124_0 := (HB.out.cell (World.block_lt_of_cell? w _ hx124_0)).trans hx124_0
                 replace p124 := eq_true p124
                 replace q124 := eq_true q124
                 refine start_ (n := 13) (S := fun w' => w'.cell? (ad121.add (x14_3).toNat) = some (.int .i64 (rd t106 x14_3)) ∧ w'.cell? (ad122.add (x14_3).toNat) = some (.int .i64 (rd l1 x14_3))) (ds := []) #[false, false, false, false, false, false, false, false, false, false, false, false, false] (by kernel_rfl) rfl rfl ⟨hx123_0, ((HB.out.cell (World.block_lt_of_cell? w _ hw124_0)).trans hw124_0)⟩ (fun hHeld => ?_); refine with_tabW trishawlaw02_JamTried.tab12 trishawlaw02_JamTried.bits12 (fun HT_ HW_ => ?_)
                 generalize w52.drew = w53 at HO_5 BK101 HB hx123_0 hx124_0 hHeld ⊢
                 refine pure_ (i := 0) (N := some 98) (v := ?_) (a' := ?_) #[true, false, false, false, false, false, false, false, false, false, false, false, false] rfl rfl (any_of HT_.out (by kernel_rfl)) (fun _ _ _ h => h) (Or.inl ⟨by rfl, ?_⟩) ?_ ?_
                 rotate_left
                 ·intro w'
                  go_simp
                  with_reducible rfl
                 rotate_left
                 ·simp only [Act.put, List.setIfInBounds_toArray, List.set_cons_zero, List.set_cons_succ, i64_w, i32_w]
                  rfl
                 refine pure_ (i := 1) (N := some 99) (v := ?_) (a' := ?_) #[true, true, false, false, false, false, false, false, false, false, false, false, false] rfl rfl (any_of HT_.out (by kernel_rfl)) (fun _ _ _ h => h) (Or.inl ⟨by rfl, ?_⟩) ?_ ?_
                 rotate_left
                 ·intro w'
                  go_simp
                  with_reducible rfl
                 rotate_left
                 ·simp only [Act.put, List.setIfInBounds_toArray, List.set_cons_zero, List.set_cons_succ, i64_w, i32_w]
                  rfl
                 refine pure_ (i := 2) (N := some 100) (v := ?_) (a' := ?_) #[true, true, true, false, false, false, false, false, false, false, false, false, false] rfl rfl (any_of HT_.out (by kernel_rfl)) (fun _ _ _ h => h) (Or.inl ⟨by rfl, ?_⟩) ?_ ?_
                 rotate_left
                 ·intro w'
                  go_simp
                  with_reducible rfl
                 rotate_left
                 ·simp only [Act.put, List.setIfInBounds_toArray, List.set_cons_zero, List.set_cons_succ, i64_w, i32_w]
                  rfl
                 refine pure_ (i := 4) (N := some 102) (v := ?_) (a' := ?_) #[true, true, true, false, true, false, false, false, false, false, false, false, false] rfl rfl (any_of HT_.out (by kernel_rfl)) (fun _ _ _ h => h) (Or.inl ⟨by rfl, ?_⟩) ?_ ?_
                 rotate_left
                 ·intro w'
                  go_simp
                  with_reducible rfl
                 rotate_left
                 ·simp only [Act.put, List.setIfInBounds_toArray, List.set_cons_zero, List.set_cons_succ, i64_w, i32_w]
                  rfl
                 refine pure_ (i := 5) (N := some 103) (v := ?_) (a' := ?_) #[true, true, true, false, true, true, false, false, false, false, false, false, false] rfl rfl (any_of HT_.out (by kernel_rfl)) (fun _ _ _ h => h) (Or.inl ⟨by rfl, ?_⟩) ?_ ?_
                 rotate_left
                 ·intro w'
                  go_simp
                  with_reducible rfl
                 rotate_left
                 ·simp only [Act.put, List.setIfInBounds_toArray, List.set_cons_zero, List.set_cons_succ, i64_w, i32_w]
                  rfl
                 refine pure_ (i := 6) (N := some 104) (v := ?_) (a' := ?_) #[true, true, true, false, true, true, true, false, false, false, false, false, false] rfl rfl (any_of HT_.out (by kernel_rfl)) (fun _ _ _ h => h) (Or.inl ⟨by rfl, ?_⟩) ?_ ?_
                 rotate_left
                 ·intro w'
                  go_simp
                  with_reducible rfl
                 rotate_left
                 ·simp only [Act.put, List.setIfInBounds_toArray, List.set_cons_zero, List.set_cons_succ, i64_w, i32_w]
                  rfl
                 refine take_ (i := 3) (N := some 101) (v := ?_) (a' := ?_) #[true, true, true, true, true, true, true, false, false, false, false, false, false] rfl rfl (take_ofW HT_.out HW_.out (by kernel_rfl)) (fun _ _ _ h => h) (Or.inl ⟨by rfl, ?_⟩) hHeld ?_ ?_
                 rotate_left
                 ·rintro w' ⟨s0, s1⟩
                  go_simp
                  with_reducible rfl
                 rotate_left
                 ·simp only [Act.put, List.setIfInBounds_toArray, List.set_cons_zero, List.set_cons_succ, i64_w, i32_w]
                  rfl
                 refine take_ (i := 7) (N := some 105) (v := ?_) (a' := ?_) #[true, true, true, true, true, true, true, true, false, false, false, false, false] rfl rfl (take_ofW HT_.out HW_.out (by kernel_rfl)) (fun _ _ _ h => h) (Or.inl ⟨by rfl, ?_⟩) hHeld ?_ ?_
                 rotate_left
                 ·rintro w' ⟨s0, s1⟩
                  go_simp
                  with_reducible rfl
                 rotate_left
                 ·simp only [Act.put, List.setIfInBounds_toArray, List.set_cons_zero, List.set_cons_succ, i64_w, i32_w]
                  rfl
                 refine pure_ (i := 8) (N := some 106) (v := ?_) (a' := ?_) #[true, true, true, true, true, true, true, true, true, false, false, false, false] rfl rfl (any_of HT_.out (by kernel_rfl)) (fun _ _ _ h => h) (Or.inl ⟨by rfl, ?_⟩) ?_ ?_
                 rotate_left
                 ·intro w'
                  go_simp
                  with_reducible rfl
                 rotate_left
                 ·simp only [Act.put, List.setIfInBounds_toArray, List.set_cons_zero, List.set_cons_succ, i64_w, i32_w]
                  rfl
                 refine pure_ (i := 9) (N := some 107) (v := ?_) (a' := ?_) #[true, true, true, true, true, true, true, true, true, true, false, false, false] rfl rfl (any_of HT_.out (by kernel_rfl)) (fun _ _ _ h => h) (Or.inl ⟨by rfl, ?_⟩) ?_ ?_
                 rotate_left
                 ·intro w'
                  go_simp
                  with_reducible rfl
                 rotate_left
                 ·simp only [Act.put, List.setIfInBounds_toArray, List.set_cons_zero, List.set_cons_succ, i64_w, i32_w]
                  rfl
                 refine one_ (i := 10) (N := some 108) #[true, true, true, true, true, true, true, true, true, true, true, false, false] rfl rfl (one_of HT_.out (by kernel_rfl)) (by decide) (fun K hK => ?_)
                 refine goes_ Try.func16 (by kernel_rfl) rfl #[] (by rfl) rfl rfl (by (try simp only [List.map_toArray, List.map_cons, List.map_nil]); first | done | rfl | (simp only [List.length_drop, List.length_take]; rfl)) ?_
                 with_reducible refine (trishawlaw02_alive.calls kj41  t125 _ A51.out).mono ?_
                 rintro e w54 ⟨rfl, hb⟩
                 have HS0_ := (hb.cell (World.block_lt_of_cell? _ _ (hHeld.1))).trans (hHeld.1)
                 refine ⟨_, rfl, ?_⟩
                 have n0_ := Aside0.mk (Kd.R_below (by (with_reducible repeat (first | apply Kd.R_alloc | apply Kd.R_drewN | apply Kd.R_drew)); exact HO_5.out) hb)
                 have n1_ := Aside0.mk (blk_below (g := gb101) (o := .cells #[.slice A0_0 l0_0.length c0_0, .slice A0_1 l0_1.length c0_1] 41 (0, 0)) (by (with_reducible repeat (first | refine blk_drewN ?_ _ | refine blk_drew ?_ | refine blk_alloc ?_ _)); exact BK101.out) hb)
                 have n2_ := Aside0.mk (below_step (by repeat (first | (with_reducible first | exact HB.out | apply below_alloc | apply pw_below_drewN | apply below_drew1 | refine below_set ?_ GE101.out) | exact HB.out)) hb)
                 clear HO_5
                 clear BK101
                 clear HB
                 have HO_5 := n0_
                 have BK101 := n1_
                 have HB := n2_
                 clear n0_ n1_ n2_
                 (try clear hb)
                 (try clear hb2)
                 (try clear hk)
                 (try clear hi)
                 refine hK.out _ _ ⟨HS0_, ((HB.out.cell (World.block_lt_of_cell? w _ hw124_0)).trans hw124_0)⟩ (fun hHeld => ?_)
                 clear hK K
                 refine norm_ (a' := ?_) ?_ ?_
                 rotate_left
                 ·show Act.put _ (some 108) _ = _
                  simp only [Act.put, List.setIfInBounds_toArray, List.set_cons_zero, List.set_cons_succ, i64_w, i32_w]
                  rfl
                 refine pure_ (i := 11) (N := some 109) (v := ?_) (a' := ?_) #[true, true, true, true, true, true, true, true, true, true, true, true, false] rfl rfl (any_of HT_.out (by kernel_rfl)) (fun _ _ _ h => h) (Or.inl ⟨by rfl, ?_⟩) ?_ ?_
                 rotate_left
                 ·intro w'
                  go_simp
                  with_reducible rfl
                 rotate_left
                 ·simp only [Act.put, List.setIfInBounds_toArray, List.set_cons_zero, List.set_cons_succ, i64_w, i32_w]
                  rfl
                 refine pure_ (i := 12) (N := some 4) (v := ?_) (a' := ?_) #[true, true, true, true, true, true, true, true, true, true, true, true, true] rfl rfl (any_of HT_.out (by kernel_rfl)) (fun _ _ _ h => h) (Or.inl ⟨by rfl, ?_⟩) ?_ ?_
                 rotate_left
                 ·intro w'
                  go_simp
                  with_reducible rfl
                 rotate_left
                 ·simp only [Act.put, List.setIfInBounds_toArray, List.set_cons_zero, List.set_cons_succ, i64_w, i32_w]
                  rfl
                 refine done_ (done_of HT_.out (by kernel_rfl)) ?_
                 try go_wp2
                 go_ret
                 exact ⟨by first | rfl | (simp [errW_none, errW_some] <;> rfl) | (simp [*, errW_none, errW_some] <;> rfl), by repeat (first | (with_reducible first | exact HB.out | apply below_alloc | apply pw_below_drewN | apply below_drew1 | refine below_set ?_ GE101.out) | exact HB.out)⟩
                ·rw [if_neg c50] at H
                 have c50b0 : decide ((rd t106 x14_3) < (rd l1 x14_3)) = false := decide_eq_false c50
                 clear c50
                 obtain rfl := Option.some.inj H
                 try go_wp2
                 have n0_ := Aside0.mk (Kd.R_drew HO_5.out)
                 have n1_ := Aside0.mk (blk_drew BK101.out)
                 have n2_ := Aside0.mk (below_drew1 HB.out)
                 clear HO_5
                 clear BK101
                 clear HB
                 have HO_5 := n0_
                 have BK101 := n1_
                 have HB := n2_
                 clear n0_ n1_ n2_
                 have p121 : 0 ≤ (x14_3 : Int) := of_decide_eq_true (by first | (with_reducible assumption) | assumption)
                 have q121 : x14_3 < (t106.length : Int) := of_decide_eq_true (by first | (with_reducible assumption) | assumption)
                 obtain ⟨ad121, e121, hx121_0⟩ := Kd.at_int (Kd.R_reads' HO_5.out).2.2 x14_3 p121 q121
                 cases e121
                 replace p121 := eq_true p121
                 replace q121 := eq_true q121
                 have p122 : 0 ≤ (x14_3 : Int) := of_decide_eq_true (by first | (with_reducible assumption) | assumption)
                 have q122 : x14_3 < (l1.length : Int) := of_decide_eq_true (by first | (with_reducible assumption) | assumption)
                 obtain ⟨ad122, e122, hx122_0⟩ := Kd.at_int HR1.out x14_3 p122 q122
                 have hw122_0 := hx122_0
                 cases e122
                 replace hx122_0 := (HB.out.cell (World.block_lt_of_cell? w _ hx122_0)).trans hx122_0
                 replace p122 := eq_true p122
                 replace q122 := eq_true q122
                 refine start_ (n := 9) (S := fun w' => w'.cell? (ad121.add (x14_3).toNat) = some (.int .i64 (rd t106 x14_3)) ∧ w'.cell? (ad122.add (x14_3).toNat) = some (.int .i64 (rd l1 x14_3))) (ds := []) #[false, false, false, false, false, false, false, false, false] (by kernel_rfl) rfl rfl ⟨hx121_0, ((HB.out.cell (World.block_lt_of_cell? w _ hw122_0)).trans hw122_0)⟩ (fun hHeld => ?_); refine with_tabW trishawlaw02_JamTried.tab11 trishawlaw02_JamTried.bits11 (fun HT_ HW_ => ?_)
                 generalize wc.drew = w55 at HO_5 BK101 HB hx121_0 hx122_0 hHeld ⊢
                 refine pure_ (i := 0) (N := some 89) (v := ?_) (a' := ?_) #[true, false, false, false, false, false, false, false, false] rfl rfl (any_of HT_.out (by kernel_rfl)) (fun _ _ _ h => h) (Or.inl ⟨by rfl, ?_⟩) ?_ ?_
                 rotate_left
                 ·intro w'
                  go_simp
                  with_reducible rfl
                 rotate_left
                 ·simp only [Act.put, List.setIfInBounds_toArray, List.set_cons_zero, List.set_cons_succ, i64_w, i32_w]
                  rfl
                 refine pure_ (i := 1) (N := some 90) (v := ?_) (a' := ?_) #[true, true, false, false, false, false, false, false, false] rfl rfl (any_of HT_.out (by kernel_rfl)) (fun _ _ _ h => h) (Or.inl ⟨by rfl, ?_⟩) ?_ ?_
                 rotate_left
                 ·intro w'
                  go_simp
                  with_reducible rfl
                 rotate_left
                 ·simp only [Act.put, List.setIfInBounds_toArray, List.set_cons_zero, List.set_cons_succ, i64_w, i32_w]
                  rfl
                 refine pure_ (i := 2) (N := some 91) (v := ?_) (a' := ?_) #[true, true, true, false, false, false, false, false, false] rfl rfl (any_of HT_.out (by kernel_rfl)) (fun _ _ _ h => h) (Or.inl ⟨by rfl, ?_⟩) ?_ ?_
                 rotate_left
                 ·intro w'
                  go_simp
                  with_reducible rfl
                 rotate_left
                 ·simp only [Act.put, List.setIfInBounds_toArray, List.set_cons_zero, List.set_cons_succ, i64_w, i32_w]
                  rfl
                 refine pure_ (i := 4) (N := some 93) (v := ?_) (a' := ?_) #[true, true, true, false, true, false, false, false, false] rfl rfl (any_of HT_.out (by kernel_rfl)) (fun _ _ _ h => h) (Or.inl ⟨by rfl, ?_⟩) ?_ ?_
                 rotate_left
                 ·intro w'
                  go_simp
                  with_reducible rfl
                 rotate_left
                 ·simp only [Act.put, List.setIfInBounds_toArray, List.set_cons_zero, List.set_cons_succ, i64_w, i32_w]
                  rfl
                 refine pure_ (i := 5) (N := some 94) (v := ?_) (a' := ?_) #[true, true, true, false, true, true, false, false, false] rfl rfl (any_of HT_.out (by kernel_rfl)) (fun _ _ _ h => h) (Or.inl ⟨by rfl, ?_⟩) ?_ ?_
                 rotate_left
                 ·intro w'
                  go_simp
                  with_reducible rfl
                 rotate_left
                 ·simp only [Act.put, List.setIfInBounds_toArray, List.set_cons_zero, List.set_cons_succ, i64_w, i32_w]
                  rfl
                 refine pure_ (i := 6) (N := some 95) (v := ?_) (a' := ?_) #[true, true, true, false, true, true, true, false, false] rfl rfl (any_of HT_.out (by kernel_rfl)) (fun _ _ _ h => h) (Or.inl ⟨by rfl, ?_⟩) ?_ ?_
                 rotate_left
                 ·intro w'
                  go_simp
                  with_reducible rfl
                 rotate_left
                 ·simp only [Act.put, List.setIfInBounds_toArray, List.set_cons_zero, List.set_cons_succ, i64_w, i32_w]
                  rfl
                 refine take_ (i := 3) (N := some 92) (v := ?_) (a' := ?_) #[true, true, true, true, true, true, true, false, false] rfl rfl (take_ofW HT_.out HW_.out (by kernel_rfl)) (fun _ _ _ h => h) (Or.inl ⟨by rfl, ?_⟩) hHeld ?_ ?_
                 rotate_left
                 ·rintro w' ⟨s0, s1⟩
                  go_simp
                  with_reducible rfl
                 rotate_left
                 ·simp only [Act.put, List.setIfInBounds_toArray, List.set_cons_zero, List.set_cons_succ, i64_w, i32_w]
                  rfl
                 refine take_ (i := 7) (N := some 96) (v := ?_) (a' := ?_) #[true, true, true, true, true, true, true, true, false] rfl rfl (take_ofW HT_.out HW_.out (by kernel_rfl)) (fun _ _ _ h => h) (Or.inl ⟨by rfl, ?_⟩) hHeld ?_ ?_
                 rotate_left
                 ·rintro w' ⟨s0, s1⟩
                  go_simp
                  with_reducible rfl
                 rotate_left
                 ·simp only [Act.put, List.setIfInBounds_toArray, List.set_cons_zero, List.set_cons_succ, i64_w, i32_w]
                  rfl
                 refine pure_ (i := 8) (N := some 97) (v := ?_) (a' := ?_) #[true, true, true, true, true, true, true, true, true] rfl rfl (any_of HT_.out (by kernel_rfl)) (fun _ _ _ h => h) (Or.inl ⟨by rfl, ?_⟩) ?_ ?_
                 rotate_left
                 ·intro w'
                  go_simp
                  with_reducible rfl
                 rotate_left
                 ·simp only [Act.put, List.setIfInBounds_toArray, List.set_cons_zero, List.set_cons_succ, i64_w, i32_w]
                  rfl
                 refine done_ (done_of HT_.out (by kernel_rfl)) ?_
                 try go_wp2
                 have n0_ := Aside0.mk (Kd.R_drew HO_5.out)
                 have n1_ := Aside0.mk (blk_drew BK101.out)
                 have n2_ := Aside0.mk (below_drew1 HB.out)
                 clear HO_5
                 clear BK101
                 clear HB
                 have HO_5 := n0_
                 have BK101 := n1_
                 have HB := n2_
                 clear n0_ n1_ n2_
                 have p123 : 0 ≤ (x14_3 : Int) := of_decide_eq_true (by first | (with_reducible assumption) | assumption)
                 have q123 : x14_3 < (t106.length : Int) := of_decide_eq_true (by first | (with_reducible assumption) | assumption)
                 obtain ⟨ad123, e123, hx123_0⟩ := Kd.at_int (Kd.R_reads' HO_5.out).2.2 x14_3 p123 q123
                 obtain rfl : ad121 = ad123 := (by injection e123)
                 replace p123 := eq_true p123
                 replace q123 := eq_true q123
                 have p124 : 0 ≤ (x14_3 : Int) := of_decide_eq_true (by first | (with_reducible assumption) | assumption)
                 have q124 : x14_3 < (l1.length : Int) := of_decide_eq_true (by first | (with_reducible assumption) | assumption)
                 obtain ⟨ad124, e124, hx124_0⟩ := Kd.at_int HR1.out x14_3 p124 q124
                 have hw124_0 := hx124_0
                 obtain rfl : ad122 = ad124 := (by injection e124)
                 replace hx124_0 := (HB.out.cell (World.block_lt_of_cell? w _ hx124_0)).trans hx124_0
                 replace p124 := eq_true p124
                 replace q124 := eq_true q124
                 refine start_ (n := 13) (S := fun w' => w'.cell? (ad121.add (x14_3).toNat) = some (.int .i64 (rd t106 x14_3)) ∧ w'.cell? (ad122.add (x14_3).toNat) = some (.int .i64 (rd l1 x14_3))) (ds := []) #[false, false, false, false, false, false, false, false, false, false, false, false, false] (by kernel_rfl) rfl rfl ⟨hx123_0, ((HB.out.cell (World.block_lt_of_cell? w _ hw124_0)).trans hw124_0)⟩ (fun hHeld => ?_); refine with_tabW trishawlaw02_JamTried.tab12 trishawlaw02_JamTried.bits12 (fun HT_ HW_ => ?_)
                 generalize w55.drew = w56 at HO_5 BK101 HB hx123_0 hx124_0 hHeld ⊢
                 refine pure_ (i := 0) (N := some 98) (v := ?_) (a' := ?_) #[true, false, false, false, false, false, false, false, false, false, false, false, false] rfl rfl (any_of HT_.out (by kernel_rfl)) (fun _ _ _ h => h) (Or.inl ⟨by rfl, ?_⟩) ?_ ?_
                 rotate_left
                 ·intro w'
                  go_simp
                  with_reducible rfl
                 rotate_left
                 ·simp only [Act.put, List.setIfInBounds_toArray, List.set_cons_zero, List.set_cons_succ, i64_w, i32_w]
                  rfl
                 refine pure_ (i := 1) (N := some 99) (v := ?_) (a' := ?_) #[true, true, false, false, false, false, false, false, false, false, false, false, false] rfl rfl (any_of HT_.out (by kernel_rfl)) (fun _ _ _ h => h) (Or.inl ⟨by rfl, ?_⟩) ?_ ?_
                 rotate_left
                 ·intro w'
                  go_simp
                  with_reducible rfl
                 rotate_left
                 ·simp only [Act.put, List.setIfInBounds_toArray, List.set_cons_zero, List.set_cons_succ, i64_w, i32_w]
                  rfl
                 refine pure_ (i := 2) (N := some 100) (v := ?_) (a' := ?_) #[true, true, true, false, false, false, false, false, false, false, false, false, false] rfl rfl (any_of HT_.out (by kernel_rfl)) (fun _ _ _ h => h) (Or.inl ⟨by rfl, ?_⟩) ?_ ?_
                 rotate_left
                 ·intro w'
                  go_simp
                  with_reducible rfl
                 rotate_left
                 ·simp only [Act.put, List.setIfInBounds_toArray, List.set_cons_zero, List.set_cons_succ, i64_w, i32_w]
                  rfl
                 refine pure_ (i := 4) (N := some 102) (v := ?_) (a' := ?_) #[true, true, true, false, true, false, false, false, false, false, false, false, false] rfl rfl (any_of HT_.out (by kernel_rfl)) (fun _ _ _ h => h) (Or.inl ⟨by rfl, ?_⟩) ?_ ?_
                 rotate_left
                 ·intro w'
                  go_simp
                  with_reducible rfl
                 rotate_left
                 ·simp only [Act.put, List.setIfInBounds_toArray, List.set_cons_zero, List.set_cons_succ, i64_w, i32_w]
                  rfl
                 refine pure_ (i := 5) (N := some 103) (v := ?_) (a' := ?_) #[true, true, true, false, true, true, false, false, false, false, false, false, false] rfl rfl (any_of HT_.out (by kernel_rfl)) (fun _ _ _ h => h) (Or.inl ⟨by rfl, ?_⟩) ?_ ?_
                 rotate_left
                 ·intro w'
                  go_simp
                  with_reducible rfl
                 rotate_left
                 ·simp only [Act.put, List.setIfInBounds_toArray, List.set_cons_zero, List.set_cons_succ, i64_w, i32_w]
                  rfl
                 refine pure_ (i := 6) (N := some 104) (v := ?_) (a' := ?_) #[true, true, true, false, true, true, true, false, false, false, false, false, false] rfl rfl (any_of HT_.out (by kernel_rfl)) (fun _ _ _ h => h) (Or.inl ⟨by rfl, ?_⟩) ?_ ?_
                 rotate_left
                 ·intro w'
                  go_simp
                  with_reducible rfl
                 rotate_left
                 ·simp only [Act.put, List.setIfInBounds_toArray, List.set_cons_zero, List.set_cons_succ, i64_w, i32_w]
                  rfl
                 refine take_ (i := 3) (N := some 101) (v := ?_) (a' := ?_) #[true, true, true, true, true, true, true, false, false, false, false, false, false] rfl rfl (take_ofW HT_.out HW_.out (by kernel_rfl)) (fun _ _ _ h => h) (Or.inl ⟨by rfl, ?_⟩) hHeld ?_ ?_
                 rotate_left
                 ·rintro w' ⟨s0, s1⟩
                  go_simp
                  with_reducible rfl
                 rotate_left
                 ·simp only [Act.put, List.setIfInBounds_toArray, List.set_cons_zero, List.set_cons_succ, i64_w, i32_w]
                  rfl
                 refine take_ (i := 7) (N := some 105) (v := ?_) (a' := ?_) #[true, true, true, true, true, true, true, true, false, false, false, false, false] rfl rfl (take_ofW HT_.out HW_.out (by kernel_rfl)) (fun _ _ _ h => h) (Or.inl ⟨by rfl, ?_⟩) hHeld ?_ ?_
                 rotate_left
                 ·rintro w' ⟨s0, s1⟩
                  go_simp
                  with_reducible rfl
                 rotate_left
                 ·simp only [Act.put, List.setIfInBounds_toArray, List.set_cons_zero, List.set_cons_succ, i64_w, i32_w]
                  rfl
                 refine pure_ (i := 8) (N := some 106) (v := ?_) (a' := ?_) #[true, true, true, true, true, true, true, true, true, false, false, false, false] rfl rfl (any_of HT_.out (by kernel_rfl)) (fun _ _ _ h => h) (Or.inl ⟨by rfl, ?_⟩) ?_ ?_
                 rotate_left
                 ·intro w'
                  go_simp
                  with_reducible rfl
                 rotate_left
                 ·simp only [Act.put, List.setIfInBounds_toArray, List.set_cons_zero, List.set_cons_succ, i64_w, i32_w]
                  rfl
                 refine pure_ (i := 9) (N := some 107) (v := ?_) (a' := ?_) #[true, true, true, true, true, true, true, true, true, true, false, false, false] rfl rfl (any_of HT_.out (by kernel_rfl)) (fun _ _ _ h => h) (Or.inl ⟨by rfl, ?_⟩) ?_ ?_
                 rotate_left
                 ·intro w'
                  go_simp
                  with_reducible rfl
                 rotate_left
                 ·simp only [Act.put, List.setIfInBounds_toArray, List.set_cons_zero, List.set_cons_succ, i64_w, i32_w]
                  rfl
                 refine pure_ (i := 10) (N := some 108) (v := undef) (a' := ?_) #[true, true, true, true, true, true, true, true, true, true, true, false, false] rfl rfl (any_of HT_.out (by kernel_rfl)) (fun _ _ _ h => h) (Or.inr ⟨by rfl, rfl⟩) ?_ ?_
                 rotate_left
                 ·simp only [Act.put, List.setIfInBounds_toArray, List.set_cons_zero, List.set_cons_succ, i64_w, i32_w]
                  rfl
                 refine pure_ (i := 11) (N := some 109) (v := ?_) (a' := ?_) #[true, true, true, true, true, true, true, true, true, true, true, true, false] rfl rfl (any_of HT_.out (by kernel_rfl)) (fun _ _ _ h => h) (Or.inl ⟨by rfl, ?_⟩) ?_ ?_
                 rotate_left
                 ·intro w'
                  go_simp
                  with_reducible rfl
                 rotate_left
                 ·simp only [Act.put, List.setIfInBounds_toArray, List.set_cons_zero, List.set_cons_succ, i64_w, i32_w]
                  rfl
                 refine pure_ (i := 12) (N := some 4) (v := ?_) (a' := ?_) #[true, true, true, true, true, true, true, true, true, true, true, true, true] rfl rfl (any_of HT_.out (by kernel_rfl)) (fun _ _ _ h => h) (Or.inl ⟨by rfl, ?_⟩) ?_ ?_
                 rotate_left
                 ·intro w'
                  go_simp
                  with_reducible rfl
                 rotate_left
                 ·simp only [Act.put, List.setIfInBounds_toArray, List.set_cons_zero, List.set_cons_succ, i64_w, i32_w]
                  rfl
                 refine done_ (done_of HT_.out (by kernel_rfl)) ?_
                 try go_wp2
                 go_ret
                 exact ⟨by first | rfl | (simp [errW_none, errW_some] <;> rfl) | (simp [*, errW_none, errW_some] <;> rfl), by repeat (first | (with_reducible first | exact HB.out | apply below_alloc | apply pw_below_drewN | apply below_drew1 | refine below_set ?_ GE101.out) | exact HB.out)⟩
              ·rw [if_neg c47] at H
               exact absurd H (by simp)
             ·rw [if_neg c46] at H
              exact absurd H (by simp)
            ·rw [if_neg c45] at H
             exact absurd H (by simp)
           ·replace c44 := Bool.eq_false_iff.mpr c44
            subst c44
            have H1 : ((trishawlaw02_alive.f kj41).bind fun t126 => (some t126)) = some r := by rw [if_neg (show ¬ (false = true) by decide)] at H; exact H
            clear H
            have H := H1
            clear H1
            replace H := Option.bind_eq_some_iff.mp H
            obtain ⟨t126, A570, H⟩ := H
            replace H : (some t126) = some r := H
            have A57 := Aside0.mk A570
            clear A570
            obtain rfl := Option.some.inj H
            go_wp2_with (first | ((with_reducible refine gate_callee (f := 16) rfl ?_); refine goesL_ (some 110) rfl rfl Try.func16 (by kernel_rfl) rfl #[] rfl (by (try simp only [List.map_toArray, List.map_cons, List.map_nil]); first | done | rfl | (simp only [List.length_drop, List.length_take]; rfl)) ?_; (with_reducible refine (trishawlaw02_alive.calls kj41  t126 _ A57.out).mono ?_); rintro e w58 ⟨rfl, hb⟩; refine ⟨_, rfl, ?_⟩; have n0_ := Aside0.mk (Kd.R_below (by (with_reducible repeat (first | apply Kd.R_alloc | apply Kd.R_drewN | apply Kd.R_drew)); exact HO_5.out) hb); have n1_ := Aside0.mk (blk_below (g := gb101) (o := .cells #[.slice A0_0 l0_0.length c0_0, .slice A0_1 l0_1.length c0_1] 41 (0, 0)) (by (with_reducible repeat (first | refine blk_drewN ?_ _ | refine blk_drew ?_ | refine blk_alloc ?_ _)); exact BK101.out) hb); have n2_ := Aside0.mk (below_step (by repeat (first | (with_reducible first | exact HB.out | apply below_alloc | apply pw_below_drewN | apply below_drew1 | refine below_set ?_ GE101.out) | exact HB.out)) hb); clear HO_5; clear BK101; clear HB; have HO_5 := n0_; have BK101 := n1_; have HB := n2_; clear n0_ n1_ n2_; (try clear hb); (try clear hb2); (try clear hk); (try clear hi)))
            go_ret
            exact ⟨by first | rfl | (simp [errW_none, errW_some] <;> rfl) | (simp [*, errW_none, errW_some] <;> rfl), by repeat (first | (with_reducible first | exact HB.out | apply below_alloc | apply pw_below_drewN | apply below_drew1 | refine below_set ?_ GE101.out) | exact HB.out)⟩
end Go.Proofs.Ytjgbdicbdlollaa.B
namespace Go.Proofs.Ytjgbdicbdlollaa.B
open Go.RowKit Go.ChangeShapes Go.WideShapes Go.Deep Go.Proofs.YtjgbdicbdlollaaW.PrintWords Go.Proofs.YtjgbdicbdlollaaW.PrintLast Go.Proofs.YtjgbdicbdlollaaW.PrintMore
def okI (x : Int) : Prop := (Lit.int .i64 x).wf = true
def okRow (l : List Int) : Prop := l.length ≤ maxLen ∧ ∀ x ∈ l, okI x
def okRows (l : List (List Int)) : Prop := l.length ≤ maxLen ∧ ∀ x ∈ l, okRow x
section
variable {H : Type} {enc : TypeId × Value → H} {w : World} {spare : Nat → Bool} {held : Bool}
theorem open_list {α : Type} [Inhabited α] (d : Kd α) (ok : α → Prop) {t e : TypeId} (ht : Try.prog.underlying t = some (.slice e)) (hsz : Try.prog.cellsOf e = d.sz)
    (ho : ∀ (fuel : Nat) (cs : List Value) (x : DataW H × List MemPlace), DataW.trod enc Try.prog w 0 spare held fuel e cs = some x → ∃ s, d.K w s cs ∧ ok s)
    {fuel : Nat} {cs : List Value} {x : DataW H × List MemPlace} (h : DataW.trod enc Try.prog w 0 spare held fuel t cs = some x) :
    ∃ (A : Option Addr) (l : List α) (c : Nat), cs = [.slice A l.length c] ∧ l.length ≤ c ∧ c ≤ maxLen ∧ Kd.C d w A l.length l ∧ ∀ x ∈ l, ok x := by
  rcases open_slice ht h with ⟨rfl, _⟩ | ⟨x, l, c, m, n, D, Pl, rfl, _, hl, hm, hmm, _, hi⟩
  · exact ⟨none, [], 0, rfl, Nat.le_refl _, by simp, Kd.C_nil d w, by simp⟩
  · have hlm : l ≤ m := by rw [hmm]; split <;> omega
    rw [hsz] at hi
    have hex : ∀ i : Nat, ∃ s : α, i < l → ok s ∧ ∃ cs', d.K w s cs' ∧ w.cells? 0 (x.add (i * d.sz)) d.sz = some cs' := by
      intro i
      by_cases h : i < l
      · obtain ⟨cs', hc, ht⟩ := hi i (by omega)
        obtain ⟨s, hs, hk⟩ := ho _ _ _ ht
        exact ⟨s, fun _ => ⟨hk, cs', hs, hc⟩⟩
      · exact ⟨default, fun h' => absurd h' h⟩
    obtain ⟨f, hf⟩ := Classical.axiomOfChoice hex
    have hll : ((List.range l).map f).length = l := by simp
    refine ⟨some x, (List.range l).map f, c, by rw [hll], by rw [hll]; exact hl, hm, ⟨rfl, by rw [hll]; simp only [maxLen] at hm; omega, fun _ => ⟨x, rfl, fun j p hj => ?_⟩⟩, fun y hy => ?_⟩
    · have hjl : j < l := by have := (List.getElem?_eq_some_iff.1 hj).1; rw [hll] at this; exact this
      rw [List.getElem?_map, List.getElem?_range hjl] at hj
      injection hj with hj
      subst hj
      obtain ⟨hs, cs', hK, hc⟩ := hf j hjl
      obtain ⟨_, hlen, hat⟩ := World.cells?_some hc
      refine ⟨cs', hlen, hK, fun i u hu => ?_⟩
      have hi2 : i < d.sz := by have := (List.getElem?_eq_some_iff.1 hu).1; omega
      rw [← Go.Deep.add_add, hat i hi2, hu]
    · obtain ⟨j, hj, rfl⟩ := List.mem_map.1 hy
      exact (hf j (List.mem_range.1 hj)).1
theorem open_int3 (fuel : Nat) (cs : List Value) (x : DataW H × List MemPlace) (h : DataW.trod enc Try.prog w 0 spare held fuel 3 cs = some x) : ∃ s : Int, (Kd.int .i64).K w s cs ∧ okI s := by
  obtain ⟨n0, e0, _, w0⟩ := DataW.trod_int Try.underlying3 h
  subst e0
  exact ⟨n0, rfl, w0⟩
theorem open_row24 {fuel : Nat} {cs : List Value} {x : DataW H × List MemPlace} (h : DataW.trod enc Try.prog w 0 spare held fuel 24 cs = some x) :
    ∃ (A : Option Addr) (l : List Int) (c : Nat), cs = [.slice A l.length c] ∧ l.length ≤ c ∧ c ≤ maxLen ∧ Kd.C (Kd.int .i64) w A l.length l ∧ ∀ x ∈ l, okI x :=
  open_list (Kd.int .i64) okI Try.underlying24 (by kernel_rfl) open_int3 h
theorem open_rows39 {fuel : Nat} {cs : List Value} {x : DataW H × List MemPlace} (h : DataW.trod enc Try.prog w 0 spare held fuel 39 cs = some x) :
    ∃ (A : Option Addr) (l : List (List Int)) (c : Nat), cs = [.slice A l.length c] ∧ l.length ≤ c ∧ c ≤ maxLen ∧ Kd.C (Kd.slice 3 (Kd.int .i64)) w A l.length l ∧ ∀ x ∈ l, okRow x := by
  refine open_list (Kd.slice 3 (Kd.int .i64)) okRow Try.underlying39 (by kernel_rfl) (fun fuel cs x h => ?_) h
  obtain ⟨A, l, c, rfl, h1, h2, h3, h4⟩ := open_row24 h
  exact ⟨l, ⟨A, c, rfl, h1, h3⟩, Nat.le_trans h1 h2, h4⟩
theorem open_numbers {a : Option Addr} {len cap : Nat} {d : DataW H} {p : List MemPlace} (h : DataW.Trod enc Try.prog w 0 spare held 24 (.slice a len cap) d p) :
    ∃ l : List Int, Kd.C (Kd.int .i64) w a l.length l ∧ l.length = len ∧ len ≤ cap ∧ cap ≤ maxLen ∧ ∀ x ∈ l, (Lit.int .i64 x).wf = true := by
  obtain ⟨fuel, hf⟩ := h
  obtain ⟨A, l, c, e, h1, h2, h3, h4⟩ := open_row24 hf
  simp only [Value.cells, List.cons.injEq, Value.slice.injEq, and_true] at e
  obtain ⟨rfl, rfl, rfl⟩ := e
  exact ⟨l, h3, rfl, h1, h2, h4⟩
set_option maxRecDepth 100000 in
theorem open_game {r : Reach} {b0 : Nat} {v : Value} {d : DataW H} {ps : List MemPlace} (hval : Value.okWide Try.prog w r b0 41 v) (h : DataW.Trod enc Try.prog w 0 spare held 41 v d ps) :
    ∃ (A : Option Addr) (l : List (List Int)) (c : Nat) (A' : Option Addr) (l' : List (List Int)) (c' : Nat), v = .agg #[.slice A l.length c, .slice A' l'.length c'] ∧
      (l.length ≤ c ∧ c ≤ maxLen ∧ Kd.C (Kd.slice 3 (Kd.int .i64)) w A l.length l ∧ ∀ x ∈ l, okRow x) ∧ (l'.length ≤ c' ∧ c' ≤ maxLen ∧ Kd.C (Kd.slice 3 (Kd.int .i64)) w A' l'.length l' ∧ ∀ x ∈ l', okRow x) := by
  obtain ⟨fuel, hf⟩ := h
  obtain ⟨cs, rfl, _⟩ := okWide_struct Try.underlying41 hval
  obtain ⟨xs, n, _, _, hlen, hxl, hg⟩ := DataW.trod_struct Try.underlying41 hf
  have h41 : Try.prog.cellsOf 41 = 2 := by kernel_rfl
  have h39 : Try.prog.cellsOf 39 = 1 := by kernel_rfl
  have hcs : ∃ u0 u1, cs = #[u0, u1] := by
    have hl2 : cs.toList.length = 2 := by rw [h41] at hlen; exact hlen
    match hc : cs.toList, hl2 with
    | [u0, u1], _ => exact ⟨u0, u1, by rw [← hc]⟩
  obtain ⟨u0, u1, rfl⟩ := hcs
  have hsz : xs.length = 2 := hxl
  match xs, hsz with
  | [y0, y1], _ =>
    have g0 : DataW.trod enc Try.prog w 0 spare held n 39 (([u0, u1].drop 0).take (Try.prog.cellsOf 39)) = some y0 := hg 0 _ rfl
    have g1 : DataW.trod enc Try.prog w 0 spare held n 39 (([u0, u1].drop 1).take (Try.prog.cellsOf 39)) = some y1 := hg 1 _ rfl
    rw [h39] at g0 g1
    obtain ⟨A, l, c, e0, k0⟩ := open_rows39 g0
    obtain ⟨A', l', c', e1, k1⟩ := open_rows39 g1
    obtain rfl : u0 = .slice A l.length c := by injection e0
    obtain rfl : u1 = .slice A' l'.length c' := by injection e1
    exact ⟨A, l, c, A', l', c', rfl, k0, k1⟩
end
end Go.Proofs.Ytjgbdicbdlollaa.B
namespace Go.Proofs.Ytjgbdicbdlollaa.B
open Go.RowKit Go.Proofs.YtjgbdicbdlollaaW.PrintWords Go.Proofs.YtjgbdicbdlollaaW.PrintLast Go.Proofs.YtjgbdicbdlollaaW.PrintMore
def trishawlaw02_JamTried.Pure : Prop := ∀ (l0_0 l0_1 : List (List Int)) (l1 : List Int), okRows l0_0 → okRows l0_1 → l1.length ≤ maxLen → (∀ x ∈ l1, (fun x : Int => (Lit.int .i64 x).wf = true) x) → ∃ k, trishawlaw02_JamTried.f k l0_0 l0_1 l1 = some true
theorem trishawlaw02_JamTried.walk (P : trishawlaw02_JamTried.Pure) (w : World) (A0_0 : Option Addr) (c0_0 : Nat) (l0_0 : List (List Int)) (hr0_0 : Kd.C (Kd.slice 3 (Kd.int .i64)) w A0_0 l0_0.length l0_0) (hc0_0 : l0_0.length ≤ c0_0) (A0_1 : Option Addr) (c0_1 : Nat) (l0_1 : List (List Int)) (hr0_1 : Kd.C (Kd.slice 3 (Kd.int .i64)) w A0_1 l0_1.length l0_1) (hc0_1 : l0_1.length ≤ c0_1) (A1 : Option Addr) (c1 : Nat) (l1 : List Int) (hr1 : Kd.C (Kd.int .i64) w A1 l1.length l1) (hc1 : l1.length ≤ c1) (h0_0 : okRows l0_0) (h1_0 : okRows l0_1) (h2_0 : l1.length ≤ maxLen) (h3_0 : (∀ x ∈ l1, (fun x : Int => (Lit.int .i64 x).wf = true) x)) :
    Calls Try.prog 6 #[.agg #[.slice A0_0 l0_0.length c0_0, .slice A0_1 l0_1.length c0_1], .slice A1 l1.length c1] w fun e w' => e = .returned (.bool true) ∧ Below w.heap.size w w' := by
  obtain ⟨k, h⟩ := P l0_0 l0_1 l1 h0_0 h1_0 h2_0 h3_0
  refine (trishawlaw02_JamTried.calls k A0_0 c0_0 l0_0 A0_1 c0_1 l0_1 A1 c1 l1 true w hr0_0 hc0_0 hr0_1 hc0_1 hr1 hc1 h).mono ?_
  rintro e w' ⟨rfl, hd⟩
  exact ⟨rfl, hd⟩
end Go.Proofs.Ytjgbdicbdlollaa.B
namespace Go.Proofs.Ytjgbdicbdlollaa.B
open Go.RowKit Go.Proofs.YtjgbdicbdlollaaW.PrintWords Go.Proofs.YtjgbdicbdlollaaW.PrintLast Go.Proofs.YtjgbdicbdlollaaW.PrintMore
set_option linter.unusedVariables false
set_option linter.unusedSimpArgs false
def sm (x : Int) : Prop := -4611686018427387904 ≤ x ∧ x ≤ 4611686018427387904
theorem wsm {x : Int} (h : sm x) : wrap64 x = x := by unfold sm at h; unfold wrap64; omega
theorem wrapN (i : Nat) (h : i < 1000000) : wrap64 ((i : Int) + 1) = ((i + 1 : Nat) : Int) := by unfold wrap64; omega
theorem rd_mem2 (l : List Int) (i : Nat) (h : i < l.length) : rd l (i : Int) ∈ l := by
  have : rd l (i : Int) = l[i] := by simp [rd, List.getD, List.getElem?_eq_getElem h]
  rw [this]; exact List.getElem_mem h
end Go.Proofs.Ytjgbdicbdlollaa.B
namespace Go.Proofs.Ytjgbdicbdlollaa.B
open Go.RowKit Go.Sort Go.Proofs.YtjgbdicbdlollaaW.PrintWords Go.Proofs.YtjgbdicbdlollaaW.PrintLast Go.Proofs.YtjgbdicbdlollaaW.PrintMore
set_option linter.unusedVariables false
set_option linter.unusedSimpArgs false
def okL (x : S36) : Prop := 0 ≤ x.f0 ∧ x.f0 ≤ 10 ∧ 1 ≤ x.f1 ∧ x.f1 ≤ 10
def sumL (f : S36 → Int) : List S36 → Int
  | [] => 0
  | x :: l => f x + sumL f l
theorem sumL_le {f g : S36 → Int} : ∀ {l : List S36}, (∀ x ∈ l, f x ≤ g x) → sumL f l ≤ sumL g l
  | [], _ => Int.le_refl _
  | x :: l, h => by
    have h1 := h x (by simp)
    have h2 := sumL_le (l := l) fun y hy => h y (by simp [hy])
    simp only [sumL]; omega
theorem sumL_const (c : Int) : ∀ l : List S36, sumL (fun _ => c) l = c * l.length
  | [] => by simp [sumL]
  | x :: l => by simp only [sumL, sumL_const c l, List.length_cons, Int.natCast_add, Int.mul_add]; simp; omega
theorem sumL_pos {f : S36 → Int} {l : List S36} (h : ∀ x ∈ l, 0 ≤ f x) : 0 ≤ sumL f l := by
  have := sumL_le (f := fun _ => 0) (g := f) h
  rw [sumL_const] at this; simpa using this
/-- A time num/den is good: its own set of lanes gives it. -/
def Good (w : S36 → Int) (p : Int) (l : List S36) (n d : Int) : Prop :=
  0 < d ∧ n = p + sumL (fun x => if x.f0 * d < n then x.f0 * w x else 0) l ∧ d = sumL (fun x => if x.f0 * d < n then w x else 0) l
end Go.Proofs.Ytjgbdicbdlollaa.B
namespace Go.Proofs.Ytjgbdicbdlollaa.B
open Go.RowKit Go.Sort Go.Proofs.YtjgbdicbdlollaaW.PrintWords Go.Proofs.YtjgbdicbdlollaaW.PrintLast Go.Proofs.YtjgbdicbdlollaaW.PrintMore
set_option linter.unusedVariables false
set_option linter.unusedSimpArgs false
theorem mulb {x y X Y : Int} (hx : 0 ≤ x) (hX : x ≤ X) (hy : 0 ≤ y) (hY : y ≤ Y) : 0 ≤ x * y ∧ x * y ≤ X * Y :=
  ⟨Int.mul_nonneg hx hy, Int.mul_le_mul hX hY hy (by omega)⟩
def wv (p t : Int) (x : S36) : Int := Int.tdiv p (x.f1 * t)
theorem Good.b {p t : Int} {l : List S36} {n d : Int} (hp : 0 < p) (hp2 : p ≤ 160000) (hl : l.length ≤ 4) (hw : ∀ x ∈ l, okL x ∧ 0 < wv p t x ∧ wv p t x ≤ p) (g : Good (wv p t) p l n d) : 0 ≤ n ∧ n ≤ 6560000 ∧ 0 < d ∧ d ≤ 640000 := by
  obtain ⟨h0, h1, h2⟩ := g
  have a1 : sumL (fun x => if x.f0 * d < n then x.f0 * wv p t x else 0) l ≤ sumL (fun _ => 1600000) l := sumL_le fun x hx => by
    obtain ⟨h3, h4, h5⟩ := hw x hx
    unfold okL at h3
    have := mulb (x := x.f0) (y := wv p t x) (X := 10) (Y := 160000) (by omega) (by omega) (by omega) (by omega)
    split <;> omega
  have a0 : 0 ≤ sumL (fun x => if x.f0 * d < n then x.f0 * wv p t x else 0) l := sumL_pos fun x hx => by
    obtain ⟨h3, h4, h5⟩ := hw x hx
    unfold okL at h3
    have := mulb (x := x.f0) (y := wv p t x) (X := 10) (Y := 160000) (by omega) (by omega) (by omega) (by omega)
    split <;> omega
  have a2 : sumL (fun x => if x.f0 * d < n then wv p t x else 0) l ≤ sumL (fun _ => 160000) l := sumL_le fun x hx => by
    obtain ⟨h3, h4, h5⟩ := hw x hx
    split <;> omega
  rw [sumL_const] at a1 a2
  omega
end Go.Proofs.Ytjgbdicbdlollaa.B
namespace Go.Proofs.Ytjgbdicbdlollaa.B
open Go.RowKit Go.Sort Go.Proofs.YtjgbdicbdlollaaW.PrintWords Go.Proofs.YtjgbdicbdlollaaW.PrintLast Go.Proofs.YtjgbdicbdlollaaW.PrintMore
theorem alive_ev : Ev (fun k => trishawlaw02_alive.f k) true := ⟨60, fun k hk => alive_from k hk⟩
theorem alive_ev2 : Ev (fun k => (trishawlaw02_alive.f k).bind fun t => some t) true := Ev.bind alive_ev (Ev.now true)
end Go.Proofs.Ytjgbdicbdlollaa.B
namespace Go.Proofs.Ytjgbdicbdlollaa.B
open Go.RowKit Go.Sort Go.Proofs.YtjgbdicbdlollaaW.PrintWords Go.Proofs.YtjgbdicbdlollaaW.PrintLast Go.Proofs.YtjgbdicbdlollaaW.PrintMore
set_option linter.unusedVariables false
set_option linter.unusedSimpArgs false
theorem rdN (l : List Int) (i : Nat) (h : i < l.length) : rd l (i : Int) = l[i] := by simp [rd, List.getD, List.getElem?_eq_getElem h]
theorem rdL (l : List (List Int)) (i : Nat) (h : i < l.length) : rd_L12 l (i : Int) = l[i] := by simp [rd_L12, List.getD, List.getElem?_eq_getElem h]
theorem rdL_mem (l : List (List Int)) (i : Nat) (h : i < l.length) : rd_L12 l (i : Int) ∈ l := by rw [rdL l i h]; exact List.getElem_mem h
theorem rdZ_mem (l : List Int) (z : Int) (h0 : 0 ≤ z) (h : z < l.length) : rd l z ∈ l := by
  obtain ⟨i, rfl⟩ : ∃ i : Nat, z = i := ⟨z.toNat, by omega⟩
  exact rd_mem2 l i (by omega)
def mapR (m : Nat) (f : Nat → Int) : List Int := (List.range m).map f
theorem mapR_len (m : Nat) (f : Nat → Int) : (mapR m f).length = m := by simp [mapR]
theorem mapR_rd {m : Nat} {f : Nat → Int} {k : Nat} (h : k < m) : rd (mapR m f) (k : Int) = f k := by
  rw [rdN _ k (by rw [mapR_len]; exact h)]; simp [mapR]
theorem mapR_set (m : Nat) (f : Nat → Int) (k : Nat) (v : Int) : (mapR m f).set k v = mapR m (fun j => if j = k then v else f j) := by
  apply List.ext_getElem
  · simp [mapR]
  · intro i h1 h2
    simp only [mapR, List.getElem_set, List.getElem_map, List.getElem_range]
    by_cases h : k = i
    · subst h; simp
    · rw [if_neg h, if_neg (fun e => h e.symm)]
theorem mapR_congr {m : Nat} {f g : Nat → Int} (h : ∀ k, k < m → f k = g k) : mapR m f = mapR m g :=
  List.map_congr_left fun k hk => h k (List.mem_range.1 hk)
theorem mapR_succ (m : Nat) (f : Nat → Int) : mapR m f ++ [f m] = mapR (m + 1) f := by simp [mapR, List.range_succ]
theorem mapR_zero (m : Nat) : List.replicate m (0 : Int) = mapR m (fun _ => 0) := by
  apply List.ext_getElem
  · simp [mapR]
  · intro i h1 h2; simp [mapR]
structure GameOk (R T : List (List Int)) : Prop where
  r1 : 1 ≤ R.length
  r5 : R.length ≤ 5
  t1 : 1 ≤ T.length
  t8 : T.length ≤ 8
  row : ∀ l ∈ R, 1 ≤ l.length ∧ l.length ≤ 5 ∧ ∀ x ∈ l, 1 ≤ x ∧ x < 2 ^ T.length
  toll : ∀ t ∈ T, t.length = R.length ∧ ∀ x ∈ t, 0 ≤ x ∧ x ≤ 1000
structure ChOk (R : List (List Int)) (c : List Int) : Prop where
  len : c.length = R.length
  ok : ∀ i : Nat, i < R.length → 0 ≤ rd c (i : Int) ∧ rd c (i : Int) < ((rd_L12 R (i : Int)).length : Int)
/-- The route that driver i takes. -/
def rte (R : List (List Int)) (c : List Int) (i : Nat) : Int := rd (rd_L12 R (i : Int)) (rd c (i : Int))
theorem rte_b {R T : List (List Int)} {c : List Int} (g : GameOk R T) (h : ChOk R c) {i : Nat} (hi : i < R.length) : 1 ≤ rte R c i ∧ rte R c i < 2 ^ T.length := by
  have h1 := h.ok i hi
  exact (g.row _ (rdL_mem R i hi)).2.2 _ (rdZ_mem _ _ h1.1 h1.2)
theorem pow_b {m : Nat} (h : m ≤ 8) : (2 : Int) ^ m ≤ 256 := by
  have : (2 : Nat) ^ m ≤ 2 ^ 8 := Nat.pow_le_pow_right (by omega) h
  have e : ((2 ^ m : Nat) : Int) = (2 : Int) ^ m := by simp
  omega
/-- A street of a route. -/
def bk (x : Int) (k : Nat) : Int := x / 2 ^ k % 2
theorem fin_bk : ∀ s : Fin 256, ∀ a : Fin 8, Go.bits .and .i64 (shr .i64 ((s.val : Nat) : Int) ((a.val : Nat) : Int)) 1 = bk ((s.val : Nat) : Int) a.val ∧ Int.tmod (shr .i64 ((s.val : Nat) : Int) ((a.val : Nat) : Int)) 2 = bk ((s.val : Nat) : Int) a.val ∧ (bk ((s.val : Nat) : Int) a.val = 0 ∨ bk ((s.val : Nat) : Int) a.val = 1) := by decide +kernel
theorem bk_and {x : Int} {k : Nat} (h0 : 0 ≤ x) (h1 : x < 256) (hk : k < 8) : Go.bits .and .i64 (shr .i64 x (k : Int)) 1 = bk x k ∧ Int.tmod (shr .i64 x (k : Int)) 2 = bk x k ∧ (bk x k = 0 ∨ bk x k = 1) := by
  have := fin_bk ⟨x.toNat, by omega⟩ ⟨k, hk⟩
  simp only at this
  rw [show ((x.toNat : Nat) : Int) = x by omega] at this
  exact this
/-- How many of the first m drivers are on a street. -/
def uF (R : List (List Int)) (c : List Int) : Nat → Nat → Int
  | 0, _ => 0
  | m + 1, k => uF R c m k + bk (rte R c m) k
theorem uF_b {R T : List (List Int)} {c : List Int} (g : GameOk R T) (h : ChOk R c) {k : Nat} (hk : k < T.length) : ∀ m, m ≤ R.length → 0 ≤ uF R c m k ∧ uF R c m k ≤ m
  | 0, _ => by simp [uF]
  | m + 1, hm => by
    have ih := uF_b g h hk m (by omega)
    have hb := rte_b g h (i := m) (by omega)
    have hp := pow_b g.t8
    have h8 := g.t8
    have := (bk_and (x := rte R c m) (k := k) (by omega) (by omega) (by omega)).2.2
    simp only [uF]
    omega
theorem uF_pos {R T : List (List Int)} {c : List Int} (g : GameOk R T) (h : ChOk R c) {k : Nat} (hk : k < T.length) {i : Nat} : ∀ m, m ≤ R.length → i < m → bk (rte R c i) k = 1 → 1 ≤ uF R c m k
  | m + 1, hm, hi, hb1 => by
    have ih := uF_b g h hk m (by omega)
    have hb := rte_b g h (i := m) (by omega)
    have hp := pow_b g.t8
    have h8 := g.t8
    have := (bk_and (x := rte R c m) (k := k) (by omega) (by omega) (by omega)).2.2
    simp only [uF]
    by_cases he : i = m
    · subst he; omega
    · have := uF_pos g h hk m (by omega) (by omega) hb1
      omega
section
variable {R T : List (List Int)} {c : List Int} (g : GameOk R T) (h : ChOk R c)
include g h
/-- One driver's streets. -/
theorem users_l1 (U : List Unit) (P : Int → Int → Option Int) (r : List Int) (i : Nat) (hi : i < R.length) (hn : Ev (fun k => jam_game_users.l0 k (mapR T.length (uF R c (i + 1))) c (c.length : Int) ((i + 1 : Nat) : Int) R U P) r) : ∀ (m k : Nat), k + m = T.length →
    Ev (fun n => jam_game_users.l1 n (mapR T.length (fun j => if j < k then uF R c (i + 1) j else uF R c i j)) (i : Int) (rd c (i : Int)) c (c.length : Int) (i : Int) (T.length : Int) (k : Int) R U P) r
  | 0, k, hk => by
    have h5 := g.r5
    rw [mapR_congr (g := uF R c (i + 1)) (fun j hj => if_pos (by omega))]
    refine Ev.step (fun n => ?_) hn
    simp only [jam_game_users.l1]
    rw [if_neg (by omega), wrapN i (by omega)]
  | m + 1, k, hk => by
    have h5 := g.r5
    have h8 := g.t8
    have hb := rte_b g h hi
    have hp := pow_b g.t8
    have hc := h.ok i hi
    have hbk := bk_and (x := rte R c i) (k := k) (by omega) (by omega) (by omega)
    have hu := uF_b g h (k := k) (by omega) i (by omega)
    have ih := users_l1 U P r i hi hn m (k + 1) (by omega)
    refine Ev.step (fun n => ?_) ih
    simp only [jam_game_users.l1]
    rw [if_pos (by omega), if_pos (by omega), if_pos (by rw [mapR_len]; omega), if_pos (by omega), if_pos (by omega), if_pos (by omega), if_pos hc.2, mapR_rd (by omega), if_neg (by omega), show rd (rd_L12 R (i : Int)) (rd c (i : Int)) = rte R c i from rfl, hbk.1, wsm (by unfold sm; omega), wrapN k (by omega), Int.toNat_natCast, mapR_set]
    congr 1
    refine mapR_congr fun j hj => ?_
    by_cases h1 : j = k
    · subst h1; rw [if_pos rfl, if_pos (by omega)]; rfl
    · rw [if_neg h1]
      by_cases h2 : j < k
      · rw [if_pos h2, if_pos (by omega)]
      · rw [if_neg h2, if_neg (by omega)]
theorem users_l0 (U : List Unit) (P : Int → Int → Option Int) : ∀ (m i : Nat), i + m = R.length → Ev (fun n => jam_game_users.l0 n (mapR T.length (uF R c i)) c (c.length : Int) (i : Int) R U P) (mapR T.length (uF R c R.length))
  | 0, i, hi => by
    have e : i = R.length := by omega
    subst e
    have hl := h.len
    refine Ev.step (f := fun _ => some (mapR T.length (uF R c R.length))) (fun n => ?_) (Ev.now _)
    simp only [jam_game_users.l0]
    rw [if_neg (by omega)]
  | m + 1, i, hi => by
    have hl := h.len
    have h5 := g.r5
    have ih := users_l0 U P m (i + 1) (by omega)
    have hin := users_l1 g h U P _ i (by omega) ih T.length 0 (by omega)
    rw [mapR_congr (g := uF R c i) (fun j hj => if_neg (by omega))] at hin
    refine Ev.step (fun n => ?_) hin
    simp only [jam_game_users.l0]
    rw [if_pos (by omega), if_pos (by omega), if_pos (by omega), mapR_len]
    rfl
theorem users_ev (P : Int → Int → Option Int) : Ev (fun n => jam_game_users.f n R (unitsOf T) P c) (mapR T.length (uF R c R.length)) := by
  have h8 := g.t8
  have := users_l0 g h (unitsOf T) P R.length 0 (by omega)
  rw [show mapR T.length (uF R c 0) = List.replicate T.length (0 : Int) from (mapR_zero _).symm] at this
  refine Ev.congr (fun n => ?_) this
  have e : (unitsOf T).length = T.length := by simp [unitsOf]
  unfold jam_game_users.f
  rw [e, if_pos (Int.natCast_nonneg _), Int.toNat_natCast, if_pos (by omega)]
  rfl
/-- What a driver pays on streets k .. k + m - 1. -/
def payS (R T : List (List Int)) (c : List Int) (i : Nat) : Nat → Nat → Int
  | 0, _ => 0
  | m + 1, k => (if bk (rte R c i) k = 1 then rd (rd_L12 T (k : Int)) (uF R c R.length k - 1) else 0) + payS R T c i m (k + 1)
def cst (R T : List (List Int)) (c : List Int) (i : Nat) : Int := payS R T c i T.length 0
def totF (R T : List (List Int)) (c : List Int) : Nat → Int
  | 0 => 0
  | m + 1 => totF R T c m + cst R T c m
theorem pay_b {k i : Nat} (hk : k < T.length) (hi : i < R.length) (hb : bk (rte R c i) k = 1) : payF T (k : Int) (uF R c R.length k) = some (rd (rd_L12 T (k : Int)) (uF R c R.length k - 1)) ∧ 0 ≤ rd (rd_L12 T (k : Int)) (uF R c R.length k - 1) ∧ rd (rd_L12 T (k : Int)) (uF R c R.length k - 1) ≤ 1000 := by
  have h1 := uF_pos g h hk R.length (Nat.le_refl _) hi hb
  have h2 := uF_b g h hk R.length (Nat.le_refl _)
  have h3 := g.toll _ (rdL_mem T k hk)
  refine ⟨?_, h3.2 _ (rdZ_mem _ _ (by omega) (by omega))⟩
  unfold payF
  rw [if_pos (by omega), if_pos (by omega), if_pos (by omega), if_pos (by omega)]
theorem payS_b {i : Nat} (hi : i < R.length) : ∀ (m k : Nat), k + m = T.length → 0 ≤ payS R T c i m k ∧ payS R T c i m k ≤ 1000 * m
  | 0, _, _ => by simp [payS]
  | m + 1, k, hk => by
    have ih := payS_b hi m (k + 1) (by omega)
    simp only [payS]
    split
    · rename_i hb
      have := (pay_b g h (k := k) (by omega) hi hb).2
      omega
    · omega
theorem cst_b {i : Nat} (hi : i < R.length) : 0 ≤ cst R T c i ∧ cst R T c i ≤ 8000 := by
  have := payS_b g h hi T.length 0 (by omega)
  have h8 := g.t8
  unfold cst
  omega
theorem totF_b : ∀ m, m ≤ R.length → 0 ≤ totF R T c m ∧ totF R T c m ≤ 8000 * m
  | 0, _ => by simp [totF]
  | m + 1, hm => by
    have ih := totF_b m (by omega)
    have := cst_b g h (i := m) (by omega)
    simp only [totF]
    omega
theorem costs_l1 (U : List Unit) (r : List Int × Int) (i : Nat) (hi : i < R.length) (x7 : List Int) (x8 : Int) (h7 : x7.length = i)
    (hn : Ev (fun n => jam_game_costs.l0 n (mapR T.length (uF R c R.length)) (x7 ++ [cst R T c i]) (wrap64 (x8 + cst R T c i)) c (c.length : Int) ((i + 1 : Nat) : Int) R U (payF T)) r) : ∀ (m k : Nat) (a : Int), k + m = T.length → 0 ≤ a → a ≤ 1000 * k → a + payS R T c i m k = cst R T c i →
    Ev (fun n => jam_game_costs.l1 n (mapR T.length (uF R c R.length)) x7 x8 (i : Int) (rd c (i : Int)) a c (c.length : Int) (i : Int) (mapR T.length (uF R c R.length)) (T.length : Int) (k : Int) R U (payF T)) r
  | 0, k, a, hk, a0, a1, ha => by
    have h5 := g.r5
    have e : a = cst R T c i := by simp only [payS] at ha; omega
    subst e
    refine Ev.step (fun n => ?_) hn
    simp only [jam_game_costs.l1]
    rw [if_neg (by omega), if_pos (by omega), wrapN i (by omega)]
  | m + 1, k, a, hk, a0, a1, ha => by
    have h5 := g.r5
    have h8 := g.t8
    have hb := rte_b g h hi
    have hp := pow_b g.t8
    have hc := h.ok i hi
    have hbk := bk_and (x := rte R c i) (k := k) (by omega) (by omega) (by omega)
    simp only [payS] at ha
    by_cases hb1 : bk (rte R c i) k = 1
    · rw [if_pos hb1] at ha
      have hpay := pay_b g h (k := k) (by omega) hi hb1
      have ih := costs_l1 U r i hi x7 x8 h7 hn m (k + 1) (a + rd (rd_L12 T (k : Int)) (uF R c R.length k - 1)) (by omega) (by omega) (by omega) (by omega)
      refine Ev.step (fun n => ?_) ih
      simp only [jam_game_costs.l1]
      rw [if_pos (by omega), if_pos (by omega), if_pos (by rw [mapR_len]; omega), if_pos (by omega), if_pos (by omega), if_pos (by omega), if_pos hc.2, show rd (rd_L12 R (i : Int)) (rd c (i : Int)) = rte R c i from rfl, hbk.1, if_pos hb1, mapR_rd (by omega), hpay.1, Option.bind_some, wsm (by unfold sm; omega), wrapN k (by omega)]
    · rw [if_neg hb1] at ha
      have ih := costs_l1 U r i hi x7 x8 h7 hn m (k + 1) a (by omega) (by omega) (by omega) (by omega)
      refine Ev.step (fun n => ?_) ih
      simp only [jam_game_costs.l1]
      rw [if_pos (by omega), if_pos (by omega), if_pos (by rw [mapR_len]; omega), if_pos (by omega), if_pos (by omega), if_pos (by omega), if_pos hc.2, show rd (rd_L12 R (i : Int)) (rd c (i : Int)) = rte R c i from rfl, hbk.1, if_neg hb1, wrapN k (by omega)]
theorem costs_l0 (U : List Unit) : ∀ (m i : Nat), i + m = R.length → Ev (fun n => jam_game_costs.l0 n (mapR T.length (uF R c R.length)) (mapR i (cst R T c)) (totF R T c i) c (c.length : Int) (i : Int) R U (payF T)) (mapR R.length (cst R T c), totF R T c R.length)
  | 0, i, hi => by
    have e : i = R.length := by omega
    subst e
    have hl := h.len
    refine Ev.step (f := fun _ => some (mapR R.length (cst R T c), totF R T c R.length)) (fun n => ?_) (Ev.now _)
    simp only [jam_game_costs.l0]
    rw [if_neg (by omega)]
  | m + 1, i, hi => by
    have hl := h.len
    have h5 := g.r5
    have hcb := cst_b g h (i := i) (by omega)
    have htb := totF_b g h i (by omega)
    have ih := costs_l0 U m (i + 1) (by omega)
    have hin := costs_l1 g h U _ i (by omega) (mapR i (cst R T c)) (totF R T c i) (mapR_len _ _) (by
      rw [mapR_succ, wsm (by unfold sm; omega)]; exact ih) T.length 0 0 (by omega) (by omega) (by omega) (by unfold cst; omega)
    refine Ev.step (fun n => ?_) hin
    simp only [jam_game_costs.l0]
    rw [if_pos (by omega), if_pos (by omega), if_pos (by omega), mapR_len]
    rfl
theorem costs_ev : Ev (fun n => jam_game_costs.f n R (unitsOf T) (payF T) c) (mapR R.length (cst R T c), totF R T c R.length) := by
  unfold jam_game_costs.f
  exact Ev.bind (users_ev g h (payF T)) (costs_l0 g h (unitsOf T) R.length 0 (by omega))
end
end Go.Proofs.Ytjgbdicbdlollaa.B
namespace Go.Proofs.Ytjgbdicbdlollaa.B
open Go.RowKit Go.Sort Go.Proofs.YtjgbdicbdlollaaW.PrintWords Go.Proofs.YtjgbdicbdlollaaW.PrintLast Go.Proofs.YtjgbdicbdlollaaW.PrintMore
set_option linter.unusedVariables false
set_option linter.unusedSimpArgs false
theorem allRd {l : List Int} {P : Int → Prop} : (∀ q : Nat, q < l.length → P (rd l (q : Int))) ↔ ∀ x ∈ l, P x := by
  constructor
  · intro h x hx
    obtain ⟨q, hq, rfl⟩ := List.mem_iff_getElem.1 hx
    rw [← rdN l q hq]; exact h q hq
  · intro h q hq
    exact h _ (rd_mem2 l q hq)
theorem all_rdL {l : List (List Int)} {P : List Int → Prop} : (∀ q : Nat, q < l.length → P (rd_L12 l (q : Int))) ↔ ∀ x ∈ l, P x := by
  constructor
  · intro h x hx
    obtain ⟨q, hq, rfl⟩ := List.mem_iff_getElem.1 hx
    rw [← rdL l q hq]; exact h q hq
  · intro h q hq
    exact h _ (rdL_mem l q hq)
theorem shl_pow {m : Nat} (h : m ≤ 8) : shl .i64 1 (m : Int) = 2 ^ m := by
  have : ∀ a : Fin 9, shl .i64 1 ((a.val : Nat) : Int) = 2 ^ a.val := by decide +kernel
  exact this ⟨m, by omega⟩
structure FewOk (R T : List (List Int)) (c : List Int) : Prop where
  r : R.length ≤ 20
  t : T.length ≤ 20
  rr : ∀ x ∈ R, x.length ≤ 20
  tt : ∀ x ∈ T, x.length ≤ 20
  c : c.length ≤ 20
theorem few_l1 (R T : List (List Int)) (c : List Int) : ∀ (m i : Nat), i + m = 20 → ∃ b, Ev (fun k => trishawlaw02_few.l1 k c (i : Int) R T) b ∧ (b = true ↔ (T.length ≤ 20 ∧ ∀ q : Nat, i ≤ q → q < T.length → (rd_L12 T (q : Int)).length ≤ 20) ∧ c.length ≤ 20)
  | 0, i, h => by
    by_cases hT : i < T.length
    · refine ⟨false, Ev.step (f := fun _ => some false) (fun k => ?_) (Ev.now _), by simp; intro h1; omega⟩
      simp only [trishawlaw02_few.l1]
      rw [if_pos (by omega), if_pos (by omega)]
    · refine ⟨decide ((c.length : Int) ≤ 20), Ev.step (f := fun _ => some (decide ((c.length : Int) ≤ 20))) (fun k => ?_) (Ev.now _), ?_⟩
      · simp only [trishawlaw02_few.l1]
        rw [if_neg (by omega)]
      · rw [decide_eq_true_eq]
        exact ⟨fun h1 => ⟨⟨by omega, fun q h2 h3 => by omega⟩, by omega⟩, fun h1 => by have := h1.2; omega⟩
  | m + 1, i, h => by
    by_cases hT : i < T.length
    · by_cases hl : ((rd_L12 T (i : Int)).length : Int) > 20
      · refine ⟨false, Ev.step (f := fun _ => some false) (fun k => ?_) (Ev.now _), ?_⟩
        · simp only [trishawlaw02_few.l1]
          rw [if_pos (by omega), if_neg (by omega), if_pos (by omega), if_pos hl]
        · constructor
          · intro h1; exact absurd h1 (by simp)
          · intro h1; have := h1.1.2 i (Nat.le_refl _) hT; omega
      · obtain ⟨b, hb, hi⟩ := few_l1 R T c m (i + 1) (by omega)
        refine ⟨b, Ev.step (fun k => ?_) hb, ?_⟩
        · simp only [trishawlaw02_few.l1]
          rw [if_pos (by omega), if_neg (by omega), if_pos (by omega), if_neg hl, wrapN i (by omega)]
        · rw [hi]
          refine ⟨fun h1 => ⟨⟨h1.1.1, fun q h2 h3 => ?_⟩, h1.2⟩, fun h1 => ⟨⟨h1.1.1, fun q h2 h3 => h1.1.2 q (by omega) h3⟩, h1.2⟩⟩
          by_cases he : q = i
          · subst he; omega
          · exact h1.1.2 q (by omega) h3
    · refine ⟨decide ((c.length : Int) ≤ 20), Ev.step (f := fun _ => some (decide ((c.length : Int) ≤ 20))) (fun k => ?_) (Ev.now _), ?_⟩
      · simp only [trishawlaw02_few.l1]
        rw [if_neg (by omega)]
      · rw [decide_eq_true_eq]
        exact ⟨fun h1 => ⟨⟨by omega, fun q h2 h3 => by omega⟩, by omega⟩, fun h1 => by have := h1.2; omega⟩
theorem few_l0 (R T : List (List Int)) (c : List Int) : ∀ (m i : Nat), i + m = 20 → ∃ b, Ev (fun k => trishawlaw02_few.l0 k c (i : Int) R T) b ∧ (b = true ↔ (R.length ≤ 20 ∧ ∀ q : Nat, i ≤ q → q < R.length → (rd_L12 R (q : Int)).length ≤ 20) ∧ (T.length ≤ 20 ∧ ∀ q : Nat, 0 ≤ q → q < T.length → (rd_L12 T (q : Int)).length ≤ 20) ∧ c.length ≤ 20)
  | 0, i, h => by
    by_cases hT : i < R.length
    · refine ⟨false, Ev.step (f := fun _ => some false) (fun k => ?_) (Ev.now _), by simp; intro h1; omega⟩
      simp only [trishawlaw02_few.l0]
      rw [if_pos (by omega), if_pos (by omega)]
    · obtain ⟨b, hb, hi⟩ := few_l1 R T c 20 0 rfl
      refine ⟨b, Ev.step (fun k => ?_) hb, ?_⟩
      · simp only [trishawlaw02_few.l0]
        rw [if_neg (by omega)]; rfl
      · rw [hi]
        exact ⟨fun h1 => ⟨⟨by omega, fun q h2 h3 => by omega⟩, h1⟩, fun h1 => h1.2⟩
  | m + 1, i, h => by
    by_cases hT : i < R.length
    · by_cases hl : ((rd_L12 R (i : Int)).length : Int) > 20
      · refine ⟨false, Ev.step (f := fun _ => some false) (fun k => ?_) (Ev.now _), ?_⟩
        · simp only [trishawlaw02_few.l0]
          rw [if_pos (by omega), if_neg (by omega), if_pos (by omega), if_pos hl]
        · constructor
          · intro h1; exact absurd h1 (by simp)
          · intro h1; have := h1.1.2 i (Nat.le_refl _) hT; omega
      · obtain ⟨b, hb, hi⟩ := few_l0 R T c m (i + 1) (by omega)
        refine ⟨b, Ev.step (fun k => ?_) hb, ?_⟩
        · simp only [trishawlaw02_few.l0]
          rw [if_pos (by omega), if_neg (by omega), if_pos (by omega), if_neg hl, wrapN i (by omega)]
        · rw [hi]
          refine ⟨fun h1 => ⟨⟨h1.1.1, fun q h2 h3 => ?_⟩, h1.2⟩, fun h1 => ⟨⟨h1.1.1, fun q h2 h3 => h1.1.2 q (by omega) h3⟩, h1.2⟩⟩
          by_cases he : q = i
          · subst he; omega
          · exact h1.1.2 q (by omega) h3
    · obtain ⟨b, hb, hi⟩ := few_l1 R T c 20 0 rfl
      refine ⟨b, Ev.step (fun k => ?_) hb, ?_⟩
      · simp only [trishawlaw02_few.l0]
        rw [if_neg (by omega)]; rfl
      · rw [hi]
        exact ⟨fun h1 => ⟨⟨by omega, fun q h2 h3 => by omega⟩, h1⟩, fun h1 => h1.2⟩
theorem few_ev (R T : List (List Int)) (c : List Int) : ∃ b, Ev (fun k => trishawlaw02_few.f k R T c) b ∧ (b = true ↔ FewOk R T c) := by
  obtain ⟨b, hb, hi⟩ := few_l0 R T c 20 0 rfl
  refine ⟨b, hb, hi.trans ⟨fun h => ⟨h.1.1, h.2.1.1, ?_, ?_, h.2.2⟩, fun h => ⟨⟨h.r, ?_⟩, ⟨h.t, ?_⟩, h.c⟩⟩⟩
  · exact all_rdL.1 fun q hq => h.1.2 q (Nat.zero_le _) hq
  · exact all_rdL.1 fun q hq => h.2.1.2 q (Nat.zero_le _) hq
  · exact fun q _ hq => h.rr _ (rdL_mem R q hq)
  · exact fun q _ hq => h.tt _ (rdL_mem T q hq)
section
variable (R T : List (List Int)) (h5 : R.length ≤ 5) (h8 : T.length ≤ 8)
include h5 h8
theorem ig_l3 (k : Nat) (hk : k < T.length) (hl : (rd_L12 T (k : Int)).length = R.length) (b2 : Bool) (h2 : Ev (fun n => trishawref02_IsGame.l2 n (R.length : Int) (T.length : Int) ((k + 1 : Nat) : Int) R T) b2) : ∀ (m j : Nat), j + m = R.length →
    ∃ b, Ev (fun n => trishawref02_IsGame.l3 n (R.length : Int) (T.length : Int) (k : Int) (j : Int) R T) b ∧ (b = true ↔ (∀ q : Nat, j ≤ q → q < R.length → 0 ≤ rd (rd_L12 T (k : Int)) (q : Int) ∧ rd (rd_L12 T (k : Int)) (q : Int) ≤ 1000) ∧ b2 = true)
  | 0, j, h => by
    refine ⟨b2, Ev.step (fun n => ?_) h2, ⟨fun h => ⟨fun q h1 h2 => by omega, h⟩, fun h => h.2⟩⟩
    simp only [trishawref02_IsGame.l3]
    rw [if_neg (by omega), wrapN k (by omega)]
  | m + 1, j, h => by
    by_cases hx : 0 ≤ rd (rd_L12 T (k : Int)) (j : Int) ∧ rd (rd_L12 T (k : Int)) (j : Int) ≤ 1000
    · obtain ⟨b, hb, hi⟩ := ig_l3 k hk hl b2 h2 m (j + 1) (by omega)
      refine ⟨b, Ev.step (fun n => ?_) hb, hi.trans ⟨fun h => ⟨fun q h1 h2 => ?_, h.2⟩, fun h => ⟨fun q h1 h2 => h.1 q (by omega) h2, h.2⟩⟩⟩
      · simp only [trishawref02_IsGame.l3]
        rw [if_pos (by omega), if_pos (by omega), if_pos (by omega), if_pos (by omega), if_pos (by omega), if_neg (by omega), if_neg (by omega), wrapN j (by omega)]
      · by_cases he : q = j
        · subst he; exact hx
        · exact h.1 q (by omega) h2
    · refine ⟨false, Ev.step (f := fun _ => some false) (fun n => ?_) (Ev.now _), ⟨fun h => absurd h (by simp), fun h => absurd (h.1 j (Nat.le_refl _) (by omega)) hx⟩⟩
      simp only [trishawref02_IsGame.l3]
      rw [if_pos (by omega), if_pos (by omega), if_pos (by omega), if_pos (by omega), if_pos (by omega)]
      by_cases h0 : rd (rd_L12 T (k : Int)) (j : Int) < 0
      · rw [if_pos h0]
      · rw [if_neg h0, if_pos (by omega)]
theorem ig_l2 : ∀ (m k : Nat), k + m = T.length → ∃ b, Ev (fun n => trishawref02_IsGame.l2 n (R.length : Int) (T.length : Int) (k : Int) R T) b ∧ (b = true ↔ ∀ q : Nat, k ≤ q → q < T.length → (rd_L12 T (q : Int)).length = R.length ∧ ∀ x ∈ rd_L12 T (q : Int), 0 ≤ x ∧ x ≤ 1000)
  | 0, k, h => by
    refine ⟨true, Ev.step (f := fun _ => some true) (fun n => ?_) (Ev.now _), ⟨fun _ q h1 h2 => by omega, fun _ => rfl⟩⟩
    simp only [trishawref02_IsGame.l2]
    rw [if_neg (by omega)]
  | m + 1, k, h => by
    by_cases hl : (rd_L12 T (k : Int)).length = R.length
    · obtain ⟨b2, hb2, hi2⟩ := ig_l2 m (k + 1) (by omega)
      obtain ⟨b, hb, hi⟩ := ig_l3 R T h5 h8 k (by omega) hl b2 hb2 R.length 0 (by omega)
      refine ⟨b, Ev.step (fun n => ?_) hb, hi.trans ⟨fun h q h1 h2 => ?_, fun h => ⟨fun q h1 h2 => ?_, hi2.2 fun q h1 h2 => h q (by omega) h2⟩⟩⟩
      · simp only [trishawref02_IsGame.l2]
        rw [if_pos (by omega), if_pos (by omega), if_pos (by omega), if_pos (by omega)]
        rfl
      · by_cases he : q = k
        · subst he
          exact ⟨hl, allRd.1 fun p hp => h.1 p (Nat.zero_le _) (by omega)⟩
        · exact hi2.1 h.2 q (by omega) h2
      · exact (h k (Nat.le_refl _) (by omega)).2 _ (rd_mem2 _ q (by omega))
    · refine ⟨false, Ev.step (f := fun _ => some false) (fun n => ?_) (Ev.now _), ⟨fun h => absurd h (by simp), fun h => absurd (h k (Nat.le_refl _) (by omega)).1 hl⟩⟩
      simp only [trishawref02_IsGame.l2]
      rw [if_pos (by omega), if_pos (by omega), if_pos (by omega), if_neg (by omega)]
theorem ig_l1 (i : Nat) (hi : i < R.length) (hl : (rd_L12 R (i : Int)).length ≤ 5) (b2 : Bool) (h2 : Ev (fun n => trishawref02_IsGame.l0 n (R.length : Int) (T.length : Int) ((i + 1 : Nat) : Int) R T) b2) : ∀ (m j : Nat), j + m = (rd_L12 R (i : Int)).length →
    ∃ b, Ev (fun n => trishawref02_IsGame.l1 n (R.length : Int) (T.length : Int) (i : Int) (j : Int) R T) b ∧ (b = true ↔ (∀ q : Nat, j ≤ q → q < (rd_L12 R (i : Int)).length → 1 ≤ rd (rd_L12 R (i : Int)) (q : Int) ∧ rd (rd_L12 R (i : Int)) (q : Int) < 2 ^ T.length) ∧ b2 = true)
  | 0, j, h => by
    refine ⟨b2, Ev.step (fun n => ?_) h2, ⟨fun h => ⟨fun q h1 h2 => by omega, h⟩, fun h => h.2⟩⟩
    simp only [trishawref02_IsGame.l1]
    rw [if_pos (by omega), if_pos (by omega), if_neg (by omega), wrapN i (by omega)]
  | m + 1, j, h => by
    have hs := shl_pow h8
    by_cases hx : 1 ≤ rd (rd_L12 R (i : Int)) (j : Int) ∧ rd (rd_L12 R (i : Int)) (j : Int) < 2 ^ T.length
    · obtain ⟨b, hb, hi2⟩ := ig_l1 i hi hl b2 h2 m (j + 1) (by omega)
      refine ⟨b, Ev.step (fun n => ?_) hb, hi2.trans ⟨fun h => ⟨fun q h1 h2 => ?_, h.2⟩, fun h => ⟨fun q h1 h2 => h.1 q (by omega) h2, h.2⟩⟩⟩
      · simp only [trishawref02_IsGame.l1]
        rw [if_pos (by omega), if_pos (by omega), if_pos (by omega), if_pos (by omega), if_neg (by omega), if_pos (by omega), hs, if_neg (by omega), wrapN j (by omega)]
      · by_cases he : q = j
        · subst he; exact hx
        · exact h.1 q (by omega) h2
    · refine ⟨false, Ev.step (f := fun _ => some false) (fun n => ?_) (Ev.now _), ⟨fun h => absurd h (by simp), fun h => absurd (h.1 j (Nat.le_refl _) (by omega)) hx⟩⟩
      simp only [trishawref02_IsGame.l1]
      rw [if_pos (by omega), if_pos (by omega), if_pos (by omega), if_pos (by omega)]
      by_cases h0 : rd (rd_L12 R (i : Int)) (j : Int) < 1
      · rw [if_pos h0]
      · rw [if_neg h0, if_pos (by omega), hs, if_pos (by omega)]
theorem ig_l0 : ∀ (m i : Nat), i + m = R.length → ∃ b, Ev (fun n => trishawref02_IsGame.l0 n (R.length : Int) (T.length : Int) (i : Int) R T) b ∧ (b = true ↔ (∀ q : Nat, i ≤ q → q < R.length → 1 ≤ (rd_L12 R (q : Int)).length ∧ (rd_L12 R (q : Int)).length ≤ 5 ∧ ∀ x ∈ rd_L12 R (q : Int), 1 ≤ x ∧ x < 2 ^ T.length) ∧ (∀ q : Nat, q < T.length → (rd_L12 T (q : Int)).length = R.length ∧ ∀ x ∈ rd_L12 T (q : Int), 0 ≤ x ∧ x ≤ 1000))
  | 0, i, h => by
    obtain ⟨b2, hb2, hi2⟩ := ig_l2 R T h5 h8 T.length 0 (by omega)
    refine ⟨b2, Ev.step (fun n => ?_) hb2, hi2.trans ⟨fun h => ⟨fun q h1 h2 => by omega, fun q h1 => h q (Nat.zero_le _) h1⟩, fun h q _ h1 => h.2 q h1⟩⟩
    simp only [trishawref02_IsGame.l0]
    rw [if_neg (by omega)]
    rfl
  | m + 1, i, h => by
    have hbad : ¬ (1 ≤ (rd_L12 R (i : Int)).length ∧ (rd_L12 R (i : Int)).length ≤ 5) → Ev (fun n => trishawref02_IsGame.l0 n (R.length : Int) (T.length : Int) (i : Int) R T) false := by
      intro hx
      have hj : Ev (fun n => trishawref02_IsGame.j2 n (R.length : Int) (T.length : Int) (i : Int) true R T) false := Ev.step (f := fun _ => some false) (fun n => by simp [trishawref02_IsGame.j2]) (Ev.now _)
      refine Ev.step (fun n => ?_) hj
      simp only [trishawref02_IsGame.l0]
      rw [if_pos (by omega), if_pos (by omega), if_pos (by omega)]
      by_cases h0 : ((rd_L12 R (i : Int)).length : Int) < 1
      · rw [if_pos h0]
      · rw [if_neg h0, decide_eq_true (by omega)]
    by_cases hx : 1 ≤ (rd_L12 R (i : Int)).length ∧ (rd_L12 R (i : Int)).length ≤ 5
    · obtain ⟨b2, hb2, hi2⟩ := ig_l0 m (i + 1) (by omega)
      obtain ⟨b, hb, hi3⟩ := ig_l1 R T h5 h8 i (by omega) hx.2 b2 hb2 _ 0 (Nat.zero_add _)
      have hj : Ev (fun n => trishawref02_IsGame.j2 n (R.length : Int) (T.length : Int) (i : Int) false R T) b := Ev.step (fun n => by simp only [trishawref02_IsGame.j2]; rw [if_neg (by simp)]; rfl) hb
      refine ⟨b, Ev.step (fun n => ?_) hj, hi3.trans ⟨fun h => ⟨fun q h1 h2 => ?_, (hi2.1 h.2).2⟩, fun h => ⟨fun q h1 h2 => ?_, hi2.2 ⟨fun q h1 h2 => h.1 q (by omega) h2, h.2⟩⟩⟩⟩
      · simp only [trishawref02_IsGame.l0]
        rw [if_pos (by omega), if_pos (by omega), if_pos (by omega), if_neg (by omega), decide_eq_false (by omega)]
      · by_cases he : q = i
        · subst he
          exact ⟨hx.1, hx.2, allRd.1 fun p hp => h.1 p (Nat.zero_le _) hp⟩
        · exact (hi2.1 h.2).1 q (by omega) h2
      · exact (h.1 i (Nat.le_refl _) (by omega)).2.2 _ (rd_mem2 _ q h2)
    · refine ⟨false, hbad hx, ⟨fun h => absurd h (by simp), fun h => absurd ⟨(h.1 i (Nat.le_refl _) (by omega)).1, (h.1 i (Nat.le_refl _) (by omega)).2.1⟩ hx⟩⟩
end
theorem isGame_ev (R T : List (List Int)) : ∃ b, Ev (fun k => trishawref02_IsGame.f k R T) b ∧ (b = true ↔ GameOk R T) := by
  by_cases hx : 1 ≤ R.length ∧ R.length ≤ 5 ∧ 1 ≤ T.length ∧ T.length ≤ 8
  · obtain ⟨b, hb, hi⟩ := ig_l0 R T hx.2.1 hx.2.2.2 R.length 0 (by omega)
    have hj : Ev (fun n => trishawref02_IsGame.j0 n (R.length : Int) (T.length : Int) false R T) b := Ev.step (fun n => by simp only [trishawref02_IsGame.j0]; rw [if_neg (by simp)]; rfl) hb
    refine ⟨b, Ev.congr (fun k => ?_) hj, hi.trans ⟨fun h => ⟨hx.1, hx.2.1, hx.2.2.1, hx.2.2.2, all_rdL.1 fun q hq => h.1 q (Nat.zero_le _) hq, all_rdL.1 h.2⟩, fun h => ⟨fun q _ hq => h.row _ (rdL_mem R q hq), fun q hq => h.toll _ (rdL_mem T q hq)⟩⟩⟩
    unfold trishawref02_IsGame.f
    rw [if_neg (by omega), if_neg (by omega), if_neg (by omega), decide_eq_false (by omega)]
  · have hj : Ev (fun n => trishawref02_IsGame.j0 n (R.length : Int) (T.length : Int) true R T) false := Ev.step (f := fun _ => some false) (fun n => by simp [trishawref02_IsGame.j0]) (Ev.now _)
    refine ⟨false, Ev.congr (fun k => ?_) hj, ⟨fun h => absurd h (by simp), fun h => absurd ⟨h.r1, h.r5, h.t1, h.t8⟩ hx⟩⟩
    unfold trishawref02_IsGame.f
    by_cases h1 : (R.length : Int) < 1
    · rw [if_pos h1]
    · rw [if_neg h1]
      by_cases h2 : (R.length : Int) > 5
      · rw [if_pos h2]
      · rw [if_neg h2]
        by_cases h3 : (T.length : Int) < 1
        · rw [if_pos h3]
        · rw [if_neg h3, decide_eq_true (by omega)]
theorem ic_l0 (R T : List (List Int)) (c : List Int) (hl : c.length = R.length) (h5 : R.length ≤ 20) : ∀ (m i : Nat), i + m = R.length → ∃ b, Ev (fun k => trishawref02_IsChoice.l0 k c (i : Int) R T) b ∧ (b = true ↔ ∀ q : Nat, i ≤ q → q < R.length → 0 ≤ rd c (q : Int) ∧ rd c (q : Int) < ((rd_L12 R (q : Int)).length : Int))
  | 0, i, h => by
    refine ⟨true, Ev.step (f := fun _ => some true) (fun n => ?_) (Ev.now _), ⟨fun _ q h1 h2 => by omega, fun _ => rfl⟩⟩
    simp only [trishawref02_IsChoice.l0]
    rw [if_neg (by omega)]
  | m + 1, i, h => by
    by_cases hx : 0 ≤ rd c (i : Int) ∧ rd c (i : Int) < ((rd_L12 R (i : Int)).length : Int)
    · obtain ⟨b, hb, hi⟩ := ic_l0 R T c hl h5 m (i + 1) (by omega)
      refine ⟨b, Ev.step (fun n => ?_) hb, hi.trans ⟨fun h q h1 h2 => ?_, fun h q h1 h2 => h q (by omega) h2⟩⟩
      · simp only [trishawref02_IsChoice.l0]
        rw [if_pos (by omega), if_pos (by omega), if_neg (by omega), if_pos (by omega), if_neg (by omega), wrapN i (by omega)]
      · by_cases he : q = i
        · subst he; exact hx
        · exact h q (by omega) h2
    · refine ⟨false, Ev.step (f := fun _ => some false) (fun n => ?_) (Ev.now _), ⟨fun h => absurd h (by simp), fun h => absurd (h i (Nat.le_refl _) (by omega)) hx⟩⟩
      simp only [trishawref02_IsChoice.l0]
      rw [if_pos (by omega), if_pos (by omega)]
      by_cases h0 : rd c (i : Int) < 0
      · rw [if_pos h0]
      · rw [if_neg h0, if_pos (by omega), if_pos (by omega)]
theorem isChoice_ev (R T : List (List Int)) (c : List Int) (h5 : R.length ≤ 20) : ∃ b, Ev (fun k => trishawref02_IsChoice.f k R T c) b ∧ (b = true ↔ ChOk R c) := by
  by_cases hl : c.length = R.length
  · obtain ⟨b, hb, hi⟩ := ic_l0 R T c hl h5 R.length 0 (by omega)
    refine ⟨b, Ev.congr (fun k => ?_) hb, hi.trans ⟨fun h => ⟨hl, fun i hi => h i (Nat.zero_le _) hi⟩, fun h q _ hq => h.ok q hq⟩⟩
    unfold trishawref02_IsChoice.f
    rw [if_pos (by omega)]
    rfl
  · refine ⟨false, Ev.congr (f := fun _ => some false) (fun k => ?_) (Ev.now _), ⟨fun h => absurd h (by simp), fun h => absurd h.len hl⟩⟩
    unfold trishawref02_IsChoice.f
    rw [if_neg (by omega)]
theorem le_minU (l : List Int) (a : Int) : ∀ i : Nat, a ≤ minU l i ↔ ∀ q : Nat, q ≤ i → a ≤ rd l (q : Int)
  | 0 => by
    simp only [minU]
    exact ⟨fun h q hq => by obtain rfl : q = 0 := by omega
                            exact h, fun h => h 0 (Nat.le_refl _)⟩
  | i + 1 => by
    have ih := le_minU l a i
    have e : a ≤ minU l (i + 1) ↔ a ≤ minU l i ∧ a ≤ rd l ((i + 1 : Nat) : Int) := by
      simp only [minU, mn]
      split <;> omega
    rw [e, ih]
    refine ⟨fun h q hq => ?_, fun h => ⟨fun q hq => h q (by omega), h _ (Nat.le_refl _)⟩⟩
    by_cases he : q = i + 1
    · subst he; exact h.2
    · exact h.1 q (by omega)
theorem maxU_le (l : List Int) (a : Int) : ∀ i : Nat, maxU l i ≤ a ↔ ∀ q : Nat, q ≤ i → rd l (q : Int) ≤ a
  | 0 => by
    simp only [maxU]
    exact ⟨fun h q hq => by obtain rfl : q = 0 := by omega
                            exact h, fun h => h 0 (Nat.le_refl _)⟩
  | i + 1 => by
    have ih := maxU_le l a i
    have e : maxU l (i + 1) ≤ a ↔ maxU l i ≤ a ∧ rd l ((i + 1 : Nat) : Int) ≤ a := by
      simp only [maxU, mx]
      split <;> omega
    rw [e, ih]
    refine ⟨fun h q hq => ?_, fun h => ⟨fun q hq => h q (by omega), h _ (Nat.le_refl _)⟩⟩
    by_cases he : q = i + 1
    · subst he; exact h.2
    · exact h.1 q (by omega)
theorem minU_all (l : List Int) (a : Int) (h : 1 ≤ l.length) : a ≤ minU l (l.length - 1) ↔ ∀ x ∈ l, a ≤ x := by
  rw [le_minU, ← allRd]
  exact ⟨fun h1 q hq => h1 q (by omega), fun h1 q hq => h1 q (by omega)⟩
theorem maxU_all (l : List Int) (a : Int) (h : 1 ≤ l.length) : maxU l (l.length - 1) ≤ a ↔ ∀ x ∈ l, x ≤ a := by
  rw [maxU_le, ← allRd]
  exact ⟨fun h1 q hq => h1 q (by omega), fun h1 q hq => h1 q (by omega)⟩
theorem readOk_iff (R T : List (List Int)) : readOk R T = true ↔ GameOk R T := by
  unfold readOk
  simp only [Bool.and_eq_true, decide_eq_true_eq, List.all_eq_true]
  constructor
  · rintro ⟨⟨⟨⟨⟨h1, h2⟩, h3⟩, h4⟩, h5⟩, h6⟩
    refine ⟨h1, h2, h3, h4, fun l hl => ?_, fun t ht => ?_⟩
    · have := h6 l hl
      unfold routeOk at this
      simp only [Bool.and_eq_true, decide_eq_true_eq] at this
      obtain ⟨⟨⟨a1, a2⟩, a3⟩, a4⟩ := this
      rw [shl_pow h4] at a4
      refine ⟨a1, a2, fun x hx => ⟨(minU_all l 1 a1).1 a3 x hx, ?_⟩⟩
      have := (maxU_all l (2 ^ T.length - 1) a1).1 (by omega) x hx
      omega
    · have := h5 t ht
      unfold tollOk at this
      simp only [Bool.and_eq_true, decide_eq_true_eq] at this
      obtain ⟨⟨a1, a2⟩, a3⟩ := this
      exact ⟨a1, fun x hx => ⟨(minU_all t 0 (by omega)).1 a2 x hx, (maxU_all t 1000 (by omega)).1 a3 x hx⟩⟩
  · intro g
    refine ⟨⟨⟨⟨⟨g.r1, g.r5⟩, g.t1⟩, g.t8⟩, fun t ht => ?_⟩, fun l hl => ?_⟩
    · have h := g.toll t ht
      have h1 := g.r1
      unfold tollOk
      simp only [Bool.and_eq_true, decide_eq_true_eq]
      exact ⟨⟨h.1, (minU_all t 0 (by omega)).2 fun x hx => (h.2 x hx).1⟩, (maxU_all t 1000 (by omega)).2 fun x hx => (h.2 x hx).2⟩
    · have h := g.row l hl
      unfold routeOk
      simp only [Bool.and_eq_true, decide_eq_true_eq]
      refine ⟨⟨⟨h.1, h.2.1⟩, (minU_all l 1 h.1).2 fun x hx => (h.2.2 x hx).1⟩, ?_⟩
      rw [shl_pow g.t8]
      have := (maxU_all l (2 ^ T.length - 1) h.1).2 fun x hx => by have := (h.2.2 x hx).2; omega
      omega
theorem choiceOk_iff (R : List (List Int)) (c : List Int) : choiceOk R c = true ↔ ChOk R c := by
  unfold choiceOk
  simp only [Bool.and_eq_true, decide_eq_true_eq, List.all_eq_true, List.mem_range]
  exact ⟨fun h => ⟨h.1, fun i hi => h.2 i (by omega)⟩, fun h => ⟨h.len, fun i hi => h.ok i (by have := h.len; omega)⟩⟩
theorem playOk_iff (R T : List (List Int)) (c : List Int) : playOk R T c = true ↔ GameOk R T ∧ ChOk R c := by
  unfold playOk
  rw [Bool.and_eq_true, readOk_iff, choiceOk_iff]
end Go.Proofs.Ytjgbdicbdlollaa.B
namespace Go.Proofs.Ytjgbdicbdlollaa.B
open Go.RowKit Go.Sort Go.Proofs.YtjgbdicbdlollaaW.PrintWords Go.Proofs.YtjgbdicbdlollaaW.PrintLast Go.Proofs.YtjgbdicbdlollaaW.PrintMore
set_option linter.unusedVariables false
set_option linter.unusedSimpArgs false
def Agree (i : Nat) (a b : List Int) : Prop := ∀ j : Nat, j < i → rd a (j : Int) = rd b (j : Int)
def LexLe (n : Nat) (b c : List Int) : Prop := b = c ∨ ∃ j : Nat, j < n ∧ Agree j b c ∧ rd b (j : Int) < rd c (j : Int)
theorem agree_all {n : Nat} {a b : List Int} (ha : a.length = n) (hb : b.length = n) (h : Agree n a b) : a = b := by
  refine List.ext_getElem (by omega) fun i h1 h2 => ?_
  rw [← rdN a i h1, ← rdN b i h2]
  exact h i (by omega)
theorem rd_set_eq (l : List Int) (i : Nat) (v : Int) (h : i < l.length) : rd (l.set i v) (i : Int) = v := by
  rw [rdN _ i (by simpa using h)]; simp
theorem rd_set_ne (l : List Int) (i j : Nat) (v : Int) (h : j ≠ i) : rd (l.set i v) (j : Int) = rd l (j : Int) := by
  unfold rd
  simp only [Int.toNat_natCast, List.getD_eq_getElem?_getD]
  rw [List.getElem?_set_ne (fun e => h e.symm)]
abbrev tot (R T : List (List Int)) (c : List Int) : Int := totF R T c R.length
theorem visB_ev {R T : List (List Int)} {ch : List Int} (g : GameOk R T) (h : ChOk R ch) (s : List Int × Int) : Ev (fun k => visB k R T s ch) (if s.1 = [] ∨ tot R T ch < s.2 then (ch, tot R T ch) else s) := by
  have h5 := g.r5
  have hl := h.len
  unfold visB
  refine Ev.bind (costs_ev g h) ?_
  by_cases hc : s.1 = [] ∨ tot R T ch < s.2
  · rw [show (if s.1 = [] ∨ tot R T ch < s.2 then (ch, tot R T ch) else s) = (ch, tot R T ch) from if_pos hc]
    refine Ev.congr (f := fun _ => some (ch, tot R T ch)) (fun k => ?_) (Ev.now _)
    rw [if_pos hc]
    unfold slices_Clone.f
    rw [if_pos (by omega)]
    rfl
  · rw [show (if s.1 = [] ∨ tot R T ch < s.2 then (ch, tot R T ch) else s) = s from if_neg hc]
    refine Ev.congr (f := fun _ => some s) (fun k => ?_) (Ev.now _)
    rw [if_neg hc]
structure Post (R T : List (List Int)) (i : Nat) (ch : List Int) (s : List Int × Int) (ch' : List Int) (s' : List Int × Int) : Prop where
  len : ch'.length = R.length
  agr : Agree i ch' ch
  low : ∀ c', ChOk R c' → Agree i c' ch → s'.2 ≤ tot R T c' ∧ (s'.2 = tot R T c' → s' = s ∨ LexLe R.length s'.1 c')
  own : s' = s ∨ (ChOk R s'.1 ∧ tot R T s'.1 = s'.2 ∧ Agree i s'.1 ch ∧ (s.1 = [] ∨ s'.2 < s.2))
  some_ : s'.1 ≠ []
theorem chok_ne {R T : List (List Int)} (g : GameOk R T) {c : List Int} (h : ChOk R c) : c ≠ [] := by
  intro e
  have := h.len
  have := g.r1
  subst e
  simp at *
  omega
structure Inv (R T : List (List Int)) (i : Nat) (ch0 : List Int) (s0 : List Int × Int) (r : Nat) (s : List Int × Int) : Prop where
  low : ∀ c', ChOk R c' → Agree i c' ch0 → rd c' (i : Int) < r → s.2 ≤ tot R T c' ∧ (s.2 = tot R T c' → s = s0 ∨ LexLe R.length s.1 c')
  own : s = s0 ∨ (ChOk R s.1 ∧ tot R T s.1 = s.2 ∧ Agree i s.1 ch0 ∧ rd s.1 (i : Int) < r ∧ (s0.1 = [] ∨ s.2 < s0.2))
  some_ : 0 < r → s.1 ≠ []
theorem onLoop_ev {R T : List (List Int)} (g : GameOk R T) (f i : Nat) (hi : i < R.length) (ch0 : List Int) (s0 : List Int × Int)
    (IH : ∀ (ch : List Int) (s : List Int × Int), ch.length = R.length → (∀ j : Nat, j < i + 1 → 0 ≤ rd ch (j : Int) ∧ rd ch (j : Int) < ((rd_L12 R (j : Int)).length : Int)) → ∃ ch' s', Ev (fun k => onF R (visB k R T) f (i + 1) ch s) (ch', s') ∧ Post R T (i + 1) ch s ch' s')
    (h0 : ∀ j : Nat, j < i → 0 ≤ rd ch0 (j : Int) ∧ rd ch0 (j : Int) < ((rd_L12 R (j : Int)).length : Int)) :
    ∀ (m r : Nat) (ch : List Int) (s : List Int × Int), r + m = (rd_L12 R (i : Int)).length → ch.length = R.length → Agree i ch ch0 → Inv R T i ch0 s0 r s →
      ∃ ch' s', Ev (fun k => onLoop (fun c t => onF R (visB k R T) f (i + 1) c t) i m r ch s) (ch', s') ∧ Post R T i ch0 s0 ch' s'
  | 0, r, ch, s, hr, hl, ha, hv => by
    have hrow := g.row _ (rdL_mem R i hi)
    refine ⟨ch, s, Ev.now _, ⟨hl, ha, fun c' hc' hag => hv.low c' hc' hag ?_, ?_, hv.some_ (by omega)⟩⟩
    · have := hc'.ok i hi; omega
    · rcases hv.own with h | ⟨h1, h2, h3, h4, h5⟩
      · exact Or.inl h
      · exact Or.inr ⟨h1, h2, h3, h5⟩
  | m + 1, r, ch, s, hr, hl, ha, hv => by
    have hset : ∀ j : Nat, j < i → rd (ch.set i (r : Int)) (j : Int) = rd ch0 (j : Int) := fun j hj => by
      rw [rd_set_ne ch i j _ (by omega)]; exact ha j hj
    have hseti : rd (ch.set i (r : Int)) (i : Int) = r := rd_set_eq ch i _ (by omega)
    obtain ⟨ch1, s1, he, hp⟩ := IH (ch.set i (r : Int)) s (by simpa using hl) (fun j hj => by
      by_cases e : j = i
      · subst e; rw [hseti]; omega
      · rw [hset j (by omega)]; exact h0 j (by omega))
    have hv1 : Inv R T i ch0 s0 (r + 1) s1 := by
      refine ⟨fun c' hc' hag hlt => ?_, ?_, fun _ => hp.some_⟩
      · by_cases hlr : rd c' (i : Int) < r
        · have hA := hv.low c' hc' hag hlr
          rcases hp.own with e | ⟨h1, h2, h3, h4⟩
          · rw [e]; exact hA
          · rcases h4 with h4 | h4
            · have := (hc'.ok i hi).1
              exact absurd h4 (hv.some_ (by omega))
            · exact ⟨by omega, fun h => by omega⟩
        · have hagr : Agree (i + 1) c' (ch.set i (r : Int)) := by
            intro j hj
            by_cases e : j = i
            · subst e; rw [hseti]; omega
            · rw [hset j (by omega)]; exact hag j (by omega)
          have hA := hp.low c' hc' hagr
          refine ⟨hA.1, fun h => ?_⟩
          rcases hA.2 h with e | e
          · rcases hv.own with e2 | ⟨h1, h2, h3, h4, h5⟩
            · exact Or.inl (e.trans e2)
            · right
              rw [e]
              exact Or.inr ⟨i, hi, fun j hj => (h3 j hj).trans (hag j hj).symm, by omega⟩
          · exact Or.inr e
      · rcases hp.own with e | ⟨h1, h2, h3, h4⟩
        · rw [e]
          rcases hv.own with e2 | ⟨h1, h2, h3, h4, h5⟩
          · exact Or.inl e2
          · exact Or.inr ⟨h1, h2, h3, by omega, h5⟩
        · right
          refine ⟨h1, h2, fun j hj => (h3 j (by omega)).trans (hset j hj), ?_, ?_⟩
          · rw [h3 i (by omega), hseti]; omega
          · rcases hv.own with e2 | ⟨k1, k2, k3, k4, k5⟩
            · rw [← e2]; exact h4
            · rcases h4 with h4 | h4
              · exact absurd h4 (chok_ne g k1)
              · rcases k5 with k5 | k5
                · exact Or.inl k5
                · exact Or.inr (by omega)
    obtain ⟨ch2, s2, he2, hp2⟩ := onLoop_ev g f i hi ch0 s0 IH h0 m (r + 1) ch1 s1 (by omega) hp.len (fun j hj => (hp.agr j (by omega)).trans (hset j hj)) hv1
    exact ⟨ch2, s2, Ev.bind he he2, hp2⟩
theorem onF_ev {R T : List (List Int)} (g : GameOk R T) : ∀ (f i : Nat), i + f = R.length → ∀ (ch : List Int) (s : List Int × Int), ch.length = R.length → (∀ j : Nat, j < i → 0 ≤ rd ch (j : Int) ∧ rd ch (j : Int) < ((rd_L12 R (j : Int)).length : Int)) →
    ∃ ch' s', Ev (fun k => onF R (visB k R T) f i ch s) (ch', s') ∧ Post R T i ch s ch' s'
  | 0, i, hi, ch, s, hl, h0 => by
    have hch : ChOk R ch := ⟨hl, fun j hj => h0 j (by omega)⟩
    have hvis := visB_ev g hch s
    refine ⟨ch, _, Ev.bind hvis (Ev.now _), ⟨hl, fun _ _ => rfl, fun c' hc' hag => ?_, ?_, ?_⟩⟩
    · have e : c' = ch := agree_all (n := R.length) hc'.len hl (fun j hj => hag j (by omega))
      subst e
      split
      · exact ⟨Int.le_refl _, fun _ => Or.inr (Or.inl rfl)⟩
      · rename_i hc
        refine ⟨?_, fun _ => Or.inl rfl⟩
        rcases Int.lt_or_le (tot R T c') s.2 with h | h
        · exact absurd (Or.inr h) hc
        · exact h
    · split
      · rename_i hc; exact Or.inr ⟨hch, rfl, fun _ _ => rfl, hc⟩
      · exact Or.inl rfl
    · split
      · exact chok_ne g hch
      · rename_i hc; exact fun e => hc (Or.inl e)
  | f + 1, i, hi, ch, s, hl, h0 => by
    have := onLoop_ev g f i (by omega) ch s (fun c t h1 h2 => onF_ev g f (i + 1) (by omega) c t h1 h2) h0 (rd_L12 R (i : Int)).length 0 ch s (by omega) hl (fun _ _ => rfl)
      ⟨fun c' hc' hag hlt => by have := (hc'.ok i (by omega)).1; omega, Or.inl rfl, fun h => absurd h (by omega)⟩
    exact this
/-- Best answers with the first of the least choices. -/
theorem best_ev {R T : List (List Int)} (g : GameOk R T) : ∃ b, ChOk R b ∧ Ev (fun k => jam_Best.f k R T) (b, tot R T b, 0) ∧ ∀ c, ChOk R c → tot R T b ≤ tot R T c ∧ (tot R T b = tot R T c → LexLe R.length b c) := by
  obtain ⟨ch', s', he, hp⟩ := onF_ev g R.length 0 (by omega) (List.replicate R.length 0) ([], 0) (by simp) (fun j hj => absurd hj (by omega))
  rcases hp.own with e | ⟨h1, h2, h3, h4⟩
  · exact absurd (by rw [e]) hp.some_
  · refine ⟨s'.1, h1, ?_, fun c hc => ?_⟩
    · unfold jam_Best.f
      refine Ev.congr (fun k => if_pos ((readOk_iff R T).2 g)) (Ev.bind he ?_)
      rw [h2]
      exact Ev.now _
    · have hA := hp.low c hc (fun j hj => absurd hj (by omega))
      rw [h2]
      refine ⟨hA.1, fun h => ?_⟩
      rcases hA.2 h with e | e
      · exact absurd (by rw [e]) hp.some_
      · exact e
theorem jcosts_ev {R T : List (List Int)} {c : List Int} (g : GameOk R T) (h : ChOk R c) : Ev (fun k => jam_Costs.f k R T c) (mapR R.length (cst R T c), tot R T c, 0) := by
  unfold jam_Costs.f
  exact Ev.congr (fun k => if_pos ((playOk_iff R T c).2 ⟨g, h⟩)) (Ev.bind (costs_ev g h) (Ev.now _))
end Go.Proofs.Ytjgbdicbdlollaa.B
namespace Go.Proofs.Ytjgbdicbdlollaa.B
open Go.RowKit Go.Sort Go.Proofs.YtjgbdicbdlollaaW.PrintWords Go.Proofs.YtjgbdicbdlollaaW.PrintLast Go.Proofs.YtjgbdicbdlollaaW.PrintMore
set_option linter.unusedVariables false
set_option linter.unusedSimpArgs false
theorem tried_l0 {n : Nat} (hn : n ≤ 5) (c b : List Int) (hc : c.length = n) (hb : b.length = n) (x6 x12 : Int) (hlex : x12 = x6 → LexLe n b c) : ∀ (m i : Nat), i + m = n → Agree i b c → Ev (fun k => trishawlaw02_JamTried.l0 k c b x6 x12 (i : Int)) true
  | 0, i, h, ha => by
    have hj : Ev (fun k => trishawlaw02_JamTried.j3 k c b x6 x12 (i : Int) false) true := Ev.step (fun k => by simp only [trishawlaw02_JamTried.j3]; rw [if_neg (by simp)]) alive_ev2
    refine Ev.step (fun k => ?_) hj
    simp only [trishawlaw02_JamTried.l0]
    rw [if_neg (by omega)]
  | m + 1, i, h, ha => by
    by_cases hx : x12 = x6
    · have hj : Ev (fun k => trishawlaw02_JamTried.j3 k c b x6 x12 (i : Int) true) true := by
        by_cases he : rd b (i : Int) = rd c (i : Int)
        · have ih := tried_l0 hn c b hc hb x6 x12 hlex m (i + 1) (by omega) (fun j hj => by
            by_cases e : j = i
            · subst e; exact he
            · exact ha j (by omega))
          refine Ev.step (fun k => ?_) ih
          simp only [trishawlaw02_JamTried.j3]
          rw [if_pos trivial, if_pos (by omega), if_pos (by omega), if_pos (by omega), if_pos he, wrapN i (by omega)]
        · have hlt : rd b (i : Int) < rd c (i : Int) := by
            rcases hlex hx with e | ⟨j, hj, hag, hlt⟩
            · exact absurd (by rw [e]) he
            · rcases Nat.lt_trichotomy j i with h1 | h1 | h1
              · have := ha j h1; omega
              · subst h1; exact hlt
              · exact absurd (hag i h1) he
          refine Ev.step (fun k => ?_) alive_ev2
          simp only [trishawlaw02_JamTried.j3]
          rw [if_pos trivial, if_pos (by omega), if_pos (by omega), if_pos (by omega), if_neg he, if_pos hlt]
      refine Ev.step (fun k => ?_) hj
      simp only [trishawlaw02_JamTried.l0]
      rw [if_pos (by omega), show (x12 == x6) = true by simp [hx]]
    · have hj : Ev (fun k => trishawlaw02_JamTried.j3 k c b x6 x12 (i : Int) false) true := Ev.step (fun k => by simp only [trishawlaw02_JamTried.j3]; rw [if_neg (by simp)]) alive_ev2
      refine Ev.step (fun k => ?_) hj
      simp only [trishawlaw02_JamTried.l0]
      rw [if_pos (by omega), show (x12 == x6) = false by simp [hx]]
theorem tried_ev (R T : List (List Int)) (c : List Int) : Ev (fun k => trishawlaw02_JamTried.f k R T c) true := by
  unfold trishawlaw02_JamTried.f
  have hj : Ev (fun k => trishawlaw02_JamTried.j0 k c true R T) true := Ev.step (fun k => by simp only [trishawlaw02_JamTried.j0]; rw [if_pos trivial]) alive_ev2
  obtain ⟨b1, e1, i1⟩ := few_ev R T c
  refine Ev.bind e1 ?_
  cases b1 with
  | false => exact Ev.congr (fun k => if_neg (by simp)) hj
  | true =>
    refine Ev.congr (fun k => if_pos rfl) ?_
    have hf := i1.1 rfl
    obtain ⟨b2, e2, i2⟩ := isGame_ev R T
    refine Ev.bind e2 ?_
    cases b2 with
    | false => exact Ev.congr (fun k => if_neg (by simp)) hj
    | true =>
      refine Ev.congr (fun k => if_pos rfl) ?_
      have g := i2.1 rfl
      obtain ⟨b3, e3, i3⟩ := isChoice_ev R T c hf.r
      refine Ev.bind e3 ?_
      cases b3 with
      | false => exact hj
      | true =>
        have hc := i3.1 rfl
        obtain ⟨b, hb, eb, hmin⟩ := best_ev g
        have hm := hmin c hc
        have hl := tried_l0 g.r5 c b hc.len hb.len (tot R T b) (tot R T c) (fun e => hm.2 e.symm) R.length 0 (by omega) (fun j hj => absurd hj (by omega))
        have hj1 : Ev (fun k => trishawlaw02_JamTried.j1 k c b (tot R T b) (tot R T c) false) true := Ev.step (fun k => by simp only [trishawlaw02_JamTried.j1]; rw [if_neg (by simp)]; rfl) hl
        have hfin := Ev.bind (f := fun k (bt106 : List Int × Int × Int) => ((jam_Costs.f k R T bt106.1).bind fun bt111 => ((jam_Costs.f k R T c).bind fun bt116 => (if bt106.2.2 = 0 then (if bt111.2.2 = 0 then (if bt116.2.2 = 0 then (if bt106.2.1 = bt111.2.1 then (if bt116.2.1 < bt106.2.1 then (trishawlaw02_JamTried.j1 k c bt106.1 bt106.2.1 bt116.2.1 true) else (trishawlaw02_JamTried.j1 k c bt106.1 bt106.2.1 bt116.2.1 ((bt106.1.length : Int) != (c.length : Int)))) else (trishawlaw02_JamTried.j1 k c bt106.1 bt106.2.1 bt116.2.1 true)) else (trishawlaw02_JamTried.j1 k c bt106.1 bt106.2.1 bt116.2.1 true)) else (trishawlaw02_JamTried.j1 k c bt106.1 bt106.2.1 bt116.2.1 true)) else (trishawlaw02_JamTried.j1 k c bt106.1 bt106.2.1 bt116.2.1 true)))))
          eb (Ev.bind (jcosts_ev g hb) (Ev.bind (jcosts_ev g hc) (Ev.congr (fun k => by
            rw [if_pos rfl, if_pos rfl, if_pos rfl, if_pos rfl, if_neg (by have := hm.1; show ¬ tot R T c < tot R T b; omega), show ((b.length : Int) != (c.length : Int)) = false by rw [hb.len, hc.len]; simp]) hj1)))
        refine Ev.step (fun k => ?_) hfin
        simp only [trishawlaw02_JamTried.j0]
        rw [if_neg (by simp)]
end Go.Proofs.Ytjgbdicbdlollaa.B
namespace Go.Proofs.Ytjgbdicbdlollaa.Pure
open Go.RowKit Go.Proofs.Ytjgbdicbdlollaa.B Go.Proofs.YtjgbdicbdlollaaW.PrintWords Go.Proofs.YtjgbdicbdlollaaW.PrintLast Go.Proofs.YtjgbdicbdlollaaW.PrintMore
theorem JamTried : trishawlaw02_JamTried.Pure := fun l0_0 l0_1 l1 _ _ _ _ => (tried_ev l0_0 l0_1 l1).rounds
end Go.Proofs.Ytjgbdicbdlollaa.Pure
