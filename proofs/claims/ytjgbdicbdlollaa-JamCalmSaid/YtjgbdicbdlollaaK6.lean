/- Texts behind the row of JamCalm, part 6: contracts of the functions it reaches, words that their walks use, and lemmas in plain Lean. -/
import Derived.Below
import Derived.Deep.Draws
import Derived.Deep.AppendLies
import Derived.Maps.AppendAt
import Derived.OwnWalk
import Derived.Laws.BytesArg
import Derived.Laws.MakeOwn
import Derived.Laws.OwnMore
import Derived.Deep.OwnRows
import Derived.Tactics
import Derived.Lib.ConvBytes
import Derived.Laws.Slices
import Derived.WalkKit
import Derived.KernelRfl
import Derived.RowKit3
import Derived.Deep.LoopGhost
import Derived.Deep.QuietTactic
import Derived.BigQuiet
import Derived.WideLaws
import Derived.Deep.DeepCutAuto
import Derived.Deep.CutBlock
import Derived.Deep.RegionHeld3
import Derived.Laws.Rows
import Derived.Lib.AppendStr
import Derived.ArgAppend
import Derived.Laws.IdiomCopy
import Derived.RowKit
import Derived.OrdersHeld
import Derived.Laws.BitsLemmas
import Derived.Laws.StructEq
import Derived.Test.YtjgbdicbdlollaaProg
import Derived.WalkSpells
import Derived.MapKept
import Derived.Maps.RangeWalk
import Derived.Shelf.SlSortCmp.SmallK
import Derived.Ground.SlsfProg
import Derived.Deep.Slices
import Derived.Deep.Fields
import Derived.ChangeSame
import Derived.ChangeSlices
import Derived.Sort.LotA
import Derived.Test.YtjgbdicbdlollaaK1
import Derived.Test.YtjgbdicbdlollaaK2
import Derived.Test.YtjgbdicbdlollaaK3
import Derived.Test.YtjgbdicbdlollaaK4
import Derived.Test.YtjgbdicbdlollaaK5
namespace Go.Proofs.Ytjgbdicbdlollaa.B
open Go.RowKit Go.Proofs.YtjgbdicbdlollaaW.PrintWords Go.Proofs.YtjgbdicbdlollaaW.PrintLast Go.Proofs.YtjgbdicbdlollaaW.PrintMore
attribute [local go_sem] max2_int min2_int max_two min_two max_three min_three max_four min_four   -- for this text's walks alone
set_option linter.unusedVariables false
set_option linter.unusedSimpArgs false
mutual
def trishawlaw02_JamCalm.j0 : Nat → List Int → Bool → List (List Int) → List (List Int) → Option (Bool)
  | 0, _, _, _, _ => none
  | k + 1, x1, x42, x102000, x102001 => if x42 = true then ((trishawlaw02_alive.f k).bind fun t105 => (some t105)) else ((jam_Settled.f k x102000 x102001).bind fun bt106 => ((jam_Settle.f k x102000 x102001 x1).bind fun bt110 => ((jam_Step.f k x102000 x102001 x1).bind fun bt115 => (if bt106.2 = 0 then (if bt110.2.2 = 0 then (if (bt106.1.length : Int) = 0 then (trishawlaw02_JamCalm.j1 k x1 bt106.1 bt110.1 bt110.2.1 bt115.1 bt115.2 true x102000 x102001) else (if bt110.2.1 < 0 then (trishawlaw02_JamCalm.j1 k x1 bt106.1 bt110.1 bt110.2.1 bt115.1 bt115.2 true x102000 x102001) else (if ((bt110.2.1 == 0) != (bt115.2 == 10)) = true then (trishawlaw02_JamCalm.j1 k x1 bt106.1 bt110.1 bt110.2.1 bt115.1 bt115.2 true x102000 x102001) else (if bt115.2 = 0 then (trishawlaw02_JamCalm.j1 k x1 bt106.1 bt110.1 bt110.2.1 bt115.1 bt115.2 false x102000 x102001) else (trishawlaw02_JamCalm.j1 k x1 bt106.1 bt110.1 bt110.2.1 bt115.1 bt115.2 (bt115.2 != 10) x102000 x102001))))) else (trishawlaw02_JamCalm.j1 k x1 bt106.1 bt110.1 bt110.2.1 bt115.1 bt115.2 true x102000 x102001)) else (trishawlaw02_JamCalm.j1 k x1 bt106.1 bt110.1 bt110.2.1 bt115.1 bt115.2 true x102000 x102001)))))
def trishawlaw02_JamCalm.j1 : Nat → List Int → List (List Int) → List Int → Int → List Int → Int → Bool → List (List Int) → List (List Int) → Option (Bool)
  | 0, _, _, _, _, _, _, _, _, _ => none
  | k + 1, x1, x5, x7, x8, x10, x11, x91, x102000, x102001 => if x91 = true then (some false) else ((jam_Potential.f k x102000 x102001 x1).bind fun bt119 => (if x11 = 0 then ((jam_Potential.f k x102000 x102001 x10).bind fun bt121 => (if bt119.2 = 0 then (if bt121.2 = 0 then (if bt121.1 ≥ bt119.1 then (some false) else (trishawlaw02_JamCalm.j2 k x1 x5 x7 x8 bt119.1 x102000 x102001)) else (some false)) else (some false))) else (trishawlaw02_JamCalm.j2 k x1 x5 x7 x8 bt119.1 x102000 x102001)))
def trishawlaw02_JamCalm.j2 : Nat → List Int → List (List Int) → List Int → Int → Int → List (List Int) → List (List Int) → Option (Bool)
  | 0, _, _, _, _, _, _, _ => none
  | k + 1, x1, x5, x7, x8, x12, x102000, x102001 => trishawlaw02_JamCalm.l0 k x1 x5 x7 x8 false false x12 0 x102000 x102001
def trishawlaw02_JamCalm.l0 : Nat → List Int → List (List Int) → List Int → Int → Bool → Bool → Int → Int → List (List Int) → List (List Int) → Option (Bool)
  | 0, _, _, _, _, _, _, _, _, _, _ => none
  | k + 1, x1, x5, x7, x8, x16, x17, x18, x19, x102000, x102001 => if x19 < (x5.length : Int) then (if x16 = true then (trishawlaw02_JamCalm.j4 k x1 x5 x7 x8 true x17 x18 x19 x102000 x102001) else (if 0 ≤ x19 then ((trishawlaw02_same.f k (rd_L12 x5 x19) x7).bind fun t124 => (trishawlaw02_JamCalm.j4 k x1 x5 x7 x8 t124 x17 x18 x19 x102000 x102001)) else (none))) else (trishawlaw02_JamCalm.l1 k x5 x8 x16 x17 x18 false 0 x102000 x102001)
def trishawlaw02_JamCalm.j4 : Nat → List Int → List (List Int) → List Int → Int → Bool → Bool → Int → Int → List (List Int) → List (List Int) → Option (Bool)
  | 0, _, _, _, _, _, _, _, _, _, _ => none
  | k + 1, x1, x5, x7, x8, x16, x17, x18, x19, x102000, x102001 => if x17 = true then (trishawlaw02_JamCalm.j5 k x1 x5 x7 x8 x16 true x18 x19 x102000 x102001) else (if 0 ≤ x19 then (if x19 < (x5.length : Int) then ((trishawlaw02_same.f k (rd_L12 x5 x19) x1).bind fun t126 => (trishawlaw02_JamCalm.j5 k x1 x5 x7 x8 x16 t126 x18 x19 x102000 x102001)) else (none)) else (none))
def trishawlaw02_JamCalm.j5 : Nat → List Int → List (List Int) → List Int → Int → Bool → Bool → Int → Int → List (List Int) → List (List Int) → Option (Bool)
  | 0, _, _, _, _, _, _, _, _, _, _ => none
  | k + 1, x1, x5, x7, x8, x16, x17, x18, x19, x102000, x102001 => if 0 ≤ x19 then (if x19 < (x5.length : Int) then ((jam_Potential.f k x102000 x102001 (rd_L12 x5 x19)).bind fun bt128 => ((jam_Step.f k x102000 x102001 (rd_L12 x5 x19)).bind fun bt131 => (if bt128.2 = 0 then (if bt131.2 = 10 then (trishawlaw02_JamCalm.l0 k x1 x5 x7 x8 x16 x17 (mn x18 bt128.1) (wrap64 (x19 + 1)) x102000 x102001) else (some false)) else (some false)))) else (none)) else (none)
def trishawlaw02_JamCalm.l1 : Nat → List (List Int) → Int → Bool → Bool → Int → Bool → Int → List (List Int) → List (List Int) → Option (Bool)
  | 0, _, _, _, _, _, _, _, _, _ => none
  | k + 1, x5, x8, x16, x17, x18, x24, x25, x102000, x102001 => if x25 < (x5.length : Int) then (if 0 ≤ x25 then ((jam_Potential.f k x102000 x102001 (rd_L12 x5 x25)).bind fun bt136 => (if x24 = true then (trishawlaw02_JamCalm.l1 k x5 x8 x16 x17 x18 true (wrap64 (x25 + 1)) x102000 x102001) else (trishawlaw02_JamCalm.l1 k x5 x8 x16 x17 x18 (bt136.1 == x18) (wrap64 (x25 + 1)) x102000 x102001))) else (none)) else (if x16 = true then (if (x17 == (x8 == 0)) = true then (if x24 = true then ((trishawlaw02_alive.f k).bind fun t138 => (some t138)) else (some false)) else (some false)) else (some false))
end
def trishawlaw02_JamCalm.f (k : Nat) (l0_0 : List (List Int)) (l0_1 : List (List Int)) (l1 : List Int) : Option (Bool) := (trishawlaw02_few.f k l0_0 l0_1 l1).bind fun t102 => (if t102 = true then ((trishawref02_IsGame.f k l0_0 l0_1).bind fun t103 => (if t103 = true then ((trishawref02_IsChoice.f k l0_0 l0_1 l1).bind fun t104 => (trishawlaw02_JamCalm.j0 k l1 (!t104) l0_0 l0_1)) else (trishawlaw02_JamCalm.j0 k l1 true l0_0 l0_1))) else (trishawlaw02_JamCalm.j0 k l1 true l0_0 l0_1))
def trishawlaw02_JamCalm.T20 : Bool × List (List Nat × List Nat) := (true, [([], []), ([], []), ([], []), ([1, 2], [1, 2]), ([3], [3]), ([0, 4], [0, 4]), ([5], [5]), ([6], [6]), ([6], [6]), ([7, 5, 0, 1, 2, 3, 4, 5, 6, 7], [7]), ([8, 9, 0, 1, 2, 3, 4, 5, 6, 7, 8, 9], [8])])
def trishawlaw02_JamCalm.B20 : List Nat := [0, 0, 0, 6, 14, 31, 63, 127, 127, 255, 1023]
theorem trishawlaw02_JamCalm.tab20 : rtab .any (opsOf Try.f15 20) = trishawlaw02_JamCalm.T20 := by kernel_rfl
theorem trishawlaw02_JamCalm.bits20 : waitsOk trishawlaw02_JamCalm.T20.2 trishawlaw02_JamCalm.B20 = true := by kernel_rfl
def trishawlaw02_JamCalm.T21 : Bool × List (List Nat × List Nat) := (true, [([], []), ([], []), ([], []), ([1, 2], [1, 2]), ([3], [3]), ([0, 4], [0, 4]), ([5], [5]), ([6], [6]), ([6], [6]), ([7, 5, 0, 1, 2, 3, 4, 5, 6, 7], [7]), ([8, 9, 0, 1, 2, 3, 4, 5, 6, 7, 8, 9], [8])])
def trishawlaw02_JamCalm.B21 : List Nat := [0, 0, 0, 6, 14, 31, 63, 127, 127, 255, 1023]
theorem trishawlaw02_JamCalm.tab21 : rtab .any (opsOf Try.f15 21) = trishawlaw02_JamCalm.T21 := by kernel_rfl
theorem trishawlaw02_JamCalm.bits21 : waitsOk trishawlaw02_JamCalm.T21.2 trishawlaw02_JamCalm.B21 = true := by kernel_rfl
def trishawlaw02_JamCalm.T29 : Bool × List (List Nat × List Nat) := (true, [([], []), ([], []), ([], []), ([1, 2], [1, 2]), ([3], [3]), ([0, 4], [0, 4]), ([5], [5]), ([6], [6]), ([6], [6]), ([7, 5, 0, 1, 2, 3, 4, 5, 6, 7], [7]), ([8, 9, 0, 1, 2, 3, 4, 5, 6, 7, 8, 9], [8])])
def trishawlaw02_JamCalm.B29 : List Nat := [0, 0, 0, 6, 14, 31, 63, 127, 127, 255, 1023]
theorem trishawlaw02_JamCalm.tab29 : rtab .any (opsOf Try.f15 29) = trishawlaw02_JamCalm.T29 := by kernel_rfl
theorem trishawlaw02_JamCalm.bits29 : waitsOk trishawlaw02_JamCalm.T29.2 trishawlaw02_JamCalm.B29 = true := by kernel_rfl
set_option maxHeartbeats 8000000 in
set_option maxRecDepth 100000 in
theorem trishawlaw02_JamCalm.calls (k : Nat) (A0_0 : Option Addr) (c0_0 : Nat) (l0_0 : List (List Int)) (A0_1 : Option Addr) (c0_1 : Nat) (l0_1 : List (List Int)) (A1 : Option Addr) (c1 : Nat) (l1 : List Int) (r : Bool) (w : World) (hr0_0 : Kd.C (Kd.slice 3 (Kd.int .i64)) w A0_0 l0_0.length l0_0) (hc0_0 : l0_0.length ≤ c0_0) (hr0_1 : Kd.C (Kd.slice 3 (Kd.int .i64)) w A0_1 l0_1.length l0_1) (hc0_1 : l0_1.length ≤ c0_1) (hr1 : Kd.C (Kd.int .i64) w A1 l1.length l1) (hc1 : l1.length ≤ c1) (h : trishawlaw02_JamCalm.f k l0_0 l0_1 l1 = some r) (hrt : r = true) :
  Calls Try.prog 15 #[.agg #[.slice A0_0 l0_0.length c0_0, .slice A0_1 l0_1.length c0_1], .slice A1 l1.length c1] w fun e w' => e = .returned (.bool r) ∧ Below w.heap.size w w' := by
 have hu41 := Try.underlying41
 have HR0_0 := Aside0.mk hr0_0
 have HC0_0 := Aside0.mk hc0_0
 clear hr0_0 hc0_0
 have HR0_1 := Aside0.mk hr0_1
 have HC0_1 := Aside0.mk hc0_1
 clear hr0_1 hc0_1
 have HR1 := Aside0.mk hr1
 have HC1 := Aside0.mk hc1
 clear hr1 hc1
 have HB := Aside0.mk (Below.refl w.heap.size w)
 have H : ((trishawlaw02_few.f k l0_0 l0_1 l1).bind fun t102 => (if t102 = true then ((trishawref02_IsGame.f k l0_0 l0_1).bind fun t103 => (if t103 = true then ((trishawref02_IsChoice.f k l0_0 l0_1 l1).bind fun t104 => (trishawlaw02_JamCalm.j0 k l1 (!t104) l0_0 l0_1)) else (trishawlaw02_JamCalm.j0 k l1 true l0_0 l0_1))) else (trishawlaw02_JamCalm.j0 k l1 true l0_0 l0_1))) = some r := h
 clear h
 have HRT := Aside0.mk hrt
 clear hrt
 have HC3 := Aside0.mk H
 clear H
 go_enter Try.func15, Try.ntmps15
 go_upto_region 1 with (first | ((with_reducible refine gate_dst (N := 2) rfl ?_); (try (refine gate_guard (by rfl) ?_; dsimp only)); refine box_event ?hg (N := 2) ?hd (cs := #[.slice A0_0 l0_0.length c0_0, .slice A0_1 l0_1.length c0_1]) (t := 41) ?hr ?_; (case hd => rfl); (case hg => rfl); (case hr => first | (go_simp; done) | (go_simp; rfl)); intro gb101 hg w4 hbox hb; have n0_ := Aside0.mk (below_step (by repeat (first | (with_reducible first | exact HB.out | apply below_alloc | apply pw_below_drewN | apply below_drew1) | exact HB.out)) hb); have n1_ := Aside0.mk (hbox); have n2_ := Aside0.mk ((by rw [hg]; exact (below_size (by repeat (first | (with_reducible first | exact HB.out | apply below_alloc | apply pw_below_drewN | apply below_drew1) | exact HB.out))) : w.heap.size ≤ gb101)); have n3_ := Aside0.mk ((by rw [hg]; exact (below_size (by repeat (first | (with_reducible first | exact HB.out | apply below_alloc | apply pw_below_drewN | apply below_drew1) | exact HB.out))) : w.heap.size ≤ gb101)); clear HB; have HB := n0_; have BK101 := n1_; have GW101 := n2_; have GE101 := n3_; clear n0_ n1_ n2_ n3_; clear hb hbox hg))
 (try simp only [Act.put, List.setIfInBounds_toArray, List.set_cons_zero, List.set_cons_succ])
 go_cut [42] (fun v42 wc => ∃ (kq : Nat) (x42_2 : Bool), v42 = .bool x42_2 ∧ Aside0 (trishawlaw02_JamCalm.j0 kq l1 x42_2 l0_0 l0_1 = some r) ∧ Aside0 (kq ≤ k) ∧ Aside0 (wc.heap[gb101]? = some (.cells #[(.slice A0_0 l0_0.length c0_0), (.slice A0_1 l0_1.length c0_1)] 41 (0, 0))) ∧ Aside0 (Below w.heap.size w wc))
 case first =>
  have H := HC3.out
  clear HC3
  replace H := Option.bind_eq_some_iff.mp H
  obtain ⟨t102, A50, H⟩ := H
  replace H : (if t102 = true then ((trishawref02_IsGame.f k l0_0 l0_1).bind fun t103 => (if t103 = true then ((trishawref02_IsChoice.f k l0_0 l0_1 l1).bind fun t104 => (trishawlaw02_JamCalm.j0 k l1 (!t104) l0_0 l0_1)) else (trishawlaw02_JamCalm.j0 k l1 true l0_0 l0_1))) else (trishawlaw02_JamCalm.j0 k l1 true l0_0 l0_1)) = some r := H
  have A5 := Aside0.mk A50
  clear A50
  by_cases c6 : t102 = true
  ·subst c6
   have H1 : ((trishawref02_IsGame.f k l0_0 l0_1).bind fun t103 => (if t103 = true then ((trishawref02_IsChoice.f k l0_0 l0_1 l1).bind fun t104 => (trishawlaw02_JamCalm.j0 k l1 (!t104) l0_0 l0_1)) else (trishawlaw02_JamCalm.j0 k l1 true l0_0 l0_1))) = some r := by rw [if_pos rfl] at H; exact H
   clear H
   have H := H1
   clear H1
   replace H := Option.bind_eq_some_iff.mp H
   obtain ⟨t103, A70, H⟩ := H
   replace H : (if t103 = true then ((trishawref02_IsChoice.f k l0_0 l0_1 l1).bind fun t104 => (trishawlaw02_JamCalm.j0 k l1 (!t104) l0_0 l0_1)) else (trishawlaw02_JamCalm.j0 k l1 true l0_0 l0_1)) = some r := H
   have A7 := Aside0.mk A70
   clear A70
   by_cases c8 : t103 = true
   ·subst c8
    have H1 : ((trishawref02_IsChoice.f k l0_0 l0_1 l1).bind fun t104 => (trishawlaw02_JamCalm.j0 k l1 (!t104) l0_0 l0_1)) = some r := by rw [if_pos rfl] at H; exact H
    clear H
    have H := H1
    clear H1
    replace H := Option.bind_eq_some_iff.mp H
    obtain ⟨t104, A90, H⟩ := H
    replace H : (trishawlaw02_JamCalm.j0 k l1 (!t104) l0_0 l0_1) = some r := H
    have A9 := Aside0.mk A90
    clear A90
    have H' := Aside0.mk H
    clear H
    have hcz10_0 : w4.cell? ⟨gb101, 0, none⟩ = some (.slice A0_0 l0_0.length c0_0) := (blk_cell BK101.out 0).trans rfl
    have hcz10_1 : w4.cell? ⟨gb101, 1, none⟩ = some (.slice A0_1 l0_1.length c0_1) := (blk_cell BK101.out 1).trans rfl
    have hfz10_0 := blk_frozen BK101.out 0
    have hfz10_1 := blk_frozen BK101.out 1
    go_wp2_with (first | ((with_reducible refine gate_callee (f := 24) rfl ?_); refine goesL_ (some 30) rfl rfl Try.func24 (by kernel_rfl) rfl #[.agg #[.slice A0_0 l0_0.length c0_0, .slice A0_1 l0_1.length c0_1], .slice A1 l1.length c1] rfl (by (try simp only [List.map_toArray, List.map_cons, List.map_nil]); first | done | rfl | (simp only [List.length_drop, List.length_take]; rfl)) ?_; (with_reducible refine (trishawlaw02_few.calls k _ _ l0_0 _ _ l0_1 _ _ l1 true _ ?side1 ?side2 ?side3 ?side4 ?side5 ?side6 A5.out).mono ?_); (case side1 => repeat (first | exact (Kd.C_below HR0_0.out HB.out) | (with_reducible refine Kd.C_alloc ?_ _) | (with_reducible refine Kd.C_drewN ?_ _) | (with_reducible refine Kd.C_drew ?_))); (case side2 => exact HC0_0.out); (case side3 => repeat (first | exact (Kd.C_below HR0_1.out HB.out) | (with_reducible refine Kd.C_alloc ?_ _) | (with_reducible refine Kd.C_drewN ?_ _) | (with_reducible refine Kd.C_drew ?_))); (case side4 => exact HC0_1.out); (case side5 => repeat (first | exact (Kd.C_below HR1.out HB.out) | (with_reducible refine Kd.C_alloc ?_ _) | (with_reducible refine Kd.C_drewN ?_ _) | (with_reducible refine Kd.C_drew ?_))); (case side6 => exact HC1.out); rintro e w11 ⟨rfl, hb⟩; refine ⟨_, rfl, ?_⟩; have n0_ := Aside0.mk (blk_below (g := gb101) (o := .cells #[.slice A0_0 l0_0.length c0_0, .slice A0_1 l0_1.length c0_1] 41 (0, 0)) (by (with_reducible repeat (first | refine blk_drewN ?_ _ | refine blk_drew ?_ | refine blk_alloc ?_ _)); exact BK101.out) hb); have n1_ := Aside0.mk (below_step (by repeat (first | (with_reducible first | exact HB.out | apply below_alloc | apply pw_below_drewN | apply below_drew1 | refine below_set ?_ GE101.out) | exact HB.out)) hb); clear BK101; clear HB; have BK101 := n0_; have HB := n1_; clear n0_ n1_; (try clear hb); (try clear hb2); (try clear hk); (try clear hi); have hcz12_0 : w11.cell? ⟨gb101, 0, none⟩ = some (.slice A0_0 l0_0.length c0_0) := (blk_cell BK101.out 0).trans rfl; have hcz12_1 : w11.cell? ⟨gb101, 1, none⟩ = some (.slice A0_1 l0_1.length c0_1) := (blk_cell BK101.out 1).trans rfl; have hfz12_0 := blk_frozen BK101.out 0; have hfz12_1 := blk_frozen BK101.out 1) | (go_at_call 25; (with_reducible refine (trishawref02_IsGame.calls k _ _ l0_0 _ _ l0_1 true _ ?side1 ?side2 ?side3 ?side4 A7.out).mono ?_); (case side1 => repeat (first | exact (Kd.C_below HR0_0.out HB.out) | (with_reducible refine Kd.C_alloc ?_ _) | (with_reducible refine Kd.C_drewN ?_ _) | (with_reducible refine Kd.C_drew ?_))); (case side2 => exact HC0_0.out); (case side3 => repeat (first | exact (Kd.C_below HR0_1.out HB.out) | (with_reducible refine Kd.C_alloc ?_ _) | (with_reducible refine Kd.C_drewN ?_ _) | (with_reducible refine Kd.C_drew ?_))); (case side4 => exact HC0_1.out); rintro e w13 ⟨rfl, hb⟩; have n0_ := Aside0.mk (blk_below (g := gb101) (o := .cells #[.slice A0_0 l0_0.length c0_0, .slice A0_1 l0_1.length c0_1] 41 (0, 0)) (by (with_reducible repeat (first | refine blk_drewN ?_ _ | refine blk_drew ?_ | refine blk_alloc ?_ _)); exact BK101.out) hb); have n1_ := Aside0.mk (below_step (by repeat (first | (with_reducible first | exact HB.out | apply below_alloc | apply pw_below_drewN | apply below_drew1 | refine below_set ?_ GE101.out) | exact HB.out)) hb); clear BK101; clear HB; have BK101 := n0_; have HB := n1_; clear n0_ n1_; (try clear hb); (try clear hb2); (try clear hk); (try clear hi); have hcz14_0 : w13.cell? ⟨gb101, 0, none⟩ = some (.slice A0_0 l0_0.length c0_0) := (blk_cell BK101.out 0).trans rfl; have hcz14_1 : w13.cell? ⟨gb101, 1, none⟩ = some (.slice A0_1 l0_1.length c0_1) := (blk_cell BK101.out 1).trans rfl; have hfz14_0 := blk_frozen BK101.out 0; have hfz14_1 := blk_frozen BK101.out 1) | (go_at_call 26; (with_reducible refine (trishawref02_IsChoice.calls k _ _ l0_0 _ _ l0_1 _ _ l1 t104 _ ?side1 ?side2 ?side3 ?side4 ?side5 ?side6 A9.out).mono ?_); (case side1 => repeat (first | exact (Kd.C_below HR0_0.out HB.out) | (with_reducible refine Kd.C_alloc ?_ _) | (with_reducible refine Kd.C_drewN ?_ _) | (with_reducible refine Kd.C_drew ?_))); (case side2 => exact HC0_0.out); (case side3 => repeat (first | exact (Kd.C_below HR0_1.out HB.out) | (with_reducible refine Kd.C_alloc ?_ _) | (with_reducible refine Kd.C_drewN ?_ _) | (with_reducible refine Kd.C_drew ?_))); (case side4 => exact HC0_1.out); (case side5 => repeat (first | exact (Kd.C_below HR1.out HB.out) | (with_reducible refine Kd.C_alloc ?_ _) | (with_reducible refine Kd.C_drewN ?_ _) | (with_reducible refine Kd.C_drew ?_))); (case side6 => exact HC1.out); rintro e w15 ⟨rfl, hb⟩; have n0_ := Aside0.mk (blk_below (g := gb101) (o := .cells #[.slice A0_0 l0_0.length c0_0, .slice A0_1 l0_1.length c0_1] 41 (0, 0)) (by (with_reducible repeat (first | refine blk_drewN ?_ _ | refine blk_drew ?_ | refine blk_alloc ?_ _)); exact BK101.out) hb); have n1_ := Aside0.mk (below_step (by repeat (first | (with_reducible first | exact HB.out | apply below_alloc | apply pw_below_drewN | apply below_drew1 | refine below_set ?_ GE101.out) | exact HB.out)) hb); clear BK101; clear HB; have BK101 := n0_; have HB := n1_; clear n0_ n1_; (try clear hb); (try clear hb2); (try clear hk); (try clear hi)))
    go_meet
    case rel => exact ⟨_, (!t104), (by first | rfl | (simp; done) | (simp [*]; done)), H', ⟨by first | omega | exact Nat.le_refl _⟩, ⟨by (with_reducible repeat (first | refine blk_drewN ?_ _ | refine blk_drew ?_ | refine blk_alloc ?_ _)); exact BK101.out⟩, ⟨by repeat (first | (with_reducible first | exact HB.out | apply below_alloc | apply pw_below_drewN | apply below_drew1 | refine below_set ?_ GE101.out) | exact HB.out)⟩⟩
   ·replace c8 := Bool.eq_false_iff.mpr c8
    subst c8
    have H1 : (trishawlaw02_JamCalm.j0 k l1 true l0_0 l0_1) = some r := by rw [if_neg (show ¬ (false = true) by decide)] at H; exact H
    clear H
    have H := H1
    clear H1
    have H' := Aside0.mk H
    clear H
    have hcz16_0 : w4.cell? ⟨gb101, 0, none⟩ = some (.slice A0_0 l0_0.length c0_0) := (blk_cell BK101.out 0).trans rfl
    have hcz16_1 : w4.cell? ⟨gb101, 1, none⟩ = some (.slice A0_1 l0_1.length c0_1) := (blk_cell BK101.out 1).trans rfl
    have hfz16_0 := blk_frozen BK101.out 0
    have hfz16_1 := blk_frozen BK101.out 1
    go_wp2_with (first | ((with_reducible refine gate_callee (f := 24) rfl ?_); refine goesL_ (some 30) rfl rfl Try.func24 (by kernel_rfl) rfl #[.agg #[.slice A0_0 l0_0.length c0_0, .slice A0_1 l0_1.length c0_1], .slice A1 l1.length c1] rfl (by (try simp only [List.map_toArray, List.map_cons, List.map_nil]); first | done | rfl | (simp only [List.length_drop, List.length_take]; rfl)) ?_; (with_reducible refine (trishawlaw02_few.calls k _ _ l0_0 _ _ l0_1 _ _ l1 true _ ?side1 ?side2 ?side3 ?side4 ?side5 ?side6 A5.out).mono ?_); (case side1 => repeat (first | exact (Kd.C_below HR0_0.out HB.out) | (with_reducible refine Kd.C_alloc ?_ _) | (with_reducible refine Kd.C_drewN ?_ _) | (with_reducible refine Kd.C_drew ?_))); (case side2 => exact HC0_0.out); (case side3 => repeat (first | exact (Kd.C_below HR0_1.out HB.out) | (with_reducible refine Kd.C_alloc ?_ _) | (with_reducible refine Kd.C_drewN ?_ _) | (with_reducible refine Kd.C_drew ?_))); (case side4 => exact HC0_1.out); (case side5 => repeat (first | exact (Kd.C_below HR1.out HB.out) | (with_reducible refine Kd.C_alloc ?_ _) | (with_reducible refine Kd.C_drewN ?_ _) | (with_reducible refine Kd.C_drew ?_))); (case side6 => exact HC1.out); rintro e w17 ⟨rfl, hb⟩; refine ⟨_, rfl, ?_⟩; have n0_ := Aside0.mk (blk_below (g := gb101) (o := .cells #[.slice A0_0 l0_0.length c0_0, .slice A0_1 l0_1.length c0_1] 41 (0, 0)) (by (with_reducible repeat (first | refine blk_drewN ?_ _ | refine blk_drew ?_ | refine blk_alloc ?_ _)); exact BK101.out) hb); have n1_ := Aside0.mk (below_step (by repeat (first | (with_reducible first | exact HB.out | apply below_alloc | apply pw_below_drewN | apply below_drew1 | refine below_set ?_ GE101.out) | exact HB.out)) hb); clear BK101; clear HB; have BK101 := n0_; have HB := n1_; clear n0_ n1_; (try clear hb); (try clear hb2); (try clear hk); (try clear hi); have hcz18_0 : w17.cell? ⟨gb101, 0, none⟩ = some (.slice A0_0 l0_0.length c0_0) := (blk_cell BK101.out 0).trans rfl; have hcz18_1 : w17.cell? ⟨gb101, 1, none⟩ = some (.slice A0_1 l0_1.length c0_1) := (blk_cell BK101.out 1).trans rfl; have hfz18_0 := blk_frozen BK101.out 0; have hfz18_1 := blk_frozen BK101.out 1) | (go_at_call 25; (with_reducible refine (trishawref02_IsGame.calls k _ _ l0_0 _ _ l0_1 false _ ?side1 ?side2 ?side3 ?side4 A7.out).mono ?_); (case side1 => repeat (first | exact (Kd.C_below HR0_0.out HB.out) | (with_reducible refine Kd.C_alloc ?_ _) | (with_reducible refine Kd.C_drewN ?_ _) | (with_reducible refine Kd.C_drew ?_))); (case side2 => exact HC0_0.out); (case side3 => repeat (first | exact (Kd.C_below HR0_1.out HB.out) | (with_reducible refine Kd.C_alloc ?_ _) | (with_reducible refine Kd.C_drewN ?_ _) | (with_reducible refine Kd.C_drew ?_))); (case side4 => exact HC0_1.out); rintro e w19 ⟨rfl, hb⟩; have n0_ := Aside0.mk (blk_below (g := gb101) (o := .cells #[.slice A0_0 l0_0.length c0_0, .slice A0_1 l0_1.length c0_1] 41 (0, 0)) (by (with_reducible repeat (first | refine blk_drewN ?_ _ | refine blk_drew ?_ | refine blk_alloc ?_ _)); exact BK101.out) hb); have n1_ := Aside0.mk (below_step (by repeat (first | (with_reducible first | exact HB.out | apply below_alloc | apply pw_below_drewN | apply below_drew1 | refine below_set ?_ GE101.out) | exact HB.out)) hb); clear BK101; clear HB; have BK101 := n0_; have HB := n1_; clear n0_ n1_; (try clear hb); (try clear hb2); (try clear hk); (try clear hi)))
    go_meet
    case rel => exact ⟨_, (true), (by first | rfl | (simp; done) | (simp [*]; done)), H', ⟨by first | omega | exact Nat.le_refl _⟩, ⟨by (with_reducible repeat (first | refine blk_drewN ?_ _ | refine blk_drew ?_ | refine blk_alloc ?_ _)); exact BK101.out⟩, ⟨by repeat (first | (with_reducible first | exact HB.out | apply below_alloc | apply pw_below_drewN | apply below_drew1 | refine below_set ?_ GE101.out) | exact HB.out)⟩⟩
  ·replace c6 := Bool.eq_false_iff.mpr c6
   subst c6
   have H1 : (trishawlaw02_JamCalm.j0 k l1 true l0_0 l0_1) = some r := by rw [if_neg (show ¬ (false = true) by decide)] at H; exact H
   clear H
   have H := H1
   clear H1
   have H' := Aside0.mk H
   clear H
   have hcz20_0 : w4.cell? ⟨gb101, 0, none⟩ = some (.slice A0_0 l0_0.length c0_0) := (blk_cell BK101.out 0).trans rfl
   have hcz20_1 : w4.cell? ⟨gb101, 1, none⟩ = some (.slice A0_1 l0_1.length c0_1) := (blk_cell BK101.out 1).trans rfl
   have hfz20_0 := blk_frozen BK101.out 0
   have hfz20_1 := blk_frozen BK101.out 1
   go_wp2_with (first | ((with_reducible refine gate_callee (f := 24) rfl ?_); refine goesL_ (some 30) rfl rfl Try.func24 (by kernel_rfl) rfl #[.agg #[.slice A0_0 l0_0.length c0_0, .slice A0_1 l0_1.length c0_1], .slice A1 l1.length c1] rfl (by (try simp only [List.map_toArray, List.map_cons, List.map_nil]); first | done | rfl | (simp only [List.length_drop, List.length_take]; rfl)) ?_; (with_reducible refine (trishawlaw02_few.calls k _ _ l0_0 _ _ l0_1 _ _ l1 false _ ?side1 ?side2 ?side3 ?side4 ?side5 ?side6 A5.out).mono ?_); (case side1 => repeat (first | exact (Kd.C_below HR0_0.out HB.out) | (with_reducible refine Kd.C_alloc ?_ _) | (with_reducible refine Kd.C_drewN ?_ _) | (with_reducible refine Kd.C_drew ?_))); (case side2 => exact HC0_0.out); (case side3 => repeat (first | exact (Kd.C_below HR0_1.out HB.out) | (with_reducible refine Kd.C_alloc ?_ _) | (with_reducible refine Kd.C_drewN ?_ _) | (with_reducible refine Kd.C_drew ?_))); (case side4 => exact HC0_1.out); (case side5 => repeat (first | exact (Kd.C_below HR1.out HB.out) | (with_reducible refine Kd.C_alloc ?_ _) | (with_reducible refine Kd.C_drewN ?_ _) | (with_reducible refine Kd.C_drew ?_))); (case side6 => exact HC1.out); rintro e w21 ⟨rfl, hb⟩; refine ⟨_, rfl, ?_⟩; have n0_ := Aside0.mk (blk_below (g := gb101) (o := .cells #[.slice A0_0 l0_0.length c0_0, .slice A0_1 l0_1.length c0_1] 41 (0, 0)) (by (with_reducible repeat (first | refine blk_drewN ?_ _ | refine blk_drew ?_ | refine blk_alloc ?_ _)); exact BK101.out) hb); have n1_ := Aside0.mk (below_step (by repeat (first | (with_reducible first | exact HB.out | apply below_alloc | apply pw_below_drewN | apply below_drew1 | refine below_set ?_ GE101.out) | exact HB.out)) hb); clear BK101; clear HB; have BK101 := n0_; have HB := n1_; clear n0_ n1_; (try clear hb); (try clear hb2); (try clear hk); (try clear hi)))
   go_meet
   case rel => exact ⟨_, (true), (by first | rfl | (simp; done) | (simp [*]; done)), H', ⟨by first | omega | exact Nat.le_refl _⟩, ⟨by (with_reducible repeat (first | refine blk_drewN ?_ _ | refine blk_drew ?_ | refine blk_alloc ?_ _)); exact BK101.out⟩, ⟨by repeat (first | (with_reducible first | exact HB.out | apply below_alloc | apply pw_below_drewN | apply below_drew1 | refine below_set ?_ GE101.out) | exact HB.out)⟩⟩
 case rest => as_aux_lemma =>
  clear HC3
  try clear c1
  try clear c2
  try clear p2
  try clear c6
  try clear c8
  try clear c15
  try clear hcz10_0
  try clear hcz10_1
  try clear hcz12_0
  try clear hcz12_1
  try clear hcz14_0
  try clear hcz14_1
  try clear hcz16_0
  try clear hcz16_1
  try clear hcz18_0
  try clear hcz18_1
  try clear hcz20_0
  try clear hcz20_1
  try clear hfz10_0
  try clear hfz10_1
  try clear hfz12_0
  try clear hfz12_1
  try clear hfz14_0
  try clear hfz14_1
  try clear hfz16_0
  try clear hfz16_1
  try clear hfz18_0
  try clear hfz18_1
  try clear hfz20_0
  try clear hfz20_1
  obtain ⟨kq, x42_2, rfl, HA, HJ2, BK101, HB⟩ := hcut
  cases kq with
  | zero => exact absurd HA.out (by simp [trishawlaw02_JamCalm.j0])
  | succ kj2 =>
   have H := HA.out
   clear HA
   simp only [trishawlaw02_JamCalm.j0] at H
   by_cases c22 : x42_2 = true
   ·subst c22
    have H1 : ((trishawlaw02_alive.f kj2).bind fun t105 => (some t105)) = some r := by rw [if_pos rfl] at H; exact H
    clear H
    have H := H1
    clear H1
    replace H := Option.bind_eq_some_iff.mp H
    obtain ⟨t105, A230, H⟩ := H
    replace H : (some t105) = some r := H
    have A23 := Aside0.mk A230
    clear A230
    obtain rfl := Option.some.inj H
    go_wp2_with (first | ((with_reducible refine gate_callee (f := 16) rfl ?_); refine goesL_ (some 43) rfl rfl Try.func16 (by kernel_rfl) rfl #[] rfl (by (try simp only [List.map_toArray, List.map_cons, List.map_nil]); first | done | rfl | (simp only [List.length_drop, List.length_take]; rfl)) ?_; (with_reducible refine (trishawlaw02_alive.calls kj2  t105 _ A23.out).mono ?_); rintro e w24 ⟨rfl, hb⟩; refine ⟨_, rfl, ?_⟩; have n0_ := Aside0.mk (blk_below (g := gb101) (o := .cells #[.slice A0_0 l0_0.length c0_0, .slice A0_1 l0_1.length c0_1] 41 (0, 0)) (by (with_reducible repeat (first | refine blk_drewN ?_ _ | refine blk_drew ?_ | refine blk_alloc ?_ _)); exact BK101.out) hb); have n1_ := Aside0.mk (below_step (by repeat (first | (with_reducible first | exact HB.out | apply below_alloc | apply pw_below_drewN | apply below_drew1 | refine below_set ?_ GE101.out) | exact HB.out)) hb); clear BK101; clear HB; have BK101 := n0_; have HB := n1_; clear n0_ n1_; (try clear hb); (try clear hb2); (try clear hk); (try clear hi)))
    go_ret
    exact ⟨by first | rfl | (simp [errW_none, errW_some] <;> rfl) | (simp [*, errW_none, errW_some] <;> rfl), by repeat (first | (with_reducible first | exact HB.out | apply below_alloc | apply pw_below_drewN | apply below_drew1 | refine below_set ?_ GE101.out) | exact HB.out)⟩
   ·replace c22 := Bool.eq_false_iff.mpr c22
    subst c22
    have H1 : ((jam_Settled.f kj2 l0_0 l0_1).bind fun bt106 => ((jam_Settle.f kj2 l0_0 l0_1 l1).bind fun bt110 => ((jam_Step.f kj2 l0_0 l0_1 l1).bind fun bt115 => (if bt106.2 = 0 then (if bt110.2.2 = 0 then (if (bt106.1.length : Int) = 0 then (trishawlaw02_JamCalm.j1 kj2 l1 bt106.1 bt110.1 bt110.2.1 bt115.1 bt115.2 true l0_0 l0_1) else (if bt110.2.1 < 0 then (trishawlaw02_JamCalm.j1 kj2 l1 bt106.1 bt110.1 bt110.2.1 bt115.1 bt115.2 true l0_0 l0_1) else (if ((bt110.2.1 == 0) != (bt115.2 == 10)) = true then (trishawlaw02_JamCalm.j1 kj2 l1 bt106.1 bt110.1 bt110.2.1 bt115.1 bt115.2 true l0_0 l0_1) else (if bt115.2 = 0 then (trishawlaw02_JamCalm.j1 kj2 l1 bt106.1 bt110.1 bt110.2.1 bt115.1 bt115.2 false l0_0 l0_1) else (trishawlaw02_JamCalm.j1 kj2 l1 bt106.1 bt110.1 bt110.2.1 bt115.1 bt115.2 (bt115.2 != 10) l0_0 l0_1))))) else (trishawlaw02_JamCalm.j1 kj2 l1 bt106.1 bt110.1 bt110.2.1 bt115.1 bt115.2 true l0_0 l0_1)) else (trishawlaw02_JamCalm.j1 kj2 l1 bt106.1 bt110.1 bt110.2.1 bt115.1 bt115.2 true l0_0 l0_1))))) = some r := by rw [if_neg (show ¬ (false = true) by decide)] at H; exact H
    clear H
    have H := H1
    clear H1
    replace H := Option.bind_eq_some_iff.mp H
    obtain ⟨⟨t106, t109⟩, A250, H⟩ := H
    replace H : ((jam_Settle.f kj2 l0_0 l0_1 l1).bind fun bt110 => ((jam_Step.f kj2 l0_0 l0_1 l1).bind fun bt115 => (if t109 = 0 then (if bt110.2.2 = 0 then (if (t106.length : Int) = 0 then (trishawlaw02_JamCalm.j1 kj2 l1 t106 bt110.1 bt110.2.1 bt115.1 bt115.2 true l0_0 l0_1) else (if bt110.2.1 < 0 then (trishawlaw02_JamCalm.j1 kj2 l1 t106 bt110.1 bt110.2.1 bt115.1 bt115.2 true l0_0 l0_1) else (if ((bt110.2.1 == 0) != (bt115.2 == 10)) = true then (trishawlaw02_JamCalm.j1 kj2 l1 t106 bt110.1 bt110.2.1 bt115.1 bt115.2 true l0_0 l0_1) else (if bt115.2 = 0 then (trishawlaw02_JamCalm.j1 kj2 l1 t106 bt110.1 bt110.2.1 bt115.1 bt115.2 false l0_0 l0_1) else (trishawlaw02_JamCalm.j1 kj2 l1 t106 bt110.1 bt110.2.1 bt115.1 bt115.2 (bt115.2 != 10) l0_0 l0_1))))) else (trishawlaw02_JamCalm.j1 kj2 l1 t106 bt110.1 bt110.2.1 bt115.1 bt115.2 true l0_0 l0_1)) else (trishawlaw02_JamCalm.j1 kj2 l1 t106 bt110.1 bt110.2.1 bt115.1 bt115.2 true l0_0 l0_1)))) = some r := H
    have A25 := Aside0.mk A250
    clear A250
    replace H := Option.bind_eq_some_iff.mp H
    obtain ⟨⟨t110, t113, t114⟩, A260, H⟩ := H
    replace H : ((jam_Step.f kj2 l0_0 l0_1 l1).bind fun bt115 => (if t109 = 0 then (if t114 = 0 then (if (t106.length : Int) = 0 then (trishawlaw02_JamCalm.j1 kj2 l1 t106 t110 t113 bt115.1 bt115.2 true l0_0 l0_1) else (if t113 < 0 then (trishawlaw02_JamCalm.j1 kj2 l1 t106 t110 t113 bt115.1 bt115.2 true l0_0 l0_1) else (if ((t113 == 0) != (bt115.2 == 10)) = true then (trishawlaw02_JamCalm.j1 kj2 l1 t106 t110 t113 bt115.1 bt115.2 true l0_0 l0_1) else (if bt115.2 = 0 then (trishawlaw02_JamCalm.j1 kj2 l1 t106 t110 t113 bt115.1 bt115.2 false l0_0 l0_1) else (trishawlaw02_JamCalm.j1 kj2 l1 t106 t110 t113 bt115.1 bt115.2 (bt115.2 != 10) l0_0 l0_1))))) else (trishawlaw02_JamCalm.j1 kj2 l1 t106 t110 t113 bt115.1 bt115.2 true l0_0 l0_1)) else (trishawlaw02_JamCalm.j1 kj2 l1 t106 t110 t113 bt115.1 bt115.2 true l0_0 l0_1))) = some r := H
    have A26 := Aside0.mk A260
    clear A260
    replace H := Option.bind_eq_some_iff.mp H
    obtain ⟨⟨t115, t118⟩, A270, H⟩ := H
    replace H : (if t109 = 0 then (if t114 = 0 then (if (t106.length : Int) = 0 then (trishawlaw02_JamCalm.j1 kj2 l1 t106 t110 t113 t115 t118 true l0_0 l0_1) else (if t113 < 0 then (trishawlaw02_JamCalm.j1 kj2 l1 t106 t110 t113 t115 t118 true l0_0 l0_1) else (if ((t113 == 0) != (t118 == 10)) = true then (trishawlaw02_JamCalm.j1 kj2 l1 t106 t110 t113 t115 t118 true l0_0 l0_1) else (if t118 = 0 then (trishawlaw02_JamCalm.j1 kj2 l1 t106 t110 t113 t115 t118 false l0_0 l0_1) else (trishawlaw02_JamCalm.j1 kj2 l1 t106 t110 t113 t115 t118 (t118 != 10) l0_0 l0_1))))) else (trishawlaw02_JamCalm.j1 kj2 l1 t106 t110 t113 t115 t118 true l0_0 l0_1)) else (trishawlaw02_JamCalm.j1 kj2 l1 t106 t110 t113 t115 t118 true l0_0 l0_1)) = some r := H
    have A27 := Aside0.mk A270
    clear A270
    have HC28 := Aside0.mk H
    clear H
    have hcz29_0 : wc.cell? ⟨gb101, 0, none⟩ = some (.slice A0_0 l0_0.length c0_0) := (blk_cell BK101.out 0).trans rfl
    have hcz29_1 : wc.cell? ⟨gb101, 1, none⟩ = some (.slice A0_1 l0_1.length c0_1) := (blk_cell BK101.out 1).trans rfl
    have hfz29_0 := blk_frozen BK101.out 0
    have hfz29_1 := blk_frozen BK101.out 1
    go_upto_region 6 with (first | ((with_reducible refine gate_callee (f := 37) rfl ?_); refine goesL_ (some 46) rfl rfl Try.func37 (by kernel_rfl) rfl #[.agg #[.slice A0_0 l0_0.length c0_0, .slice A0_1 l0_1.length c0_1]] rfl (by (try simp only [List.map_toArray, List.map_cons, List.map_nil]); first | done | rfl | (simp only [List.length_drop, List.length_take]; rfl)) ?_; (with_reducible refine (jam_Settled.calls kj2 _ _ l0_0 _ _ l0_1 t106 t109 _ ?side1 ?side2 ?side3 ?side4 A25.out).mono ?_); (case side1 => repeat (first | exact (Kd.C_below HR0_0.out HB.out) | (with_reducible refine Kd.C_alloc ?_ _) | (with_reducible refine Kd.C_drewN ?_ _) | (with_reducible refine Kd.C_drew ?_))); (case side2 => exact HC0_0.out); (case side3 => repeat (first | exact (Kd.C_below HR0_1.out HB.out) | (with_reducible refine Kd.C_alloc ?_ _) | (with_reducible refine Kd.C_drewN ?_ _) | (with_reducible refine Kd.C_drew ?_))); (case side4 => exact HC0_1.out); rintro e w30 ⟨v107, rfl, ho0, hb⟩; refine ⟨_, rfl, ?_⟩; have n0_ := Aside0.mk (Kd.R_lower ho0 (below_size (by repeat (first | (with_reducible first | exact HB.out | apply below_alloc | apply pw_below_drewN | apply below_drew1 | refine below_set ?_ GE101.out) | exact HB.out)))); have n1_ := Aside0.mk (blk_below (g := gb101) (o := .cells #[.slice A0_0 l0_0.length c0_0, .slice A0_1 l0_1.length c0_1] 41 (0, 0)) (by (with_reducible repeat (first | refine blk_drewN ?_ _ | refine blk_drew ?_ | refine blk_alloc ?_ _)); exact BK101.out) hb); have n2_ := Aside0.mk (below_step (by repeat (first | (with_reducible first | exact HB.out | apply below_alloc | apply pw_below_drewN | apply below_drew1 | refine below_set ?_ GE101.out) | exact HB.out)) hb); clear BK101; clear HB; have HO108 := n0_; have BK101 := n1_; have HB := n2_; clear n0_ n1_ n2_; (try clear hb); (try clear hb2); (try clear hk); (try clear hi); (try clear ho0); have hcz31_0 : w30.cell? ⟨gb101, 0, none⟩ = some (.slice A0_0 l0_0.length c0_0) := (blk_cell BK101.out 0).trans rfl; have hcz31_1 : w30.cell? ⟨gb101, 1, none⟩ = some (.slice A0_1 l0_1.length c0_1) := (blk_cell BK101.out 1).trans rfl; have hfz31_0 := blk_frozen BK101.out 0; have hfz31_1 := blk_frozen BK101.out 1) | ((with_reducible refine gate_callee (f := 41) rfl ?_); refine goesL_ (some 52) rfl rfl Try.func41 (by kernel_rfl) rfl #[.agg #[.slice A0_0 l0_0.length c0_0, .slice A0_1 l0_1.length c0_1], .slice A1 l1.length c1] rfl (by (try simp only [List.map_toArray, List.map_cons, List.map_nil]); first | done | rfl | (simp only [List.length_drop, List.length_take]; rfl)) ?_; (with_reducible refine (jam_Settle.calls kj2 _ _ l0_0 _ _ l0_1 _ _ l1 t110 t113 t114 _ ?side1 ?side2 ?side3 ?side4 ?side5 ?side6 A26.out).mono ?_); (case side1 => repeat (first | exact (Kd.C_below HR0_0.out HB.out) | (with_reducible refine Kd.C_alloc ?_ _) | (with_reducible refine Kd.C_drewN ?_ _) | (with_reducible refine Kd.C_drew ?_))); (case side2 => exact HC0_0.out); (case side3 => repeat (first | exact (Kd.C_below HR0_1.out HB.out) | (with_reducible refine Kd.C_alloc ?_ _) | (with_reducible refine Kd.C_drewN ?_ _) | (with_reducible refine Kd.C_drew ?_))); (case side4 => exact HC0_1.out); (case side5 => repeat (first | exact (Kd.C_below HR1.out HB.out) | (with_reducible refine Kd.C_alloc ?_ _) | (with_reducible refine Kd.C_drewN ?_ _) | (with_reducible refine Kd.C_drew ?_))); (case side6 => exact HC1.out); rintro e w32 ⟨v111, rfl, ho0, hb⟩; refine ⟨_, rfl, ?_⟩; have n0_ := Aside0.mk (Kd.R_elder' (by (with_reducible repeat (first | apply Kd.R_alloc | apply Kd.R_drewN | apply Kd.R_drew)); exact HO108.out) (Kd.R_base ho0) hb); have n1_ := Aside0.mk (Kd.R_lower ho0 (below_size (by repeat (first | (with_reducible first | exact HB.out | apply below_alloc | apply pw_below_drewN | apply below_drew1 | refine below_set ?_ GE101.out) | exact HB.out)))); have n2_ := Aside0.mk (blk_below (g := gb101) (o := .cells #[.slice A0_0 l0_0.length c0_0, .slice A0_1 l0_1.length c0_1] 41 (0, 0)) (by (with_reducible repeat (first | refine blk_drewN ?_ _ | refine blk_drew ?_ | refine blk_alloc ?_ _)); exact BK101.out) hb); have n3_ := Aside0.mk (below_step (by repeat (first | (with_reducible first | exact HB.out | apply below_alloc | apply pw_below_drewN | apply below_drew1 | refine below_set ?_ GE101.out) | exact HB.out)) hb); clear HO108; clear BK101; clear HB; have HO108 := n0_; have HO112 := n1_; have BK101 := n2_; have HB := n3_; clear n0_ n1_ n2_ n3_; (try clear hb); (try clear hb2); (try clear hk); (try clear hi); (try clear ho0); have hcz33_0 : w32.cell? ⟨gb101, 0, none⟩ = some (.slice A0_0 l0_0.length c0_0) := (blk_cell BK101.out 0).trans rfl; have hcz33_1 : w32.cell? ⟨gb101, 1, none⟩ = some (.slice A0_1 l0_1.length c0_1) := (blk_cell BK101.out 1).trans rfl; have hfz33_0 := blk_frozen BK101.out 0; have hfz33_1 := blk_frozen BK101.out 1) | ((with_reducible refine gate_callee (f := 39) rfl ?_); refine goesL_ (some 59) rfl rfl Try.func39 (by kernel_rfl) rfl #[.agg #[.slice A0_0 l0_0.length c0_0, .slice A0_1 l0_1.length c0_1], .slice A1 l1.length c1] rfl (by (try simp only [List.map_toArray, List.map_cons, List.map_nil]); first | done | rfl | (simp only [List.length_drop, List.length_take]; rfl)) ?_; (with_reducible refine (jam_Step.calls kj2 _ _ l0_0 _ _ l0_1 _ _ l1 t115 t118 _ ?side1 ?side2 ?side3 ?side4 ?side5 ?side6 A27.out).mono ?_); (case side1 => repeat (first | exact (Kd.C_below HR0_0.out HB.out) | (with_reducible refine Kd.C_alloc ?_ _) | (with_reducible refine Kd.C_drewN ?_ _) | (with_reducible refine Kd.C_drew ?_))); (case side2 => exact HC0_0.out); (case side3 => repeat (first | exact (Kd.C_below HR0_1.out HB.out) | (with_reducible refine Kd.C_alloc ?_ _) | (with_reducible refine Kd.C_drewN ?_ _) | (with_reducible refine Kd.C_drew ?_))); (case side4 => exact HC0_1.out); (case side5 => repeat (first | exact (Kd.C_below HR1.out HB.out) | (with_reducible refine Kd.C_alloc ?_ _) | (with_reducible refine Kd.C_drewN ?_ _) | (with_reducible refine Kd.C_drew ?_))); (case side6 => exact HC1.out); rintro e w34 ⟨v116, rfl, ho0, hb⟩; refine ⟨_, rfl, ?_⟩; have n0_ := Aside0.mk (Kd.R_elder' (by (with_reducible repeat (first | apply Kd.R_alloc | apply Kd.R_drewN | apply Kd.R_drew)); exact HO108.out) (Kd.R_base ho0) hb); have n1_ := Aside0.mk (Kd.R_elder' (by (with_reducible repeat (first | apply Kd.R_alloc | apply Kd.R_drewN | apply Kd.R_drew)); exact HO112.out) (Kd.R_base ho0) hb); have n2_ := Aside0.mk (Kd.R_lower (Kd.R_new' ho0 (Kd.R_lt (by (with_reducible repeat (first | apply Kd.R_alloc | apply Kd.R_drewN | apply Kd.R_drew)); exact HO112.out))) (below_size (by repeat (first | (with_reducible first | exact HB.out | apply below_alloc | apply pw_below_drewN | apply below_drew1 | refine below_set ?_ GE101.out) | exact HB.out)))); have n3_ := Aside0.mk (blk_below (g := gb101) (o := .cells #[.slice A0_0 l0_0.length c0_0, .slice A0_1 l0_1.length c0_1] 41 (0, 0)) (by (with_reducible repeat (first | refine blk_drewN ?_ _ | refine blk_drew ?_ | refine blk_alloc ?_ _)); exact BK101.out) hb); have n4_ := Aside0.mk (below_step (by repeat (first | (with_reducible first | exact HB.out | apply below_alloc | apply pw_below_drewN | apply below_drew1 | refine below_set ?_ GE101.out) | exact HB.out)) hb); clear HO108; clear HO112; clear BK101; clear HB; have HO108 := n0_; have HO112 := n1_; have HO117 := n2_; have BK101 := n3_; have HB := n4_; clear n0_ n1_ n2_ n3_ n4_; (try clear hb); (try clear hb2); (try clear hk); (try clear hi); (try clear ho0)))
    (try simp only [Act.put, List.setIfInBounds_toArray, List.set_cons_zero, List.set_cons_succ])
    go_cut [91] (fun v91 wc => ∃ (kq : Nat) (x91_27 : Bool), v91 = .bool x91_27 ∧ Aside0 (trishawlaw02_JamCalm.j1 kq l1 t106 t110 t113 t115 t118 x91_27 l0_0 l0_1 = some r) ∧ Aside0 (kq ≤ kj2) ∧ Aside0 (Kd.R (Kd.slice 3 (Kd.int .i64)) 24 wc w.heap.size (fun k_ => some k_ ≠ (v111 : Value).ownBlock ∧ some k_ ≠ (v116 : Value).ownBlock) v107 t106) ∧ Aside0 (Kd.R (Kd.int .i64) 3 wc w.heap.size (fun k_ => some k_ ≠ (v116 : Value).ownBlock) v111 t110) ∧ Aside0 (Kd.R (Kd.int .i64) 3 wc w.heap.size (fun k_ => some k_ ≠ (v111 : Value).ownBlock) v116 t115) ∧ Aside0 (wc.heap[gb101]? = some (.cells #[(.slice A0_0 l0_0.length c0_0), (.slice A0_1 l0_1.length c0_1)] 41 (0, 0))) ∧ Aside0 (Below w.heap.size w wc))
    case first =>
     have H := HC28.out
     clear HC28
     by_cases c35 : t109 = 0
     ·rw [if_pos c35] at H
      have c35b0 : (t109 == 0) = true := beq_iff_eq.mpr c35
      have c35b1 : (t109 != 0) = false := bne_eq_false_iff_eq.mpr c35
      clear c35
      (first | rw [c35b0] | (simp only [i64_w, i32_w]; rw [c35b0]) | skip)
      by_cases c36 : t114 = 0
      ·rw [if_pos c36] at H
       have c36b0 : (t114 == 0) = true := beq_iff_eq.mpr c36
       have c36b1 : (t114 != 0) = false := bne_eq_false_iff_eq.mpr c36
       clear c36
       by_cases c37 : (t106.length : Int) = 0
       ·rw [if_pos c37] at H
        have c37b0 : ((t106.length : Int) == 0) = true := beq_iff_eq.mpr c37
        have c37b1 : ((t106.length : Int) != 0) = false := bne_eq_false_iff_eq.mpr c37
        clear c37
        have H' := Aside0.mk H
        clear H
        obtain ⟨Ao38, co38, eo38⟩ := Kd.R_slice HO108.out
        subst eo38
        go_wp2
        go_meet
        case rel => exact ⟨_, (true), (by first | rfl | (simp; done) | (simp [*]; done)), H', ⟨by have := HJ2.out; first | omega | exact Nat.le_refl _⟩, ⟨by (with_reducible repeat (first | apply Kd.R_alloc | apply Kd.R_drewN | apply Kd.R_drew)); exact Kd.R_mono HO108.out (fun _ hk => ⟨hk.1.2, hk.2⟩)⟩, ⟨by (with_reducible repeat (first | apply Kd.R_alloc | apply Kd.R_drewN | apply Kd.R_drew)); exact Kd.R_mono HO112.out (fun _ hk => hk.2)⟩, ⟨by (with_reducible repeat (first | apply Kd.R_alloc | apply Kd.R_drewN | apply Kd.R_drew)); exact Kd.R_mono HO117.out (fun _ hk => hk.2)⟩, ⟨by (with_reducible repeat (first | refine blk_drewN ?_ _ | refine blk_drew ?_ | refine blk_alloc ?_ _)); exact BK101.out⟩, ⟨by repeat (first | (with_reducible first | exact HB.out | apply below_alloc | apply pw_below_drewN | apply below_drew1 | refine below_set ?_ GE101.out) | exact HB.out)⟩⟩
       ·rw [if_neg c37] at H
        have c37b0 : ((t106.length : Int) == 0) = false := beq_eq_false_iff_ne.mpr c37
        have c37b1 : ((t106.length : Int) != 0) = true := bne_iff_ne.mpr c37
        have c37b2 : ¬ (t106 = []) := fun h_ => c37 (by rw [h_]; rfl)
        by_cases c39 : t113 < 0
        ·rw [if_pos c39] at H
         have c39b0 : decide (t113 < 0) = true := decide_eq_true c39
         clear c39
         have H' := Aside0.mk H
         clear H
         obtain ⟨Ao40, co40, eo40⟩ := Kd.R_slice HO108.out
         subst eo40
         go_wp2
         go_meet
         case rel => exact ⟨_, (true), (by first | rfl | (simp; done) | (simp [*]; done)), H', ⟨by have := HJ2.out; first | omega | exact Nat.le_refl _⟩, ⟨by (with_reducible repeat (first | apply Kd.R_alloc | apply Kd.R_drewN | apply Kd.R_drew)); exact Kd.R_mono HO108.out (fun _ hk => ⟨hk.1.2, hk.2⟩)⟩, ⟨by (with_reducible repeat (first | apply Kd.R_alloc | apply Kd.R_drewN | apply Kd.R_drew)); exact Kd.R_mono HO112.out (fun _ hk => hk.2)⟩, ⟨by (with_reducible repeat (first | apply Kd.R_alloc | apply Kd.R_drewN | apply Kd.R_drew)); exact Kd.R_mono HO117.out (fun _ hk => hk.2)⟩, ⟨by (with_reducible repeat (first | refine blk_drewN ?_ _ | refine blk_drew ?_ | refine blk_alloc ?_ _)); exact BK101.out⟩, ⟨by repeat (first | (with_reducible first | exact HB.out | apply below_alloc | apply pw_below_drewN | apply below_drew1 | refine below_set ?_ GE101.out) | exact HB.out)⟩⟩
        ·rw [if_neg c39] at H
         have c39b0 : decide (t113 < 0) = false := decide_eq_false c39
         clear c39
         by_cases c41 : ((t113 == 0) != (t118 == 10)) = true
         ·rw [if_pos c41] at H
          have c41b0 : ((t113 == 0) != (t118 == 10)) = true := c41
          (try (have c41b1 : decide ((t113 == 0) = (t118 == 10)) = false := by simpa using c41))
          (try (have c41b2 : ((t113 == 0) == (t118 == 10)) = false := by simpa using c41))
          (try (have c41b3 : ¬ ((t113 == 0) = (t118 == 10)) := by simpa using c41))
          clear c41
          have H' := Aside0.mk H
          clear H
          obtain ⟨Ao42, co42, eo42⟩ := Kd.R_slice HO108.out
          subst eo42
          go_wp2
          go_meet
          case rel => exact ⟨_, (true), (by first | rfl | (simp; done) | (simp [*]; done)), H', ⟨by have := HJ2.out; first | omega | exact Nat.le_refl _⟩, ⟨by (with_reducible repeat (first | apply Kd.R_alloc | apply Kd.R_drewN | apply Kd.R_drew)); exact Kd.R_mono HO108.out (fun _ hk => ⟨hk.1.2, hk.2⟩)⟩, ⟨by (with_reducible repeat (first | apply Kd.R_alloc | apply Kd.R_drewN | apply Kd.R_drew)); exact Kd.R_mono HO112.out (fun _ hk => hk.2)⟩, ⟨by (with_reducible repeat (first | apply Kd.R_alloc | apply Kd.R_drewN | apply Kd.R_drew)); exact Kd.R_mono HO117.out (fun _ hk => hk.2)⟩, ⟨by (with_reducible repeat (first | refine blk_drewN ?_ _ | refine blk_drew ?_ | refine blk_alloc ?_ _)); exact BK101.out⟩, ⟨by repeat (first | (with_reducible first | exact HB.out | apply below_alloc | apply pw_below_drewN | apply below_drew1 | refine below_set ?_ GE101.out) | exact HB.out)⟩⟩
         ·rw [if_neg c41] at H
          have c41b0 : ((t113 == 0) != (t118 == 10)) = false := by simpa using c41
          (try (have c41b1 : decide ((t113 == 0) = (t118 == 10)) = true := by simpa using c41))
          (try (have c41b2 : ((t113 == 0) == (t118 == 10)) = true := by simpa using c41))
          clear c41
          by_cases c43 : t118 = 0
          ·rw [if_pos c43] at H
           have c43b0 : (t118 == 0) = true := beq_iff_eq.mpr c43
           have c43b1 : (t118 != 0) = false := bne_eq_false_iff_eq.mpr c43
           clear c43
           have H' := Aside0.mk H
           clear H
           obtain ⟨Ao44, co44, eo44⟩ := Kd.R_slice HO108.out
           subst eo44
           go_wp2
           go_meet
           case rel => exact ⟨_, (false), (by first | rfl | (simp; done) | (simp [*]; done)), H', ⟨by have := HJ2.out; first | omega | exact Nat.le_refl _⟩, ⟨by (with_reducible repeat (first | apply Kd.R_alloc | apply Kd.R_drewN | apply Kd.R_drew)); exact Kd.R_mono HO108.out (fun _ hk => ⟨hk.1.2, hk.2⟩)⟩, ⟨by (with_reducible repeat (first | apply Kd.R_alloc | apply Kd.R_drewN | apply Kd.R_drew)); exact Kd.R_mono HO112.out (fun _ hk => hk.2)⟩, ⟨by (with_reducible repeat (first | apply Kd.R_alloc | apply Kd.R_drewN | apply Kd.R_drew)); exact Kd.R_mono HO117.out (fun _ hk => hk.2)⟩, ⟨by (with_reducible repeat (first | refine blk_drewN ?_ _ | refine blk_drew ?_ | refine blk_alloc ?_ _)); exact BK101.out⟩, ⟨by repeat (first | (with_reducible first | exact HB.out | apply below_alloc | apply pw_below_drewN | apply below_drew1 | refine below_set ?_ GE101.out) | exact HB.out)⟩⟩
          ·rw [if_neg c43] at H
           have c43b0 : (t118 == 0) = false := beq_eq_false_iff_ne.mpr c43
           have c43b1 : (t118 != 0) = true := bne_iff_ne.mpr c43
           have H' := Aside0.mk H
           clear H
           obtain ⟨Ao45, co45, eo45⟩ := Kd.R_slice HO108.out
           subst eo45
           go_wp2
           go_meet
           case rel => exact ⟨_, ((t118 != 10)), (by first | rfl | (simp; done) | (simp [*]; done)), H', ⟨by have := HJ2.out; first | omega | exact Nat.le_refl _⟩, ⟨by (with_reducible repeat (first | apply Kd.R_alloc | apply Kd.R_drewN | apply Kd.R_drew)); exact Kd.R_mono HO108.out (fun _ hk => ⟨hk.1.2, hk.2⟩)⟩, ⟨by (with_reducible repeat (first | apply Kd.R_alloc | apply Kd.R_drewN | apply Kd.R_drew)); exact Kd.R_mono HO112.out (fun _ hk => hk.2)⟩, ⟨by (with_reducible repeat (first | apply Kd.R_alloc | apply Kd.R_drewN | apply Kd.R_drew)); exact Kd.R_mono HO117.out (fun _ hk => hk.2)⟩, ⟨by (with_reducible repeat (first | refine blk_drewN ?_ _ | refine blk_drew ?_ | refine blk_alloc ?_ _)); exact BK101.out⟩, ⟨by repeat (first | (with_reducible first | exact HB.out | apply below_alloc | apply pw_below_drewN | apply below_drew1 | refine below_set ?_ GE101.out) | exact HB.out)⟩⟩
      ·rw [if_neg c36] at H
       have c36b0 : (t114 == 0) = false := beq_eq_false_iff_ne.mpr c36
       have c36b1 : (t114 != 0) = true := bne_iff_ne.mpr c36
       have H' := Aside0.mk H
       clear H
       go_wp2
       go_meet
       case rel => exact ⟨_, (true), (by first | rfl | (simp; done) | (simp [*]; done)), H', ⟨by have := HJ2.out; first | omega | exact Nat.le_refl _⟩, ⟨by (with_reducible repeat (first | apply Kd.R_alloc | apply Kd.R_drewN | apply Kd.R_drew)); exact Kd.R_mono HO108.out (fun _ hk => ⟨hk.1.2, hk.2⟩)⟩, ⟨by (with_reducible repeat (first | apply Kd.R_alloc | apply Kd.R_drewN | apply Kd.R_drew)); exact Kd.R_mono HO112.out (fun _ hk => hk.2)⟩, ⟨by (with_reducible repeat (first | apply Kd.R_alloc | apply Kd.R_drewN | apply Kd.R_drew)); exact Kd.R_mono HO117.out (fun _ hk => hk.2)⟩, ⟨by (with_reducible repeat (first | refine blk_drewN ?_ _ | refine blk_drew ?_ | refine blk_alloc ?_ _)); exact BK101.out⟩, ⟨by repeat (first | (with_reducible first | exact HB.out | apply below_alloc | apply pw_below_drewN | apply below_drew1 | refine below_set ?_ GE101.out) | exact HB.out)⟩⟩
     ·rw [if_neg c35] at H
      have c35b0 : (t109 == 0) = false := beq_eq_false_iff_ne.mpr c35
      have c35b1 : (t109 != 0) = true := bne_iff_ne.mpr c35
      (first | rw [c35b0] | (simp only [i64_w, i32_w]; rw [c35b0]) | skip)
      have H' := Aside0.mk H
      clear H
      go_wp2
      go_meet
      case rel => exact ⟨_, (true), (by first | rfl | (simp; done) | (simp [*]; done)), H', ⟨by have := HJ2.out; first | omega | exact Nat.le_refl _⟩, ⟨by (with_reducible repeat (first | apply Kd.R_alloc | apply Kd.R_drewN | apply Kd.R_drew)); exact Kd.R_mono HO108.out (fun _ hk => ⟨hk.1.2, hk.2⟩)⟩, ⟨by (with_reducible repeat (first | apply Kd.R_alloc | apply Kd.R_drewN | apply Kd.R_drew)); exact Kd.R_mono HO112.out (fun _ hk => hk.2)⟩, ⟨by (with_reducible repeat (first | apply Kd.R_alloc | apply Kd.R_drewN | apply Kd.R_drew)); exact Kd.R_mono HO117.out (fun _ hk => hk.2)⟩, ⟨by (with_reducible repeat (first | refine blk_drewN ?_ _ | refine blk_drew ?_ | refine blk_alloc ?_ _)); exact BK101.out⟩, ⟨by repeat (first | (with_reducible first | exact HB.out | apply below_alloc | apply pw_below_drewN | apply below_drew1 | refine below_set ?_ GE101.out) | exact HB.out)⟩⟩
    case rest => as_aux_lemma =>
     clear HC28
     try clear c1
     try clear c2
     try clear p2
     try clear c3
     try clear c4
     try clear c6
     try clear c8
     try clear c15
     try clear c16
     try clear c22
     try clear c24
     try clear c35
     try clear c35b0
     try clear c35b1
     try clear c36
     try clear c36b0
     try clear c36b1
     try clear c37
     try clear c37b0
     try clear c37b1
     try clear c37b2
     try clear c39
     try clear c39b0
     try clear c41
     try clear c41b0
     try clear c41b1
     try clear c41b2
     try clear c43
     try clear c43b0
     try clear c43b1
     try clear hcz10_0
     try clear hcz10_1
     try clear hcz12_0
     try clear hcz12_1
     try clear hcz14_0
     try clear hcz14_1
     try clear hcz16_0
     try clear hcz16_1
     try clear hcz18_0
     try clear hcz18_1
     try clear hcz20_0
     try clear hcz20_1
     try clear hcz29_0
     try clear hcz29_1
     try clear hcz31_0
     try clear hcz31_1
     try clear hcz33_0
     try clear hcz33_1
     try clear hfz10_0
     try clear hfz10_1
     try clear hfz12_0
     try clear hfz12_1
     try clear hfz14_0
     try clear hfz14_1
     try clear hfz16_0
     try clear hfz16_1
     try clear hfz18_0
     try clear hfz18_1
     try clear hfz20_0
     try clear hfz20_1
     try clear hfz29_0
     try clear hfz29_1
     try clear hfz31_0
     try clear hfz31_1
     try clear hfz33_0
     try clear hfz33_1
     try clear p2
     obtain ⟨kq, x91_27, rfl, HA, HJ27, HO_5, HO_7, HO_10, BK101, HB⟩ := hcut
     cases kq with
     | zero => exact absurd HA.out (by simp [trishawlaw02_JamCalm.j1])
     | succ kj27 =>
      have H := HA.out
      clear HA
      simp only [trishawlaw02_JamCalm.j1] at H
      by_cases c46 : x91_27 = true
      ·subst c46
       have H1 : (some false) = some r := by rw [if_pos rfl] at H; exact H
       exact absurd ((Option.some.inj H1).trans HRT.out) (by decide)
      ·replace c46 := Bool.eq_false_iff.mpr c46
       subst c46
       have H1 : ((jam_Potential.f kj27 l0_0 l0_1 l1).bind fun bt119 => (if t118 = 0 then ((jam_Potential.f kj27 l0_0 l0_1 t115).bind fun bt121 => (if bt119.2 = 0 then (if bt121.2 = 0 then (if bt121.1 ≥ bt119.1 then (some false) else (trishawlaw02_JamCalm.j2 kj27 l1 t106 t110 t113 bt119.1 l0_0 l0_1)) else (some false)) else (some false))) else (trishawlaw02_JamCalm.j2 kj27 l1 t106 t110 t113 bt119.1 l0_0 l0_1))) = some r := by rw [if_neg (show ¬ (false = true) by decide)] at H; exact H
       clear H
       have H := H1
       clear H1
       replace H := Option.bind_eq_some_iff.mp H
       obtain ⟨⟨t119, t120⟩, A470, H⟩ := H
       replace H : (if t118 = 0 then ((jam_Potential.f kj27 l0_0 l0_1 t115).bind fun bt121 => (if t120 = 0 then (if bt121.2 = 0 then (if bt121.1 ≥ t119 then (some false) else (trishawlaw02_JamCalm.j2 kj27 l1 t106 t110 t113 t119 l0_0 l0_1)) else (some false)) else (some false))) else (trishawlaw02_JamCalm.j2 kj27 l1 t106 t110 t113 t119 l0_0 l0_1)) = some r := H
       have A47 := Aside0.mk A470
       clear A470
       have HC48 := Aside0.mk H
       clear H
       have hcz49_0 : wc.cell? ⟨gb101, 0, none⟩ = some (.slice A0_0 l0_0.length c0_0) := (blk_cell BK101.out 0).trans rfl
       have hcz49_1 : wc.cell? ⟨gb101, 1, none⟩ = some (.slice A0_1 l0_1.length c0_1) := (blk_cell BK101.out 1).trans rfl
       have hfz49_0 := blk_frozen BK101.out 0
       have hfz49_1 := blk_frozen BK101.out 1
       go_upto_if 99 with (first | ((with_reducible refine gate_callee (f := 32) rfl ?_); refine goesL_ (some 95) rfl rfl Try.func32 (by kernel_rfl) rfl #[.agg #[.slice A0_0 l0_0.length c0_0, .slice A0_1 l0_1.length c0_1], .slice A1 l1.length c1] rfl (by (try simp only [List.map_toArray, List.map_cons, List.map_nil]); first | done | rfl | (simp only [List.length_drop, List.length_take]; rfl)) ?_; (with_reducible refine (jam_Potential.calls kj27 _ _ l0_0 _ _ l0_1 _ _ l1 t119 t120 _ ?side1 ?side2 ?side3 ?side4 ?side5 ?side6 A47.out).mono ?_); (case side1 => repeat (first | exact (Kd.C_below HR0_0.out HB.out) | (with_reducible refine Kd.C_alloc ?_ _) | (with_reducible refine Kd.C_drewN ?_ _) | (with_reducible refine Kd.C_drew ?_))); (case side2 => exact HC0_0.out); (case side3 => repeat (first | exact (Kd.C_below HR0_1.out HB.out) | (with_reducible refine Kd.C_alloc ?_ _) | (with_reducible refine Kd.C_drewN ?_ _) | (with_reducible refine Kd.C_drew ?_))); (case side4 => exact HC0_1.out); (case side5 => repeat (first | exact (Kd.C_below HR1.out HB.out) | (with_reducible refine Kd.C_alloc ?_ _) | (with_reducible refine Kd.C_drewN ?_ _) | (with_reducible refine Kd.C_drew ?_))); (case side6 => exact HC1.out); rintro e w50 ⟨rfl, hb⟩; refine ⟨_, rfl, ?_⟩; have n0_ := Aside0.mk (Kd.R_below (by (with_reducible repeat (first | apply Kd.R_alloc | apply Kd.R_drewN | apply Kd.R_drew)); exact HO_5.out) hb); have n1_ := Aside0.mk (Kd.R_below (by (with_reducible repeat (first | apply Kd.R_alloc | apply Kd.R_drewN | apply Kd.R_drew)); exact HO_7.out) hb); have n2_ := Aside0.mk (Kd.R_below (by (with_reducible repeat (first | apply Kd.R_alloc | apply Kd.R_drewN | apply Kd.R_drew)); exact HO_10.out) hb); have n3_ := Aside0.mk (blk_below (g := gb101) (o := .cells #[.slice A0_0 l0_0.length c0_0, .slice A0_1 l0_1.length c0_1] 41 (0, 0)) (by (with_reducible repeat (first | refine blk_drewN ?_ _ | refine blk_drew ?_ | refine blk_alloc ?_ _)); exact BK101.out) hb); have n4_ := Aside0.mk (below_step (by repeat (first | (with_reducible first | exact HB.out | apply below_alloc | apply pw_below_drewN | apply below_drew1 | refine below_set ?_ GE101.out) | exact HB.out)) hb); clear HO_5; clear HO_7; clear HO_10; clear BK101; clear HB; have HO_5 := n0_; have HO_7 := n1_; have HO_10 := n2_; have BK101 := n3_; have HB := n4_; clear n0_ n1_ n2_ n3_ n4_; (try clear hb); (try clear hb2); (try clear hk); (try clear hi)))
       (try simp only [Act.put, List.setIfInBounds_toArray, List.set_cons_zero, List.set_cons_succ])
       go_cut [] (fun wc => ∃ (kq : Nat), Aside0 (trishawlaw02_JamCalm.j2 kq l1 t106 t110 t113 t119 l0_0 l0_1 = some r) ∧ Aside0 (kq ≤ kj27) ∧ Aside0 (Kd.R (Kd.slice 3 (Kd.int .i64)) 24 wc w.heap.size (fun k_ => some k_ ≠ (v111 : Value).ownBlock) v107 t106) ∧ Aside0 (Kd.R (Kd.int .i64) 3 wc w.heap.size (fun _ => True) v111 t110) ∧ Aside0 (wc.heap[gb101]? = some (.cells #[(.slice A0_0 l0_0.length c0_0), (.slice A0_1 l0_1.length c0_1)] 41 (0, 0))) ∧ Aside0 (Below w.heap.size w wc))
       case first =>
        have H := HC48.out
        clear HC48
        by_cases c51 : t118 = 0
        ·rw [if_pos c51] at H
         have c51b0 : (t118 == 0) = true := beq_iff_eq.mpr c51
         have c51b1 : (t118 != 0) = false := bne_eq_false_iff_eq.mpr c51
         clear c51
         (first | rw [c51b0] | (simp only [i64_w, i32_w]; rw [c51b0]) | skip)
         replace H := Option.bind_eq_some_iff.mp H
         obtain ⟨⟨t121, t122⟩, A520, H⟩ := H
         replace H : (if t120 = 0 then (if t122 = 0 then (if t121 ≥ t119 then (some false) else (trishawlaw02_JamCalm.j2 kj27 l1 t106 t110 t113 t119 l0_0 l0_1)) else (some false)) else (some false)) = some r := H
         have A52 := Aside0.mk A520
         clear A520
         by_cases c53 : t120 = 0
         ·rw [if_pos c53] at H
          have c53b0 : (t120 == 0) = true := beq_iff_eq.mpr c53
          have c53b1 : (t120 != 0) = false := bne_eq_false_iff_eq.mpr c53
          clear c53
          by_cases c54 : t122 = 0
          ·rw [if_pos c54] at H
           have c54b0 : (t122 == 0) = true := beq_iff_eq.mpr c54
           have c54b1 : (t122 != 0) = false := bne_eq_false_iff_eq.mpr c54
           clear c54
           by_cases c55 : t121 ≥ t119
           ·rw [if_pos c55] at H
            have c55b0 : decide (t119 ≤ t121) = true := decide_eq_true c55
            clear c55
            exact absurd ((Option.some.inj H).trans HRT.out) (by decide)
           ·rw [if_neg c55] at H
            have c55b0 : decide (t119 ≤ t121) = false := decide_eq_false c55
            clear c55
            have H' := Aside0.mk H
            clear H
            have hcz59_0 : w50.cell? ⟨gb101, 0, none⟩ = some (.slice A0_0 l0_0.length c0_0) := (blk_cell BK101.out 0).trans rfl
            have hcz59_1 : w50.cell? ⟨gb101, 1, none⟩ = some (.slice A0_1 l0_1.length c0_1) := (blk_cell BK101.out 1).trans rfl
            have hfz59_0 := blk_frozen BK101.out 0
            have hfz59_1 := blk_frozen BK101.out 1
            obtain ⟨Ao60, co60, eo60⟩ := Kd.R_slice HO_10.out
            subst eo60
            go_wp2_with (first | ((with_reducible refine gate_callee (f := 32) rfl ?_); refine goesL_ (some 103) rfl rfl Try.func32 (by kernel_rfl) rfl #[.agg #[.slice A0_0 l0_0.length c0_0, .slice A0_1 l0_1.length c0_1], .slice Ao60 t115.length co60] rfl (by (try simp only [List.map_toArray, List.map_cons, List.map_nil]); first | done | rfl | (simp only [List.length_drop, List.length_take]; rfl)) ?_; (with_reducible refine (jam_Potential.calls kj27 _ _ l0_0 _ _ l0_1 _ _ t115 t121 t122 _ ?side1 ?side2 ?side3 ?side4 ?side5 ?side6 A52.out).mono ?_); (case side1 => repeat (first | exact (Kd.C_below HR0_0.out HB.out) | (with_reducible refine Kd.C_alloc ?_ _) | (with_reducible refine Kd.C_drewN ?_ _) | (with_reducible refine Kd.C_drew ?_))); (case side2 => exact HC0_0.out); (case side3 => repeat (first | exact (Kd.C_below HR0_1.out HB.out) | (with_reducible refine Kd.C_alloc ?_ _) | (with_reducible refine Kd.C_drewN ?_ _) | (with_reducible refine Kd.C_drew ?_))); (case side4 => exact HC0_1.out); (case side5 => repeat (first | exact (Kd.R_reads' HO_10.out).2.2 | (with_reducible refine Kd.C_alloc ?_ _) | (with_reducible refine Kd.C_drewN ?_ _) | (with_reducible refine Kd.C_drew ?_))); (case side6 => exact (Kd.R_reads' HO_10.out).2.1); rintro e w61 ⟨rfl, hb⟩; refine ⟨_, rfl, ?_⟩; have n0_ := Aside0.mk (Kd.R_below (by (with_reducible repeat (first | apply Kd.R_alloc | apply Kd.R_drewN | apply Kd.R_drew)); exact HO_5.out) hb); have n1_ := Aside0.mk (Kd.R_below (by (with_reducible repeat (first | apply Kd.R_alloc | apply Kd.R_drewN | apply Kd.R_drew)); exact HO_7.out) hb); have n2_ := Aside0.mk (Kd.R_below (by (with_reducible repeat (first | apply Kd.R_alloc | apply Kd.R_drewN | apply Kd.R_drew)); exact HO_10.out) hb); have n3_ := Aside0.mk (blk_below (g := gb101) (o := .cells #[.slice A0_0 l0_0.length c0_0, .slice A0_1 l0_1.length c0_1] 41 (0, 0)) (by (with_reducible repeat (first | refine blk_drewN ?_ _ | refine blk_drew ?_ | refine blk_alloc ?_ _)); exact BK101.out) hb); have n4_ := Aside0.mk (below_step (by repeat (first | (with_reducible first | exact HB.out | apply below_alloc | apply pw_below_drewN | apply below_drew1 | refine below_set ?_ GE101.out) | exact HB.out)) hb); clear HO_5; clear HO_7; clear HO_10; clear BK101; clear HB; have HO_5 := n0_; have HO_7 := n1_; have HO_10 := n2_; have BK101 := n3_; have HB := n4_; clear n0_ n1_ n2_ n3_ n4_; (try clear hb); (try clear hb2); (try clear hk); (try clear hi)))
            go_meet
            case rel => exact ⟨_, H', ⟨by have := HJ2.out; have := HJ27.out; first | omega | exact Nat.le_refl _⟩, ⟨by (with_reducible repeat (first | apply Kd.R_alloc | apply Kd.R_drewN | apply Kd.R_drew)); exact Kd.R_mono HO_5.out (fun _ hk => hk.1)⟩, ⟨by (with_reducible repeat (first | apply Kd.R_alloc | apply Kd.R_drewN | apply Kd.R_drew)); exact Kd.R_mono HO_7.out (fun _ hk => trivial)⟩, ⟨by (with_reducible repeat (first | refine blk_drewN ?_ _ | refine blk_drew ?_ | refine blk_alloc ?_ _)); exact BK101.out⟩, ⟨by repeat (first | (with_reducible first | exact HB.out | apply below_alloc | apply pw_below_drewN | apply below_drew1 | refine below_set ?_ GE101.out) | exact HB.out)⟩⟩
          ·rw [if_neg c54] at H
           have c54b0 : (t122 == 0) = false := beq_eq_false_iff_ne.mpr c54
           have c54b1 : (t122 != 0) = true := bne_iff_ne.mpr c54
           exact absurd ((Option.some.inj H).trans HRT.out) (by decide)
         ·rw [if_neg c53] at H
          have c53b0 : (t120 == 0) = false := beq_eq_false_iff_ne.mpr c53
          have c53b1 : (t120 != 0) = true := bne_iff_ne.mpr c53
          exact absurd ((Option.some.inj H).trans HRT.out) (by decide)
        ·rw [if_neg c51] at H
         have c51b0 : (t118 == 0) = false := beq_eq_false_iff_ne.mpr c51
         have c51b1 : (t118 != 0) = true := bne_iff_ne.mpr c51
         (first | rw [c51b0] | (simp only [i64_w, i32_w]; rw [c51b0]) | skip)
         have H' := Aside0.mk H
         clear H
         go_wp2
         go_meet
         case rel => exact ⟨_, H', ⟨by have := HJ2.out; have := HJ27.out; first | omega | exact Nat.le_refl _⟩, ⟨by (with_reducible repeat (first | apply Kd.R_alloc | apply Kd.R_drewN | apply Kd.R_drew)); exact Kd.R_mono HO_5.out (fun _ hk => hk.1)⟩, ⟨by (with_reducible repeat (first | apply Kd.R_alloc | apply Kd.R_drewN | apply Kd.R_drew)); exact Kd.R_mono HO_7.out (fun _ hk => trivial)⟩, ⟨by (with_reducible repeat (first | refine blk_drewN ?_ _ | refine blk_drew ?_ | refine blk_alloc ?_ _)); exact BK101.out⟩, ⟨by repeat (first | (with_reducible first | exact HB.out | apply below_alloc | apply pw_below_drewN | apply below_drew1 | refine below_set ?_ GE101.out) | exact HB.out)⟩⟩
       case rest => as_aux_lemma =>
        clear HC48
        try clear c1
        try clear c2
        try clear p2
        try clear c3
        try clear c4
        try clear c5
        try clear c6
        try clear c8
        try clear c15
        try clear c16
        try clear c22
        try clear c24
        try clear c32
        try clear c35
        try clear c35b0
        try clear c35b1
        try clear c36
        try clear c36b0
        try clear c36b1
        try clear c37
        try clear c37b0
        try clear c37b1
        try clear c37b2
        try clear c39
        try clear c39b0
        try clear c41
        try clear c41b0
        try clear c41b1
        try clear c41b2
        try clear c43
        try clear c43b0
        try clear c43b1
        try clear c46
        try clear c51
        try clear c51b0
        try clear c51b1
        try clear c53
        try clear c53b0
        try clear c53b1
        try clear c54
        try clear c54b0
        try clear c54b1
        try clear c55
        try clear c55b0
        try clear hcz10_0
        try clear hcz10_1
        try clear hcz12_0
        try clear hcz12_1
        try clear hcz14_0
        try clear hcz14_1
        try clear hcz16_0
        try clear hcz16_1
        try clear hcz18_0
        try clear hcz18_1
        try clear hcz20_0
        try clear hcz20_1
        try clear hcz29_0
        try clear hcz29_1
        try clear hcz31_0
        try clear hcz31_1
        try clear hcz33_0
        try clear hcz33_1
        try clear hcz49_0
        try clear hcz49_1
        try clear hcz56_0
        try clear hcz56_1
        try clear hcz59_0
        try clear hcz59_1
        try clear hcz62_0
        try clear hcz62_1
        try clear hcz65_0
        try clear hcz65_1
        try clear hfz10_0
        try clear hfz10_1
        try clear hfz12_0
        try clear hfz12_1
        try clear hfz14_0
        try clear hfz14_1
        try clear hfz16_0
        try clear hfz16_1
        try clear hfz18_0
        try clear hfz18_1
        try clear hfz20_0
        try clear hfz20_1
        try clear hfz29_0
        try clear hfz29_1
        try clear hfz31_0
        try clear hfz31_1
        try clear hfz33_0
        try clear hfz33_1
        try clear hfz49_0
        try clear hfz49_1
        try clear hfz56_0
        try clear hfz56_1
        try clear hfz59_0
        try clear hfz59_1
        try clear hfz62_0
        try clear hfz62_1
        try clear hfz65_0
        try clear hfz65_1
        try clear p2
        obtain ⟨kq, HA, HJ47, HO_5, HO_7, BK101, HB⟩ := hcut
        cases kq with
        | zero => exact absurd HA.out (by simp [trishawlaw02_JamCalm.j2])
        | succ kj47 =>
         have H := HA.out
         clear HA
         simp only [trishawlaw02_JamCalm.j2] at H
         have H' := Aside0.mk H
         clear H
         go_wp2
         go_loopg [16, 17, 18, 19] kj47 (fun kq v16 v17 v18 v19 w' => ∃ (x16_4 : Bool) (x17_4 : Bool) (x18_4 : Int) (x19_4 : Int), v16 = .bool x16_4 ∧ v17 = .bool x17_4 ∧ v18 = .int .i64 x18_4 ∧ v19 = .int .i64 x19_4 ∧ Aside0 (trishawlaw02_JamCalm.l0 kq l1 t106 t110 t113 x16_4 x17_4 x18_4 x19_4 l0_0 l0_1 = some r) ∧ Aside0 (kq ≤ kj47) ∧ Aside0 (Kd.R (Kd.slice 3 (Kd.int .i64)) 24 w' w.heap.size (fun k_ => some k_ ≠ (v111 : Value).ownBlock) v107 t106) ∧ Aside0 (Kd.R (Kd.int .i64) 3 w' w.heap.size (fun _ => True) v111 t110) ∧ Aside0 (w'.heap[gb101]? = some (.cells #[(.slice A0_0 l0_0.length c0_0), (.slice A0_1 l0_1.length c0_1)] 41 (0, 0))) ∧ Aside0 (Below w.heap.size w w'))
         case atStart => exact ⟨(false), (false), (t119), (0), (by first | rfl | (simp; done) | (simp [*]; done)), (by first | rfl | (simp; done) | (simp [*]; done)), (by first | rfl | (simp; done) | (simp [*]; done)), (by first | rfl | (simp; done) | (simp [*]; done)), H', ⟨Nat.le_refl _⟩, ⟨by (with_reducible repeat (first | apply Kd.R_alloc | apply Kd.R_drewN | apply Kd.R_drew)); exact HO_5.out⟩, ⟨by (with_reducible repeat (first | apply Kd.R_alloc | apply Kd.R_drewN | apply Kd.R_drew)); exact HO_7.out⟩, ⟨by (with_reducible repeat (first | refine blk_drewN ?_ _ | refine blk_drew ?_ | refine blk_alloc ?_ _)); exact BK101.out⟩, ⟨by repeat (first | (with_reducible first | exact HB.out | apply below_alloc | apply pw_below_drewN | apply below_drew1 | refine below_set ?_ GE101.out) | exact HB.out)⟩⟩
         case round => as_aux_lemma =>
          clear H'
          try clear c1
          try clear c2
          try clear p2
          try clear c3
          try clear c4
          try clear c5
          try clear c6
          try clear c8
          try clear c15
          try clear c16
          try clear c22
          try clear c24
          try clear c32
          try clear c35
          try clear c35b0
          try clear c35b1
          try clear c36
          try clear c36b0
          try clear c36b1
          try clear c37
          try clear c37b0
          try clear c37b1
          try clear c37b2
          try clear c39
          try clear c39b0
          try clear c41
          try clear c41b0
          try clear c41b1
          try clear c41b2
          try clear c43
          try clear c43b0
          try clear c43b1
          try clear c46
          try clear c51
          try clear c51b0
          try clear c51b1
          try clear c53
          try clear c53b0
          try clear c53b1
          try clear c54
          try clear c54b0
          try clear c54b1
          try clear c55
          try clear c55b0
          try clear hcz10_0
          try clear hcz10_1
          try clear hcz12_0
          try clear hcz12_1
          try clear hcz14_0
          try clear hcz14_1
          try clear hcz16_0
          try clear hcz16_1
          try clear hcz18_0
          try clear hcz18_1
          try clear hcz20_0
          try clear hcz20_1
          try clear hcz29_0
          try clear hcz29_1
          try clear hcz31_0
          try clear hcz31_1
          try clear hcz33_0
          try clear hcz33_1
          try clear hcz49_0
          try clear hcz49_1
          try clear hcz56_0
          try clear hcz56_1
          try clear hcz59_0
          try clear hcz59_1
          try clear hcz62_0
          try clear hcz62_1
          try clear hcz65_0
          try clear hcz65_1
          try clear hfz10_0
          try clear hfz10_1
          try clear hfz12_0
          try clear hfz12_1
          try clear hfz14_0
          try clear hfz14_1
          try clear hfz16_0
          try clear hfz16_1
          try clear hfz18_0
          try clear hfz18_1
          try clear hfz20_0
          try clear hfz20_1
          try clear hfz29_0
          try clear hfz29_1
          try clear hfz31_0
          try clear hfz31_1
          try clear hfz33_0
          try clear hfz33_1
          try clear hfz49_0
          try clear hfz49_1
          try clear hfz56_0
          try clear hfz56_1
          try clear hfz59_0
          try clear hfz59_1
          try clear hfz62_0
          try clear hfz62_1
          try clear hfz65_0
          try clear hfz65_1
          try clear p2
          obtain ⟨x16_4, x17_4, x18_4, x19_4, rfl, rfl, rfl, rfl, HA, HK4, HO_5, HO_7, BK101, HB⟩ := hrel
          cases gk with
          | zero => exact absurd HA.out (by simp [trishawlaw02_JamCalm.l0])
          | succ k4 =>
           have H := HA.out
           clear HA
           simp only [trishawlaw02_JamCalm.l0] at H
           by_cases c68 : x19_4 < (t106.length : Int)
           ·rw [if_pos c68] at H
            have c68b0 : decide (x19_4 < (t106.length : Int)) = true := decide_eq_true c68
            clear c68
            have HC69 := Aside0.mk H
            clear H
            obtain ⟨Ao70, co70, eo70⟩ := Kd.R_slice HO_5.out
            subst eo70
            go_upto_region 18 with (fail)
            go_cut [16] (fun v16 wc => ∃ (kq : Nat) (x16_68 : Bool), v16 = .bool x16_68 ∧ Aside0 (trishawlaw02_JamCalm.j4 kq l1 t106 t110 t113 x16_68 x17_4 x18_4 x19_4 l0_0 l0_1 = some r) ∧ Aside0 (kq ≤ k4) ∧ Aside0 (Kd.R (Kd.slice 3 (Kd.int .i64)) 24 wc w.heap.size (fun k_ => some k_ ≠ (v111 : Value).ownBlock) (.slice Ao70 t106.length co70) t106) ∧ Aside0 (Kd.R (Kd.int .i64) 3 wc w.heap.size (fun _ => True) v111 t110) ∧ Aside0 (wc.heap[gb101]? = some (.cells #[(.slice A0_0 l0_0.length c0_0), (.slice A0_1 l0_1.length c0_1)] 41 (0, 0))) ∧ Aside0 (Below w.heap.size w wc))
            case first =>
             have H := HC69.out
             clear HC69
             by_cases c71 : x16_4 = true
             ·subst c71
              have H1 : (trishawlaw02_JamCalm.j4 k4 l1 t106 t110 t113 true x17_4 x18_4 x19_4 l0_0 l0_1) = some r := by rw [if_pos rfl] at H; exact H
              clear H
              have H := H1
              clear H1
              have H' := Aside0.mk H
              clear H
              go_wp2
              go_meet
              case rel => exact ⟨_, (true), (by first | rfl | (simp; done) | (simp [*]; done)), H', ⟨by have := HJ2.out; have := HJ27.out; have := HJ47.out; have := HK4.out; first | omega | exact Nat.le_refl _⟩, ⟨by (with_reducible repeat (first | apply Kd.R_alloc | apply Kd.R_drewN | apply Kd.R_drew)); exact HO_5.out⟩, ⟨by (with_reducible repeat (first | apply Kd.R_alloc | apply Kd.R_drewN | apply Kd.R_drew)); exact HO_7.out⟩, ⟨by (with_reducible repeat (first | refine blk_drewN ?_ _ | refine blk_drew ?_ | refine blk_alloc ?_ _)); exact BK101.out⟩, ⟨by repeat (first | (with_reducible first | exact HB.out | apply below_alloc | apply pw_below_drewN | apply below_drew1 | refine below_set ?_ GE101.out) | exact HB.out)⟩⟩
             ·replace c71 := Bool.eq_false_iff.mpr c71
              subst c71
              have H1 : (if 0 ≤ x19_4 then ((trishawlaw02_same.f k4 (rd_L12 t106 x19_4) t110).bind fun t124 => (trishawlaw02_JamCalm.j4 k4 l1 t106 t110 t113 t124 x17_4 x18_4 x19_4 l0_0 l0_1)) else (none)) = some r := by rw [if_neg (show ¬ (false = true) by decide)] at H; exact H
              clear H
              have H := H1
              clear H1
              by_cases c72 : 0 ≤ x19_4
              ·rw [if_pos c72] at H
               have c72b0 : decide (0 ≤ x19_4) = true := decide_eq_true c72
               clear c72
               (first | rw [c72b0] | (simp only [i64_w, i32_w]; rw [c72b0]) | skip)
               replace H := Option.bind_eq_some_iff.mp H
               obtain ⟨t124, A730, H⟩ := H
               replace H : (trishawlaw02_JamCalm.j4 k4 l1 t106 t110 t113 t124 x17_4 x18_4 x19_4 l0_0 l0_1) = some r := H
               have A73 := Aside0.mk A730
               clear A730
               have H' := Aside0.mk H
               clear H
               have p123 : 0 ≤ (x19_4 : Int) := of_decide_eq_true (by first | (with_reducible assumption) | assumption)
               have q123 : x19_4 < (t106.length : Int) := of_decide_eq_true (by first | (with_reducible assumption) | assumption)
               obtain ⟨ad123, A123_0, c123_0, e123, hx123_0, hl123_0, hi123_0⟩ := at_L12 (Kd.R_reads' HO_5.out).2.2 x19_4 p123 q123
               cases e123
               obtain ⟨ce123, hce123, hMe123, hcc123⟩ := Kd.R_get HO_5.out [] x19_4 p123 (by first | exact q123 | exact of_decide_eq_true (by first | (with_reducible assumption) | assumption) | (have e_ := (Kd.R_reads' HO_5.out).1; omega))
               obtain ⟨ve123_0, rfl, ge123_0⟩ := hMe123
               have hv123_0 := hcc123 0 _ rfl
               rw [Nat.add_zero, show ((Kd.slice 3 (Kd.int .i64))).sz = 1 from rfl, Nat.mul_one] at hv123_0
               replace hv123_0 := Option.some.inj (hv123_0.symm.trans hx123_0)
               rw [hv123_0] at ge123_0
               have HL123_0 := Aside0.mk (show Kd.R (Kd.int .i64) 3 _ _ _ _ (rd_L12 t106 x19_4) from ge123_0)
               clear hv123_0 ge123_0
               clear hcc123 hce123
               have HR123_0 := Aside0.mk hi123_0
               have HC123_0 := Aside0.mk hl123_0
               clear hi123_0 hl123_0
               replace p123 := eq_true p123
               replace q123 := eq_true q123
               obtain ⟨Ao74, co74, eo74⟩ := Kd.R_slice HO_7.out
               subst eo74
               go_wp2_with (first | (go_at_call 31; (with_reducible refine (trishawlaw02_same.calls k4 _ _ (rd_L12 t106 x19_4) _ _ t110 t124 _ ?side1 ?side2 ?side3 ?side4 A73.out).mono ?_); (case side1 => repeat (first | exact (by repeat (first | (with_reducible exact HR123_0.out) | (with_reducible refine Kd.C_alloc ?_ _) | (with_reducible refine Kd.C_drewN ?_ _) | (with_reducible refine Kd.C_drew ?_) | exact HR123_0.out)) | (with_reducible refine Kd.C_alloc ?_ _) | (with_reducible refine Kd.C_drewN ?_ _) | (with_reducible refine Kd.C_drew ?_))); (case side2 => exact HC123_0.out); (case side3 => repeat (first | exact (Kd.R_reads' HO_7.out).2.2 | (with_reducible refine Kd.C_alloc ?_ _) | (with_reducible refine Kd.C_drewN ?_ _) | (with_reducible refine Kd.C_drew ?_))); (case side4 => exact (Kd.R_reads' HO_7.out).2.1); rintro e w' ⟨rfl, ⟨nd, rfl⟩⟩))
               go_meet
               case rel => exact ⟨_, (t124), (by first | rfl | (simp; done) | (simp [*]; done)), H', ⟨by have := HJ2.out; have := HJ27.out; have := HJ47.out; have := HK4.out; first | omega | exact Nat.le_refl _⟩, ⟨by (with_reducible repeat (first | apply Kd.R_alloc | apply Kd.R_drewN | apply Kd.R_drew)); exact HO_5.out⟩, ⟨by (with_reducible repeat (first | apply Kd.R_alloc | apply Kd.R_drewN | apply Kd.R_drew)); exact HO_7.out⟩, ⟨by (with_reducible repeat (first | refine blk_drewN ?_ _ | refine blk_drew ?_ | refine blk_alloc ?_ _)); exact BK101.out⟩, ⟨by repeat (first | (with_reducible first | exact HB.out | apply below_alloc | apply pw_below_drewN | apply below_drew1 | refine below_set ?_ GE101.out) | exact HB.out)⟩⟩
              ·rw [if_neg c72] at H
               exact absurd H (by simp)
            case rest => as_aux_lemma =>
             clear HC69
             try clear c1
             try clear p1
             try clear q1
             try clear hx1
             try clear c2
             try clear p2
             try clear c3
             try clear c4
             try clear c5
             try clear c6
             try clear c7
             try clear c8
             try clear c12
             try clear p12
             try clear q12
             try clear hx12
             try clear c15
             try clear c16
             try clear c22
             try clear c24
             try clear c32
             try clear c35
             try clear c35b0
             try clear c35b1
             try clear c36
             try clear c36b0
             try clear c36b1
             try clear c37
             try clear c37b0
             try clear c37b1
             try clear c37b2
             try clear c39
             try clear c39b0
             try clear c41
             try clear c41b0
             try clear c41b1
             try clear c41b2
             try clear c43
             try clear c43b0
             try clear c43b1
             try clear c46
             try clear c51
             try clear c51b0
             try clear c51b1
             try clear c53
             try clear c53b0
             try clear c53b1
             try clear c54
             try clear c54b0
             try clear c54b1
             try clear c55
             try clear c55b0
             try clear c68
             try clear c68b0
             try clear c71
             try clear c72
             try clear c72b0
             try clear hcz10_0
             try clear hcz10_1
             try clear hcz12_0
             try clear hcz12_1
             try clear hcz14_0
             try clear hcz14_1
             try clear hcz16_0
             try clear hcz16_1
             try clear hcz18_0
             try clear hcz18_1
             try clear hcz20_0
             try clear hcz20_1
             try clear hcz29_0
             try clear hcz29_1
             try clear hcz31_0
             try clear hcz31_1
             try clear hcz33_0
             try clear hcz33_1
             try clear hcz49_0
             try clear hcz49_1
             try clear hcz56_0
             try clear hcz56_1
             try clear hcz59_0
             try clear hcz59_1
             try clear hcz62_0
             try clear hcz62_1
             try clear hcz65_0
             try clear hcz65_1
             try clear hfz10_0
             try clear hfz10_1
             try clear hfz12_0
             try clear hfz12_1
             try clear hfz14_0
             try clear hfz14_1
             try clear hfz16_0
             try clear hfz16_1
             try clear hfz18_0
             try clear hfz18_1
             try clear hfz20_0
             try clear hfz20_1
             try clear hfz29_0
             try clear hfz29_1
             try clear hfz31_0
             try clear hfz31_1
             try clear hfz33_0
             try clear hfz33_1
             try clear hfz49_0
             try clear hfz49_1
             try clear hfz56_0
             try clear hfz56_1
             try clear hfz59_0
             try clear hfz59_1
             try clear hfz62_0
             try clear hfz62_1
             try clear hfz65_0
             try clear hfz65_1
             try clear hx123_0
             try clear p123
             try clear p2
             try clear q123
             obtain ⟨kq, x16_68, rfl, HA, HJ68, HO_5, HO_7, BK101, HB⟩ := hcut
             cases kq with
             | zero => exact absurd HA.out (by simp [trishawlaw02_JamCalm.j4])
             | succ kj68 =>
              have H := HA.out
              clear HA
              simp only [trishawlaw02_JamCalm.j4] at H
              have HC75 := Aside0.mk H
              clear H
              go_upto_region 19 with (fail)
              go_cut [17] (fun v17 wc => ∃ (kq : Nat) (x17_74 : Bool), v17 = .bool x17_74 ∧ Aside0 (trishawlaw02_JamCalm.j5 kq l1 t106 t110 t113 x16_68 x17_74 x18_4 x19_4 l0_0 l0_1 = some r) ∧ Aside0 (kq ≤ kj68) ∧ Aside0 (Kd.R (Kd.slice 3 (Kd.int .i64)) 24 wc w.heap.size (fun k_ => some k_ ≠ (v111 : Value).ownBlock) (.slice Ao70 t106.length co70) t106) ∧ Aside0 (Kd.R (Kd.int .i64) 3 wc w.heap.size (fun _ => True) v111 t110) ∧ Aside0 (wc.heap[gb101]? = some (.cells #[(.slice A0_0 l0_0.length c0_0), (.slice A0_1 l0_1.length c0_1)] 41 (0, 0))) ∧ Aside0 (Below w.heap.size w wc))
              case first =>
               have H := HC75.out
               clear HC75
               by_cases c76 : x17_4 = true
               ·subst c76
                have H1 : (trishawlaw02_JamCalm.j5 kj68 l1 t106 t110 t113 x16_68 true x18_4 x19_4 l0_0 l0_1) = some r := by rw [if_pos rfl] at H; exact H
                clear H
                have H := H1
                clear H1
                have H' := Aside0.mk H
                clear H
                go_wp2
                go_meet
                case rel => exact ⟨_, (true), (by first | rfl | (simp; done) | (simp [*]; done)), H', ⟨by have := HJ2.out; have := HJ27.out; have := HJ47.out; have := HK4.out; have := HJ68.out; first | omega | exact Nat.le_refl _⟩, ⟨by (with_reducible repeat (first | apply Kd.R_alloc | apply Kd.R_drewN | apply Kd.R_drew)); exact HO_5.out⟩, ⟨by (with_reducible repeat (first | apply Kd.R_alloc | apply Kd.R_drewN | apply Kd.R_drew)); exact HO_7.out⟩, ⟨by (with_reducible repeat (first | refine blk_drewN ?_ _ | refine blk_drew ?_ | refine blk_alloc ?_ _)); exact BK101.out⟩, ⟨by repeat (first | (with_reducible first | exact HB.out | apply below_alloc | apply pw_below_drewN | apply below_drew1 | refine below_set ?_ GE101.out) | exact HB.out)⟩⟩
               ·replace c76 := Bool.eq_false_iff.mpr c76
                subst c76
                have H1 : (if 0 ≤ x19_4 then (if x19_4 < (t106.length : Int) then ((trishawlaw02_same.f kj68 (rd_L12 t106 x19_4) l1).bind fun t126 => (trishawlaw02_JamCalm.j5 kj68 l1 t106 t110 t113 x16_68 t126 x18_4 x19_4 l0_0 l0_1)) else (none)) else (none)) = some r := by rw [if_neg (show ¬ (false = true) by decide)] at H; exact H
                clear H
                have H := H1
                clear H1
                by_cases c77 : 0 ≤ x19_4
                ·rw [if_pos c77] at H
                 have c77b0 : decide (0 ≤ x19_4) = true := decide_eq_true c77
                 clear c77
                 (first | rw [c77b0] | (simp only [i64_w, i32_w]; rw [c77b0]) | skip)
                 by_cases c78 : x19_4 < (t106.length : Int)
                 ·rw [if_pos c78] at H
                  have c78b0 : decide (x19_4 < (t106.length : Int)) = true := decide_eq_true c78
                  clear c78
                  replace H := Option.bind_eq_some_iff.mp H
                  obtain ⟨t126, A790, H⟩ := H
                  replace H : (trishawlaw02_JamCalm.j5 kj68 l1 t106 t110 t113 x16_68 t126 x18_4 x19_4 l0_0 l0_1) = some r := H
                  have A79 := Aside0.mk A790
                  clear A790
                  have H' := Aside0.mk H
                  clear H
                  have p125 : 0 ≤ (x19_4 : Int) := of_decide_eq_true (by first | (with_reducible assumption) | assumption)
                  have q125 : x19_4 < (t106.length : Int) := of_decide_eq_true (by first | (with_reducible assumption) | assumption)
                  obtain ⟨ad125, A125_0, c125_0, e125, hx125_0, hl125_0, hi125_0⟩ := at_L12 (Kd.R_reads' HO_5.out).2.2 x19_4 p125 q125
                  cases e125
                  obtain ⟨ce125, hce125, hMe125, hcc125⟩ := Kd.R_get HO_5.out [] x19_4 p125 (by first | exact q125 | exact of_decide_eq_true (by first | (with_reducible assumption) | assumption) | (have e_ := (Kd.R_reads' HO_5.out).1; omega))
                  obtain ⟨ve125_0, rfl, ge125_0⟩ := hMe125
                  have hv125_0 := hcc125 0 _ rfl
                  rw [Nat.add_zero, show ((Kd.slice 3 (Kd.int .i64))).sz = 1 from rfl, Nat.mul_one] at hv125_0
                  replace hv125_0 := Option.some.inj (hv125_0.symm.trans hx125_0)
                  rw [hv125_0] at ge125_0
                  have HL125_0 := Aside0.mk (show Kd.R (Kd.int .i64) 3 _ _ _ _ (rd_L12 t106 x19_4) from ge125_0)
                  clear hv125_0 ge125_0
                  clear hcc125 hce125
                  have HR125_0 := Aside0.mk hi125_0
                  have HC125_0 := Aside0.mk hl125_0
                  clear hi125_0 hl125_0
                  replace p125 := eq_true p125
                  replace q125 := eq_true q125
                  go_wp2_with (first | (go_at_call 31; (with_reducible refine (trishawlaw02_same.calls kj68 _ _ (rd_L12 t106 x19_4) _ _ l1 t126 _ ?side1 ?side2 ?side3 ?side4 A79.out).mono ?_); (case side1 => repeat (first | exact (by repeat (first | (with_reducible exact HR125_0.out) | (with_reducible refine Kd.C_alloc ?_ _) | (with_reducible refine Kd.C_drewN ?_ _) | (with_reducible refine Kd.C_drew ?_) | exact HR125_0.out)) | (with_reducible refine Kd.C_alloc ?_ _) | (with_reducible refine Kd.C_drewN ?_ _) | (with_reducible refine Kd.C_drew ?_))); (case side2 => exact HC125_0.out); (case side3 => repeat (first | exact (Kd.C_below HR1.out HB.out) | (with_reducible refine Kd.C_alloc ?_ _) | (with_reducible refine Kd.C_drewN ?_ _) | (with_reducible refine Kd.C_drew ?_))); (case side4 => exact HC1.out); rintro e w' ⟨rfl, ⟨nd, rfl⟩⟩))
                  go_meet
                  case rel => exact ⟨_, (t126), (by first | rfl | (simp; done) | (simp [*]; done)), H', ⟨by have := HJ2.out; have := HJ27.out; have := HJ47.out; have := HK4.out; have := HJ68.out; first | omega | exact Nat.le_refl _⟩, ⟨by (with_reducible repeat (first | apply Kd.R_alloc | apply Kd.R_drewN | apply Kd.R_drew)); exact HO_5.out⟩, ⟨by (with_reducible repeat (first | apply Kd.R_alloc | apply Kd.R_drewN | apply Kd.R_drew)); exact HO_7.out⟩, ⟨by (with_reducible repeat (first | refine blk_drewN ?_ _ | refine blk_drew ?_ | refine blk_alloc ?_ _)); exact BK101.out⟩, ⟨by repeat (first | (with_reducible first | exact HB.out | apply below_alloc | apply pw_below_drewN | apply below_drew1 | refine below_set ?_ GE101.out) | exact HB.out)⟩⟩
                 ·rw [if_neg c78] at H
                  exact absurd H (by simp)
                ·rw [if_neg c77] at H
                 exact absurd H (by simp)
              case rest => as_aux_lemma =>
               clear HC75
               try clear c1
               try clear p1
               try clear q1
               try clear hx1
               try clear c2
               try clear p2
               try clear c3
               try clear c4
               try clear c5
               try clear c6
               try clear c7
               try clear c8
               try clear c12
               try clear p12
               try clear q12
               try clear hx12
               try clear c15
               try clear c16
               try clear c22
               try clear c24
               try clear c32
               try clear c35
               try clear c35b0
               try clear c35b1
               try clear c36
               try clear c36b0
               try clear c36b1
               try clear c37
               try clear c37b0
               try clear c37b1
               try clear c37b2
               try clear c39
               try clear c39b0
               try clear c41
               try clear c41b0
               try clear c41b1
               try clear c41b2
               try clear c43
               try clear c43b0
               try clear c43b1
               try clear c46
               try clear c51
               try clear c51b0
               try clear c51b1
               try clear c53
               try clear c53b0
               try clear c53b1
               try clear c54
               try clear c54b0
               try clear c54b1
               try clear c55
               try clear c55b0
               try clear c68
               try clear c68b0
               try clear c71
               try clear c72
               try clear c72b0
               try clear c76
               try clear c77
               try clear c77b0
               try clear c78
               try clear c78b0
               try clear hcz10_0
               try clear hcz10_1
               try clear hcz12_0
               try clear hcz12_1
               try clear hcz14_0
               try clear hcz14_1
               try clear hcz16_0
               try clear hcz16_1
               try clear hcz18_0
               try clear hcz18_1
               try clear hcz20_0
               try clear hcz20_1
               try clear hcz29_0
               try clear hcz29_1
               try clear hcz31_0
               try clear hcz31_1
               try clear hcz33_0
               try clear hcz33_1
               try clear hcz49_0
               try clear hcz49_1
               try clear hcz56_0
               try clear hcz56_1
               try clear hcz59_0
               try clear hcz59_1
               try clear hcz62_0
               try clear hcz62_1
               try clear hcz65_0
               try clear hcz65_1
               try clear hfz10_0
               try clear hfz10_1
               try clear hfz12_0
               try clear hfz12_1
               try clear hfz14_0
               try clear hfz14_1
               try clear hfz16_0
               try clear hfz16_1
               try clear hfz18_0
               try clear hfz18_1
               try clear hfz20_0
               try clear hfz20_1
               try clear hfz29_0
               try clear hfz29_1
               try clear hfz31_0
               try clear hfz31_1
               try clear hfz33_0
               try clear hfz33_1
               try clear hfz49_0
               try clear hfz49_1
               try clear hfz56_0
               try clear hfz56_1
               try clear hfz59_0
               try clear hfz59_1
               try clear hfz62_0
               try clear hfz62_1
               try clear hfz65_0
               try clear hfz65_1
               try clear hx123_0
               try clear hx125_0
               try clear p1
               try clear p12
               try clear p123
               try clear p125
               try clear p2
               try clear q1
               try clear q12
               try clear q123
               try clear q125
               obtain ⟨kq, x17_74, rfl, HA, HJ74, HO_5, HO_7, BK101, HB⟩ := hcut
               cases kq with
               | zero => exact absurd HA.out (by simp [trishawlaw02_JamCalm.j5])
               | succ kj74 =>
                have H := HA.out
                clear HA
                simp only [trishawlaw02_JamCalm.j5] at H
                by_cases c80 : 0 ≤ x19_4
                ·rw [if_pos c80] at H
                 have c80b0 : decide (0 ≤ x19_4) = true := decide_eq_true c80
                 clear c80
                 by_cases c81 : x19_4 < (t106.length : Int)
                 ·rw [if_pos c81] at H
                  have c81b0 : decide (x19_4 < (t106.length : Int)) = true := decide_eq_true c81
                  clear c81
                  replace H := Option.bind_eq_some_iff.mp H
                  obtain ⟨⟨t128, t129⟩, A820, H⟩ := H
                  replace H : ((jam_Step.f kj74 l0_0 l0_1 (rd_L12 t106 x19_4)).bind fun bt131 => (if t129 = 0 then (if bt131.2 = 10 then (trishawlaw02_JamCalm.l0 kj74 l1 t106 t110 t113 x16_68 x17_74 (mn x18_4 t128) (wrap64 (x19_4 + 1)) l0_0 l0_1) else (some false)) else (some false))) = some r := H
                  have A82 := Aside0.mk A820
                  clear A820
                  replace H := Option.bind_eq_some_iff.mp H
                  obtain ⟨⟨t131, t134⟩, A830, H⟩ := H
                  replace H : (if t129 = 0 then (if t134 = 10 then (trishawlaw02_JamCalm.l0 kj74 l1 t106 t110 t113 x16_68 x17_74 (mn x18_4 t128) (wrap64 (x19_4 + 1)) l0_0 l0_1) else (some false)) else (some false)) = some r := H
                  have A83 := Aside0.mk A830
                  clear A830
                  by_cases c84 : t129 = 0
                  ·rw [if_pos c84] at H
                   have c84b0 : (t129 == 0) = true := beq_iff_eq.mpr c84
                   have c84b1 : (t129 != 0) = false := bne_eq_false_iff_eq.mpr c84
                   clear c84
                   by_cases c85 : t134 = 10
                   ·rw [if_pos c85] at H
                    have c85b0 : (t134 == 10) = true := beq_iff_eq.mpr c85
                    have c85b1 : (t134 != 10) = false := bne_eq_false_iff_eq.mpr c85
                    clear c85
                    obtain ⟨ji86, hji86⟩ : ∃ j_ : Int, (mn x18_4 t128) = j_ := ⟨_, rfl⟩
                    replace H : (trishawlaw02_JamCalm.l0 kj74 l1 t106 t110 t113 x16_68 x17_74 ji86 (wrap64 (x19_4 + 1)) l0_0 l0_1) = some r := by first | (rw [hji86] at H; exact H) | (simp only [hji86] at H ⊢; exact H)
                    (try rw [hji86] at A82)
                    (try rw [hji86] at A83)
                    have hji86_ : (if t128 < x18_4 then t128 else x18_4) = ji86 := hji86
                    have H' := Aside0.mk H
                    clear H
                    try go_wp2
                    have n0_ := Aside0.mk (Kd.R_drew HO_5.out)
                    have n1_ := Aside0.mk (Kd.R_drew HO_7.out)
                    have n2_ := Aside0.mk (blk_drew BK101.out)
                    have n3_ := Aside0.mk (below_drew1 HB.out)
                    clear HO_5
                    clear HO_7
                    clear BK101
                    clear HB
                    have HO_5 := n0_
                    have HO_7 := n1_
                    have BK101 := n2_
                    have HB := n3_
                    clear n0_ n1_ n2_ n3_
                    have p127 : 0 ≤ (x19_4 : Int) := of_decide_eq_true (by first | (with_reducible assumption) | assumption)
                    have q127 : x19_4 < (t106.length : Int) := of_decide_eq_true (by first | (with_reducible assumption) | assumption)
                    obtain ⟨ad127, A127_0, c127_0, e127, hx127_0, hl127_0, hi127_0⟩ := at_L12 (Kd.R_reads' HO_5.out).2.2 x19_4 p127 q127
                    cases e127
                    obtain ⟨ce127, hce127, hMe127, hcc127⟩ := Kd.R_get HO_5.out [] x19_4 p127 (by first | exact q127 | exact of_decide_eq_true (by first | (with_reducible assumption) | assumption) | (have e_ := (Kd.R_reads' HO_5.out).1; omega))
                    obtain ⟨ve127_0, rfl, ge127_0⟩ := hMe127
                    have hv127_0 := hcc127 0 _ rfl
                    rw [Nat.add_zero, show ((Kd.slice 3 (Kd.int .i64))).sz = 1 from rfl, Nat.mul_one] at hv127_0
                    replace hv127_0 := Option.some.inj (hv127_0.symm.trans hx127_0)
                    rw [hv127_0] at ge127_0
                    have HL127_0 := Aside0.mk (show Kd.R (Kd.int .i64) 3 _ _ _ _ (rd_L12 t106 x19_4) from ge127_0)
                    clear hv127_0 ge127_0
                    clear hcc127 hce127
                    have HR127_0 := Aside0.mk hi127_0
                    have HC127_0 := Aside0.mk hl127_0
                    clear hi127_0 hl127_0
                    replace p127 := eq_true p127
                    replace q127 := eq_true q127
                    refine start_ (n := 11) (S := fun w' => w'.cell? ⟨gb101, 0, none⟩ = some (.slice A0_0 l0_0.length c0_0) ∧ w'.cell? ⟨gb101, 1, none⟩ = some (.slice A0_1 l0_1.length c0_1) ∧ w'.cell? (ad127.add (x19_4).toNat) = some (.slice A127_0 (rd_L12 t106 x19_4).length c127_0)) (ds := []) #[false, false, false, false, false, false, false, false, false, false, false] (by kernel_rfl) rfl rfl ⟨(blk_cell BK101.out 0).trans rfl, (blk_cell BK101.out 1).trans rfl, hx127_0⟩ (fun hHeld => ?_); refine with_tabW trishawlaw02_JamCalm.tab20 trishawlaw02_JamCalm.bits20 (fun HT_ HW_ => ?_)
                    generalize wc.drew = w87 at HO_5 HO_7 BK101 HB HL127_0 HR127_0 hx127_0 hHeld ⊢
                    refine pure_ (i := 1) (N := some 144) (v := ?_) (a' := ?_) #[false, true, false, false, false, false, false, false, false, false, false] rfl rfl (any_of HT_.out (by kernel_rfl)) (fun _ _ _ h => h) (Or.inl ⟨by rfl, ?_⟩) ?_ ?_
                    rotate_left
                    ·intro w'
                     go_simp
                     with_reducible rfl
                    rotate_left
                    ·simp only [Act.put, List.setIfInBounds_toArray, List.set_cons_zero, List.set_cons_succ, i64_w, i32_w]
                     rfl
                    refine pure_ (i := 2) (N := some 145) (v := ?_) (a' := ?_) #[false, true, true, false, false, false, false, false, false, false, false] rfl rfl (any_of HT_.out (by kernel_rfl)) (fun _ _ _ h => h) (Or.inl ⟨by rfl, ?_⟩) ?_ ?_
                    rotate_left
                    ·intro w'
                     go_simp
                     with_reducible rfl
                    rotate_left
                    ·simp only [Act.put, List.setIfInBounds_toArray, List.set_cons_zero, List.set_cons_succ, i64_w, i32_w]
                     rfl
                    refine pure_ (i := 3) (N := some 146) (v := ?_) (a' := ?_) #[false, true, true, true, false, false, false, false, false, false, false] rfl rfl (any_of HT_.out (by kernel_rfl)) (fun _ _ _ h => h) (Or.inl ⟨by rfl, ?_⟩) ?_ ?_
                    rotate_left
                    ·intro w'
                     go_simp
                     with_reducible rfl
                    rotate_left
                    ·simp only [Act.put, List.setIfInBounds_toArray, List.set_cons_zero, List.set_cons_succ, i64_w, i32_w]
                     rfl
                    refine take_ (i := 0) (N := some 143) (v := ?_) (a' := ?_) #[true, true, true, true, false, false, false, false, false, false, false] rfl rfl (take_ofW HT_.out HW_.out (by kernel_rfl)) (fun _ _ _ h => h) (Or.inl ⟨by rfl, ?_⟩) hHeld ?_ ?_
                    rotate_left
                    ·rintro w' ⟨s0, s1, s2⟩
                     go_simp
                     with_reducible rfl
                    rotate_left
                    ·simp only [Act.put, List.setIfInBounds_toArray, List.set_cons_zero, List.set_cons_succ, i64_w, i32_w]
                     rfl
                    refine take_ (i := 4) (N := some 147) (v := ?_) (a' := ?_) #[true, true, true, true, true, false, false, false, false, false, false] rfl rfl (take_ofW HT_.out HW_.out (by kernel_rfl)) (fun _ _ _ h => h) (Or.inl ⟨by rfl, ?_⟩) hHeld ?_ ?_
                    rotate_left
                    ·rintro w' ⟨s0, s1, s2⟩
                     go_simp
                     with_reducible rfl
                    rotate_left
                    ·simp only [Act.put, List.setIfInBounds_toArray, List.set_cons_zero, List.set_cons_succ, i64_w, i32_w]
                     rfl
                    refine one_ (i := 5) (N := some 148) #[true, true, true, true, true, true, false, false, false, false, false] rfl rfl (one_of HT_.out (by kernel_rfl)) (by decide) (fun K hK => ?_)
                    refine goes_ Try.func32 (by kernel_rfl) rfl #[.agg #[.slice A0_0 l0_0.length c0_0, .slice A0_1 l0_1.length c0_1], .slice A127_0 (rd_L12 t106 x19_4).length c127_0] (by rfl) rfl rfl (by (try simp only [List.map_toArray, List.map_cons, List.map_nil]); first | done | rfl | (simp only [List.length_drop, List.length_take]; rfl)) ?_
                    with_reducible refine (jam_Potential.calls kj74 _ _ l0_0 _ _ l0_1 _ _ (rd_L12 t106 x19_4) t128 t129 _ ?side1 ?side2 ?side3 ?side4 ?side5 ?side6 A82.out).mono ?_
                    (case side1 => repeat (first | exact (Kd.C_below HR0_0.out HB.out) | (with_reducible refine Kd.C_alloc ?_ _) | (with_reducible refine Kd.C_drewN ?_ _) | (with_reducible refine Kd.C_drew ?_)))
                    (case side2 => exact HC0_0.out)
                    (case side3 => repeat (first | exact (Kd.C_below HR0_1.out HB.out) | (with_reducible refine Kd.C_alloc ?_ _) | (with_reducible refine Kd.C_drewN ?_ _) | (with_reducible refine Kd.C_drew ?_)))
                    (case side4 => exact HC0_1.out)
                    (case side5 => repeat (first | exact (by repeat (first | (with_reducible exact HR127_0.out) | (with_reducible refine Kd.C_alloc ?_ _) | (with_reducible refine Kd.C_drewN ?_ _) | (with_reducible refine Kd.C_drew ?_) | exact HR127_0.out)) | (with_reducible refine Kd.C_alloc ?_ _) | (with_reducible refine Kd.C_drewN ?_ _) | (with_reducible refine Kd.C_drew ?_)))
                    (case side6 => exact HC127_0.out)
                    rintro e w88 ⟨rfl, hb⟩
                    have HS2_ := (hb.cell (World.block_lt_of_cell? _ _ (hHeld.2.2))).trans (hHeld.2.2)
                    refine ⟨_, rfl, ?_⟩
                    have n0_ := Aside0.mk (Kd.R_below (by (with_reducible repeat (first | apply Kd.R_alloc | apply Kd.R_drewN | apply Kd.R_drew)); exact HO_5.out) hb)
                    have n1_ := Aside0.mk (Kd.R_below (by (with_reducible repeat (first | apply Kd.R_alloc | apply Kd.R_drewN | apply Kd.R_drew)); exact HO_7.out) hb)
                    have n2_ := Aside0.mk (Kd.R_below (by (with_reducible repeat (first | apply Kd.R_alloc | apply Kd.R_drewN | apply Kd.R_drew)); exact HL127_0.out) hb)
                    have n3_ := Aside0.mk (blk_below (g := gb101) (o := .cells #[.slice A0_0 l0_0.length c0_0, .slice A0_1 l0_1.length c0_1] 41 (0, 0)) (by (with_reducible repeat (first | refine blk_drewN ?_ _ | refine blk_drew ?_ | refine blk_alloc ?_ _)); exact BK101.out) hb)
                    have n4_ := Aside0.mk (Kd.C_below (by repeat (first | (with_reducible exact HR127_0.out) | (with_reducible refine Kd.C_alloc ?_ _) | (with_reducible refine Kd.C_drewN ?_ _) | (with_reducible refine Kd.C_drew ?_) | exact HR127_0.out)) hb)
                    have n5_ := Aside0.mk (below_step (by repeat (first | (with_reducible first | exact HB.out | apply below_alloc | apply pw_below_drewN | apply below_drew1 | refine below_set ?_ GE101.out) | exact HB.out)) hb)
                    clear HO_5
                    clear HO_7
                    clear HL127_0
                    clear BK101
                    clear HR127_0
                    clear HB
                    have HO_5 := n0_
                    have HO_7 := n1_
                    have HL127_0 := n2_
                    have BK101 := n3_
                    have HR127_0 := n4_
                    have HB := n5_
                    clear n0_ n1_ n2_ n3_ n4_ n5_
                    (try clear hb)
                    (try clear hb2)
                    (try clear hk)
                    (try clear hi)
                    refine hK.out _ _ ⟨(blk_cell BK101.out 0).trans rfl, (blk_cell BK101.out 1).trans rfl, HS2_⟩ (fun hHeld => ?_)
                    clear hK K
                    refine norm_ (a' := ?_) ?_ ?_
                    rotate_left
                    ·show Act.put _ (some 148) _ = _
                     simp only [Act.put, List.setIfInBounds_toArray, List.set_cons_zero, List.set_cons_succ, i64_w, i32_w]
                     rfl
                    refine pure_ (i := 6) (N := some 142) (v := ?_) (a' := ?_) #[true, true, true, true, true, true, true, false, false, false, false] rfl rfl (any_of HT_.out (by kernel_rfl)) (fun _ _ _ h => h) (Or.inl ⟨by rfl, ?_⟩) ?_ ?_
                    rotate_left
                    ·intro w'
                     go_simp
                     with_reducible rfl
                    rotate_left
                    ·simp only [Act.put, List.setIfInBounds_toArray, List.set_cons_zero, List.set_cons_succ, i64_w, i32_w]
                     rfl
                    refine pure_ (i := 7) (N := some 149) (v := ?_) (a' := ?_) #[true, true, true, true, true, true, true, true, false, false, false] rfl rfl (any_of HT_.out (by kernel_rfl)) (fun _ _ _ h => h) (Or.inl ⟨by rfl, ?_⟩) ?_ ?_
                    rotate_left
                    ·intro w'
                     go_simp
                     with_reducible rfl
                    rotate_left
                    ·simp only [Act.put, List.setIfInBounds_toArray, List.set_cons_zero, List.set_cons_succ, i64_w, i32_w]
                     rfl
                    refine pure_ (i := 8) (N := some 150) (v := ?_) (a' := ?_) #[true, true, true, true, true, true, true, true, true, false, false] rfl rfl (any_of HT_.out (by kernel_rfl)) (fun _ _ _ h => h) (Or.inl ⟨by rfl, ?_⟩) ?_ ?_
                    rotate_left
                    ·intro w'
                     go_simp
                     with_reducible rfl
                    rotate_left
                    ·simp only [Act.put, List.setIfInBounds_toArray, List.set_cons_zero, List.set_cons_succ, i64_w, i32_w]
                     rfl
                    refine pure_ (i := 9) (N := some 20) (v := ?_) (a' := ?_) #[true, true, true, true, true, true, true, true, true, true, false] rfl rfl (any_of HT_.out (by kernel_rfl)) (fun _ _ _ h => h) (Or.inl ⟨by rfl, ?_⟩) ?_ ?_
                    rotate_left
                    ·intro w'
                     go_simp
                     with_reducible rfl
                    rotate_left
                    ·simp only [Act.put, List.setIfInBounds_toArray, List.set_cons_zero, List.set_cons_succ, i64_w, i32_w]
                     rfl
                    refine pure_ (i := 10) (N := some 21) (v := ?_) (a' := ?_) #[true, true, true, true, true, true, true, true, true, true, true] rfl rfl (any_of HT_.out (by kernel_rfl)) (fun _ _ _ h => h) (Or.inl ⟨by rfl, ?_⟩) ?_ ?_
                    rotate_left
                    ·intro w'
                     go_simp
                     with_reducible rfl
                    rotate_left
                    ·simp only [Act.put, List.setIfInBounds_toArray, List.set_cons_zero, List.set_cons_succ, i64_w, i32_w]
                     rfl
                    refine done_ (done_of HT_.out (by kernel_rfl)) ?_
                    try go_wp2
                    have n0_ := Aside0.mk (Kd.R_drew HO_5.out)
                    have n1_ := Aside0.mk (Kd.R_drew HO_7.out)
                    have n2_ := Aside0.mk (Kd.R_drew HL127_0.out)
                    have n3_ := Aside0.mk (blk_drew BK101.out)
                    have n4_ := Aside0.mk (Kd.C_drew HR127_0.out)
                    have n5_ := Aside0.mk (below_drew1 HB.out)
                    clear HO_5
                    clear HO_7
                    clear HL127_0
                    clear BK101
                    clear HR127_0
                    clear HB
                    have HO_5 := n0_
                    have HO_7 := n1_
                    have HL127_0 := n2_
                    have BK101 := n3_
                    have HR127_0 := n4_
                    have HB := n5_
                    clear n0_ n1_ n2_ n3_ n4_ n5_
                    have p130 : 0 ≤ (x19_4 : Int) := of_decide_eq_true (by first | (with_reducible assumption) | assumption)
                    have q130 : x19_4 < (t106.length : Int) := of_decide_eq_true (by first | (with_reducible assumption) | assumption)
                    obtain ⟨ad130, A130_0, c130_0, e130, hx130_0, hl130_0, hi130_0⟩ := at_L12 (Kd.R_reads' HO_5.out).2.2 x19_4 p130 q130
                    obtain rfl : ad127 = ad130 := (by injection e130)
                    obtain ⟨ce130, hce130, hMe130, hcc130⟩ := Kd.R_get HO_5.out [] x19_4 p130 (by first | exact q130 | exact of_decide_eq_true (by first | (with_reducible assumption) | assumption) | (have e_ := (Kd.R_reads' HO_5.out).1; omega))
                    obtain ⟨ve130_0, rfl, ge130_0⟩ := hMe130
                    have hv130_0 := hcc130 0 _ rfl
                    rw [Nat.add_zero, show ((Kd.slice 3 (Kd.int .i64))).sz = 1 from rfl, Nat.mul_one] at hv130_0
                    replace hv130_0 := Option.some.inj (hv130_0.symm.trans hx130_0)
                    rw [hv130_0] at ge130_0
                    have HL130_0 := Aside0.mk (show Kd.R (Kd.int .i64) 3 _ _ _ _ (rd_L12 t106 x19_4) from ge130_0)
                    clear hv130_0 ge130_0
                    clear hcc130 hce130
                    have HR130_0 := Aside0.mk hi130_0
                    have HC130_0 := Aside0.mk hl130_0
                    clear hi130_0 hl130_0
                    replace p130 := eq_true p130
                    replace q130 := eq_true q130
                    refine start_ (n := 11) (S := fun w' => w'.cell? ⟨gb101, 0, none⟩ = some (.slice A0_0 l0_0.length c0_0) ∧ w'.cell? ⟨gb101, 1, none⟩ = some (.slice A0_1 l0_1.length c0_1) ∧ w'.cell? (ad127.add (x19_4).toNat) = some (.slice A130_0 (rd_L12 t106 x19_4).length c130_0)) (ds := []) #[false, false, false, false, false, false, false, false, false, false, false] (by kernel_rfl) rfl rfl ⟨(blk_cell BK101.out 0).trans rfl, (blk_cell BK101.out 1).trans rfl, hx130_0⟩ (fun hHeld => ?_); refine with_tabW trishawlaw02_JamCalm.tab21 trishawlaw02_JamCalm.bits21 (fun HT_ HW_ => ?_)
                    generalize w88.drew = w89 at HO_5 HO_7 HL127_0 BK101 HR127_0 HB HL130_0 HR130_0 hx130_0 hHeld ⊢
                    refine pure_ (i := 1) (N := some 153) (v := ?_) (a' := ?_) #[false, true, false, false, false, false, false, false, false, false, false] rfl rfl (any_of HT_.out (by kernel_rfl)) (fun _ _ _ h => h) (Or.inl ⟨by rfl, ?_⟩) ?_ ?_
                    rotate_left
                    ·intro w'
                     go_simp
                     with_reducible rfl
                    rotate_left
                    ·simp only [Act.put, List.setIfInBounds_toArray, List.set_cons_zero, List.set_cons_succ, i64_w, i32_w]
                     rfl
                    refine pure_ (i := 2) (N := some 154) (v := ?_) (a' := ?_) #[false, true, true, false, false, false, false, false, false, false, false] rfl rfl (any_of HT_.out (by kernel_rfl)) (fun _ _ _ h => h) (Or.inl ⟨by rfl, ?_⟩) ?_ ?_
                    rotate_left
                    ·intro w'
                     go_simp
                     with_reducible rfl
                    rotate_left
                    ·simp only [Act.put, List.setIfInBounds_toArray, List.set_cons_zero, List.set_cons_succ, i64_w, i32_w]
                     rfl
                    refine pure_ (i := 3) (N := some 155) (v := ?_) (a' := ?_) #[false, true, true, true, false, false, false, false, false, false, false] rfl rfl (any_of HT_.out (by kernel_rfl)) (fun _ _ _ h => h) (Or.inl ⟨by rfl, ?_⟩) ?_ ?_
                    rotate_left
                    ·intro w'
                     go_simp
                     with_reducible rfl
                    rotate_left
                    ·simp only [Act.put, List.setIfInBounds_toArray, List.set_cons_zero, List.set_cons_succ, i64_w, i32_w]
                     rfl
                    refine take_ (i := 0) (N := some 152) (v := ?_) (a' := ?_) #[true, true, true, true, false, false, false, false, false, false, false] rfl rfl (take_ofW HT_.out HW_.out (by kernel_rfl)) (fun _ _ _ h => h) (Or.inl ⟨by rfl, ?_⟩) hHeld ?_ ?_
                    rotate_left
                    ·rintro w' ⟨s0, s1, s2⟩
                     go_simp
                     with_reducible rfl
                    rotate_left
                    ·simp only [Act.put, List.setIfInBounds_toArray, List.set_cons_zero, List.set_cons_succ, i64_w, i32_w]
                     rfl
                    refine take_ (i := 4) (N := some 156) (v := ?_) (a' := ?_) #[true, true, true, true, true, false, false, false, false, false, false] rfl rfl (take_ofW HT_.out HW_.out (by kernel_rfl)) (fun _ _ _ h => h) (Or.inl ⟨by rfl, ?_⟩) hHeld ?_ ?_
                    rotate_left
                    ·rintro w' ⟨s0, s1, s2⟩
                     go_simp
                     with_reducible rfl
                    rotate_left
                    ·simp only [Act.put, List.setIfInBounds_toArray, List.set_cons_zero, List.set_cons_succ, i64_w, i32_w]
                     rfl
                    refine one_ (i := 5) (N := some 157) #[true, true, true, true, true, true, false, false, false, false, false] rfl rfl (one_of HT_.out (by kernel_rfl)) (by decide) (fun K hK => ?_)
                    refine goes_ Try.func39 (by kernel_rfl) rfl #[.agg #[.slice A0_0 l0_0.length c0_0, .slice A0_1 l0_1.length c0_1], .slice A130_0 (rd_L12 t106 x19_4).length c130_0] (by rfl) rfl rfl (by (try simp only [List.map_toArray, List.map_cons, List.map_nil]); first | done | rfl | (simp only [List.length_drop, List.length_take]; rfl)) ?_
                    with_reducible refine (jam_Step.calls kj74 _ _ l0_0 _ _ l0_1 _ _ (rd_L12 t106 x19_4) t131 t134 _ ?side1 ?side2 ?side3 ?side4 ?side5 ?side6 A83.out).mono ?_
                    (case side1 => repeat (first | exact (Kd.C_below HR0_0.out HB.out) | (with_reducible refine Kd.C_alloc ?_ _) | (with_reducible refine Kd.C_drewN ?_ _) | (with_reducible refine Kd.C_drew ?_)))
                    (case side2 => exact HC0_0.out)
                    (case side3 => repeat (first | exact (Kd.C_below HR0_1.out HB.out) | (with_reducible refine Kd.C_alloc ?_ _) | (with_reducible refine Kd.C_drewN ?_ _) | (with_reducible refine Kd.C_drew ?_)))
                    (case side4 => exact HC0_1.out)
                    (case side5 => repeat (first | exact (by repeat (first | (with_reducible exact HR130_0.out) | (with_reducible refine Kd.C_alloc ?_ _) | (with_reducible refine Kd.C_drewN ?_ _) | (with_reducible refine Kd.C_drew ?_) | exact HR130_0.out)) | (with_reducible refine Kd.C_alloc ?_ _) | (with_reducible refine Kd.C_drewN ?_ _) | (with_reducible refine Kd.C_drew ?_)))
                    (case side6 => exact HC130_0.out)
                    rintro e w90 ⟨v132, rfl, ho0, hb⟩
                    have HS2_ := (hb.cell (World.block_lt_of_cell? _ _ (hHeld.2.2))).trans (hHeld.2.2)
                    refine ⟨_, rfl, ?_⟩
                    have n0_ := Aside0.mk (Kd.R_elder' (by (with_reducible repeat (first | apply Kd.R_alloc | apply Kd.R_drewN | apply Kd.R_drew)); exact HO_5.out) (Kd.R_base ho0) hb)
                    have n1_ := Aside0.mk (Kd.R_elder' (by (with_reducible repeat (first | apply Kd.R_alloc | apply Kd.R_drewN | apply Kd.R_drew)); exact HO_7.out) (Kd.R_base ho0) hb)
                    have n2_ := Aside0.mk (Kd.R_elder' (by (with_reducible repeat (first | apply Kd.R_alloc | apply Kd.R_drewN | apply Kd.R_drew)); exact HL127_0.out) (Kd.R_base ho0) hb)
                    have n3_ := Aside0.mk (Kd.R_elder' (by (with_reducible repeat (first | apply Kd.R_alloc | apply Kd.R_drewN | apply Kd.R_drew)); exact HL130_0.out) (Kd.R_base ho0) hb)
                    have n4_ := Aside0.mk (Kd.R_lower (Kd.R_new' (Kd.R_new' (Kd.R_new' ho0 (Kd.R_lt (by (with_reducible repeat (first | apply Kd.R_alloc | apply Kd.R_drewN | apply Kd.R_drew)); exact HO_7.out))) (Kd.R_lt (by (with_reducible repeat (first | apply Kd.R_alloc | apply Kd.R_drewN | apply Kd.R_drew)); exact HL127_0.out))) (Kd.R_lt (by (with_reducible repeat (first | apply Kd.R_alloc | apply Kd.R_drewN | apply Kd.R_drew)); exact HL130_0.out))) (below_size (by repeat (first | (with_reducible first | exact HB.out | apply below_alloc | apply pw_below_drewN | apply below_drew1 | refine below_set ?_ GE101.out) | exact HB.out))))
                    have n5_ := Aside0.mk (blk_below (g := gb101) (o := .cells #[.slice A0_0 l0_0.length c0_0, .slice A0_1 l0_1.length c0_1] 41 (0, 0)) (by (with_reducible repeat (first | refine blk_drewN ?_ _ | refine blk_drew ?_ | refine blk_alloc ?_ _)); exact BK101.out) hb)
                    have n6_ := Aside0.mk (Kd.C_below (by repeat (first | (with_reducible exact HR127_0.out) | (with_reducible refine Kd.C_alloc ?_ _) | (with_reducible refine Kd.C_drewN ?_ _) | (with_reducible refine Kd.C_drew ?_) | exact HR127_0.out)) hb)
                    have n7_ := Aside0.mk (Kd.C_below (by repeat (first | (with_reducible exact HR130_0.out) | (with_reducible refine Kd.C_alloc ?_ _) | (with_reducible refine Kd.C_drewN ?_ _) | (with_reducible refine Kd.C_drew ?_) | exact HR130_0.out)) hb)
                    have n8_ := Aside0.mk (below_step (by repeat (first | (with_reducible first | exact HB.out | apply below_alloc | apply pw_below_drewN | apply below_drew1 | refine below_set ?_ GE101.out) | exact HB.out)) hb)
                    clear HO_5
                    clear HO_7
                    clear HL127_0
                    clear HL130_0
                    clear BK101
                    clear HR127_0
                    clear HR130_0
                    clear HB
                    have HO_5 := n0_
                    have HO_7 := n1_
                    have HL127_0 := n2_
                    have HL130_0 := n3_
                    have HO133 := n4_
                    have BK101 := n5_
                    have HR127_0 := n6_
                    have HR130_0 := n7_
                    have HB := n8_
                    clear n0_ n1_ n2_ n3_ n4_ n5_ n6_ n7_ n8_
                    (try clear hb)
                    (try clear hb2)
                    (try clear hk)
                    (try clear hi)
                    (try clear ho0)
                    refine hK.out _ _ ⟨(blk_cell BK101.out 0).trans rfl, (blk_cell BK101.out 1).trans rfl, HS2_⟩ (fun hHeld => ?_)
                    clear hK K
                    refine norm_ (a' := ?_) ?_ ?_
                    rotate_left
                    ·show Act.put _ (some 157) _ = _
                     simp only [Act.put, List.setIfInBounds_toArray, List.set_cons_zero, List.set_cons_succ, i64_w, i32_w]
                     rfl
                    refine pure_ (i := 6) (N := some 151) (v := ?_) (a' := ?_) #[true, true, true, true, true, true, true, false, false, false, false] rfl rfl (any_of HT_.out (by kernel_rfl)) (fun _ _ _ h => h) (Or.inl ⟨by rfl, ?_⟩) ?_ ?_
                    rotate_left
                    ·intro w'
                     go_simp
                     with_reducible rfl
                    rotate_left
                    ·simp only [Act.put, List.setIfInBounds_toArray, List.set_cons_zero, List.set_cons_succ, i64_w, i32_w]
                     rfl
                    refine pure_ (i := 7) (N := some 158) (v := ?_) (a' := ?_) #[true, true, true, true, true, true, true, true, false, false, false] rfl rfl (any_of HT_.out (by kernel_rfl)) (fun _ _ _ h => h) (Or.inl ⟨by rfl, ?_⟩) ?_ ?_
                    rotate_left
                    ·intro w'
                     go_simp
                     with_reducible rfl
                    rotate_left
                    ·simp only [Act.put, List.setIfInBounds_toArray, List.set_cons_zero, List.set_cons_succ, i64_w, i32_w]
                     rfl
                    refine pure_ (i := 8) (N := some 159) (v := ?_) (a' := ?_) #[true, true, true, true, true, true, true, true, true, false, false] rfl rfl (any_of HT_.out (by kernel_rfl)) (fun _ _ _ h => h) (Or.inl ⟨by rfl, ?_⟩) ?_ ?_
                    rotate_left
                    ·intro w'
                     go_simp
                     with_reducible rfl
                    rotate_left
                    ·simp only [Act.put, List.setIfInBounds_toArray, List.set_cons_zero, List.set_cons_succ, i64_w, i32_w]
                     rfl
                    refine pure_ (i := 9) (N := some 22) (v := ?_) (a' := ?_) #[true, true, true, true, true, true, true, true, true, true, false] rfl rfl (any_of HT_.out (by kernel_rfl)) (fun _ _ _ h => h) (Or.inl ⟨by rfl, ?_⟩) ?_ ?_
                    rotate_left
                    ·intro w'
                     go_simp
                     with_reducible rfl
                    rotate_left
                    ·simp only [Act.put, List.setIfInBounds_toArray, List.set_cons_zero, List.set_cons_succ, i64_w, i32_w]
                     rfl
                    refine pure_ (i := 10) (N := some 23) (v := ?_) (a' := ?_) #[true, true, true, true, true, true, true, true, true, true, true] rfl rfl (any_of HT_.out (by kernel_rfl)) (fun _ _ _ h => h) (Or.inl ⟨by rfl, ?_⟩) ?_ ?_
                    rotate_left
                    ·intro w'
                     go_simp
                     with_reducible rfl
                    rotate_left
                    ·simp only [Act.put, List.setIfInBounds_toArray, List.set_cons_zero, List.set_cons_succ, i64_w, i32_w]
                     rfl
                    refine done_ (done_of HT_.out (by kernel_rfl)) ?_
                    try go_wp2
                    go_roundg kj74
                    case measure => have := HJ2.out; have := HJ27.out; have := HJ47.out; have := HK4.out; have := HJ68.out; have := HJ74.out; omega
                    case rel => exact ⟨(x16_68), (x17_74), (ji86), (wrap64 (x19_4 + 1)), (by first | rfl | (simp; done) | (simp [*]; done)), (by first | rfl | (simp; done) | (simp [*]; done)), (by first | rfl | (simp; done) | (simp only [← hji86] <;> (first | rfl | simp)) | (simp [*]; done)), (by first | rfl | (simp; done) | (simp [*]; done)), H', ⟨by have := HJ2.out; have := HJ27.out; have := HJ47.out; have := HK4.out; have := HJ68.out; have := HJ74.out; omega⟩, ⟨by (with_reducible repeat (first | apply Kd.R_alloc | apply Kd.R_drewN | apply Kd.R_drew)); exact Kd.R_mono HO_5.out (fun _ hk => hk.1)⟩, ⟨by (with_reducible repeat (first | apply Kd.R_alloc | apply Kd.R_drewN | apply Kd.R_drew)); exact Kd.R_mono HO_7.out (fun _ hk => trivial)⟩, ⟨by (with_reducible repeat (first | refine blk_drewN ?_ _ | refine blk_drew ?_ | refine blk_alloc ?_ _)); exact BK101.out⟩, ⟨by repeat (first | (with_reducible first | exact HB.out | apply below_alloc | apply pw_below_drewN | apply below_drew1 | refine below_set ?_ GE101.out) | exact HB.out)⟩⟩
                   ·rw [if_neg c85] at H
                    have c85b0 : (t134 == 10) = false := beq_eq_false_iff_ne.mpr c85
                    have c85b1 : (t134 != 10) = true := bne_iff_ne.mpr c85
                    exact absurd ((Option.some.inj H).trans HRT.out) (by decide)
                  ·rw [if_neg c84] at H
                   have c84b0 : (t129 == 0) = false := beq_eq_false_iff_ne.mpr c84
                   have c84b1 : (t129 != 0) = true := bne_iff_ne.mpr c84
                   exact absurd ((Option.some.inj H).trans HRT.out) (by decide)
                 ·rw [if_neg c81] at H
                  exact absurd H (by simp)
                ·rw [if_neg c80] at H
                 exact absurd H (by simp)
           ·rw [if_neg c68] at H
            have c68b0 : decide (x19_4 < (t106.length : Int)) = false := decide_eq_false c68
            clear c68
            have H' := Aside0.mk H
            clear H
            obtain ⟨Ao99, co99, eo99⟩ := Kd.R_slice HO_5.out
            subst eo99
            go_wp2
            go_loopg [24, 25] k4 (fun kq v24 v25 w' => ∃ (x24_5 : Bool) (x25_5 : Int), v24 = .bool x24_5 ∧ v25 = .int .i64 x25_5 ∧ Aside0 (trishawlaw02_JamCalm.l1 kq t106 t113 x16_4 x17_4 x18_4 x24_5 x25_5 l0_0 l0_1 = some r) ∧ Aside0 (kq ≤ k4) ∧ Aside0 (Kd.R (Kd.slice 3 (Kd.int .i64)) 24 w' w.heap.size (fun _ => True) (.slice Ao99 t106.length co99) t106) ∧ Aside0 (w'.heap[gb101]? = some (.cells #[(.slice A0_0 l0_0.length c0_0), (.slice A0_1 l0_1.length c0_1)] 41 (0, 0))) ∧ Aside0 (Below w.heap.size w w'))
            case atStart => exact ⟨(false), (0), (by first | rfl | (simp; done) | (simp [*]; done)), (by first | rfl | (simp; done) | (simp [*]; done)), H', ⟨Nat.le_refl _⟩, ⟨by (with_reducible repeat (first | apply Kd.R_alloc | apply Kd.R_drewN | apply Kd.R_drew)); exact Kd.R_mono HO_5.out (fun _ hk => trivial)⟩, ⟨by (with_reducible repeat (first | refine blk_drewN ?_ _ | refine blk_drew ?_ | refine blk_alloc ?_ _)); exact BK101.out⟩, ⟨by repeat (first | (with_reducible first | exact HB.out | apply below_alloc | apply pw_below_drewN | apply below_drew1 | refine below_set ?_ GE101.out) | exact HB.out)⟩⟩
            case round => as_aux_lemma =>
             clear H'
             try clear c1
             try clear p1
             try clear q1
             try clear hx1
             try clear p2
             try clear c3
             try clear c6
             try clear c8
             try clear c12
             try clear p12
             try clear q12
             try clear hx12
             try clear c13
             try clear p13
             try clear q13
             try clear hx13
             try clear c32
             try clear c39
             try clear c68
             try clear c68b0
             try clear c80
             try clear c81
             try clear c84
             try clear c84b0
             try clear c84b1
             try clear hx127_0
             try clear hx130_0
             try clear p127
             try clear p130
             try clear q127
             try clear q130
             obtain ⟨x24_5, x25_5, rfl, rfl, HA, HK5, HO_5, BK101, HB⟩ := hrel
             cases gk with
             | zero => exact absurd HA.out (by simp [trishawlaw02_JamCalm.l1])
             | succ k5 =>
              have H := HA.out
              clear HA
              simp only [trishawlaw02_JamCalm.l1] at H
              by_cases c100 : x25_5 < (t106.length : Int)
              ·rw [if_pos c100] at H
               have c100b0 : decide (x25_5 < (t106.length : Int)) = true := decide_eq_true c100
               clear c100
               by_cases c101 : 0 ≤ x25_5
               ·rw [if_pos c101] at H
                have c101b0 : decide (0 ≤ x25_5) = true := decide_eq_true c101
                clear c101
                replace H := Option.bind_eq_some_iff.mp H
                obtain ⟨⟨t136, t137⟩, A1020, H⟩ := H
                replace H : (if x24_5 = true then (trishawlaw02_JamCalm.l1 k5 t106 t113 x16_4 x17_4 x18_4 true (wrap64 (x25_5 + 1)) l0_0 l0_1) else (trishawlaw02_JamCalm.l1 k5 t106 t113 x16_4 x17_4 x18_4 (t136 == x18_4) (wrap64 (x25_5 + 1)) l0_0 l0_1)) = some r := H
                have A102 := Aside0.mk A1020
                clear A1020
                by_cases c103 : x24_5 = true
                ·subst c103
                 have H1 : (trishawlaw02_JamCalm.l1 k5 t106 t113 x16_4 x17_4 x18_4 true (wrap64 (x25_5 + 1)) l0_0 l0_1) = some r := by rw [if_pos rfl] at H; exact H
                 clear H
                 have H := H1
                 clear H1
                 have H' := Aside0.mk H
                 clear H
                 try go_wp2
                 have n0_ := Aside0.mk (Kd.R_drew HO_5.out)
                 have n1_ := Aside0.mk (blk_drew BK101.out)
                 have n2_ := Aside0.mk (below_drew1 HB.out)
                 clear HO_5
                 clear BK101
                 clear HB
                 have HO_5 := n0_
                 have BK101 := n1_
                 have HB := n2_
                 clear n0_ n1_ n2_
                 have p135 : 0 ≤ (x25_5 : Int) := of_decide_eq_true (by first | (with_reducible assumption) | assumption)
                 have q135 : x25_5 < (t106.length : Int) := of_decide_eq_true (by first | (with_reducible assumption) | assumption)
                 obtain ⟨ad135, A135_0, c135_0, e135, hx135_0, hl135_0, hi135_0⟩ := at_L12 (Kd.R_reads' HO_5.out).2.2 x25_5 p135 q135
                 cases e135
                 obtain ⟨ce135, hce135, hMe135, hcc135⟩ := Kd.R_get HO_5.out [] x25_5 p135 (by first | exact q135 | exact of_decide_eq_true (by first | (with_reducible assumption) | assumption) | (have e_ := (Kd.R_reads' HO_5.out).1; omega))
                 obtain ⟨ve135_0, rfl, ge135_0⟩ := hMe135
                 have hv135_0 := hcc135 0 _ rfl
                 rw [Nat.add_zero, show ((Kd.slice 3 (Kd.int .i64))).sz = 1 from rfl, Nat.mul_one] at hv135_0
                 replace hv135_0 := Option.some.inj (hv135_0.symm.trans hx135_0)
                 rw [hv135_0] at ge135_0
                 have HL135_0 := Aside0.mk (show Kd.R (Kd.int .i64) 3 _ _ _ _ (rd_L12 t106 x25_5) from ge135_0)
                 clear hv135_0 ge135_0
                 clear hcc135 hce135
                 have HR135_0 := Aside0.mk hi135_0
                 have HC135_0 := Aside0.mk hl135_0
                 clear hi135_0 hl135_0
                 replace p135 := eq_true p135
                 replace q135 := eq_true q135
                 refine start_ (n := 11) (S := fun w' => w'.cell? ⟨gb101, 0, none⟩ = some (.slice A0_0 l0_0.length c0_0) ∧ w'.cell? ⟨gb101, 1, none⟩ = some (.slice A0_1 l0_1.length c0_1) ∧ w'.cell? (ad135.add (x25_5).toNat) = some (.slice A135_0 (rd_L12 t106 x25_5).length c135_0)) (ds := []) #[false, false, false, false, false, false, false, false, false, false, false] (by kernel_rfl) rfl rfl ⟨(blk_cell BK101.out 0).trans rfl, (blk_cell BK101.out 1).trans rfl, hx135_0⟩ (fun hHeld => ?_); refine with_tabW trishawlaw02_JamCalm.tab29 trishawlaw02_JamCalm.bits29 (fun HT_ HW_ => ?_)
                 generalize wr.drew = w104 at HO_5 BK101 HB HL135_0 HR135_0 hx135_0 hHeld ⊢
                 refine pure_ (i := 1) (N := some 177) (v := ?_) (a' := ?_) #[false, true, false, false, false, false, false, false, false, false, false] rfl rfl (any_of HT_.out (by kernel_rfl)) (fun _ _ _ h => h) (Or.inl ⟨by rfl, ?_⟩) ?_ ?_
                 rotate_left
                 ·intro w'
                  go_simp
                  with_reducible rfl
                 rotate_left
                 ·simp only [Act.put, List.setIfInBounds_toArray, List.set_cons_zero, List.set_cons_succ, i64_w, i32_w]
                  rfl
                 refine pure_ (i := 2) (N := some 178) (v := ?_) (a' := ?_) #[false, true, true, false, false, false, false, false, false, false, false] rfl rfl (any_of HT_.out (by kernel_rfl)) (fun _ _ _ h => h) (Or.inl ⟨by rfl, ?_⟩) ?_ ?_
                 rotate_left
                 ·intro w'
                  go_simp
                  with_reducible rfl
                 rotate_left
                 ·simp only [Act.put, List.setIfInBounds_toArray, List.set_cons_zero, List.set_cons_succ, i64_w, i32_w]
                  rfl
                 refine pure_ (i := 3) (N := some 179) (v := ?_) (a' := ?_) #[false, true, true, true, false, false, false, false, false, false, false] rfl rfl (any_of HT_.out (by kernel_rfl)) (fun _ _ _ h => h) (Or.inl ⟨by rfl, ?_⟩) ?_ ?_
                 rotate_left
                 ·intro w'
                  go_simp
                  with_reducible rfl
                 rotate_left
                 ·simp only [Act.put, List.setIfInBounds_toArray, List.set_cons_zero, List.set_cons_succ, i64_w, i32_w]
                  rfl
                 refine take_ (i := 0) (N := some 176) (v := ?_) (a' := ?_) #[true, true, true, true, false, false, false, false, false, false, false] rfl rfl (take_ofW HT_.out HW_.out (by kernel_rfl)) (fun _ _ _ h => h) (Or.inl ⟨by rfl, ?_⟩) hHeld ?_ ?_
                 rotate_left
                 ·rintro w' ⟨s0, s1, s2⟩
                  go_simp
                  with_reducible rfl
                 rotate_left
                 ·simp only [Act.put, List.setIfInBounds_toArray, List.set_cons_zero, List.set_cons_succ, i64_w, i32_w]
                  rfl
                 refine take_ (i := 4) (N := some 180) (v := ?_) (a' := ?_) #[true, true, true, true, true, false, false, false, false, false, false] rfl rfl (take_ofW HT_.out HW_.out (by kernel_rfl)) (fun _ _ _ h => h) (Or.inl ⟨by rfl, ?_⟩) hHeld ?_ ?_
                 rotate_left
                 ·rintro w' ⟨s0, s1, s2⟩
                  go_simp
                  with_reducible rfl
                 rotate_left
                 ·simp only [Act.put, List.setIfInBounds_toArray, List.set_cons_zero, List.set_cons_succ, i64_w, i32_w]
                  rfl
                 refine one_ (i := 5) (N := some 181) #[true, true, true, true, true, true, false, false, false, false, false] rfl rfl (one_of HT_.out (by kernel_rfl)) (by decide) (fun K hK => ?_)
                 refine goes_ Try.func32 (by kernel_rfl) rfl #[.agg #[.slice A0_0 l0_0.length c0_0, .slice A0_1 l0_1.length c0_1], .slice A135_0 (rd_L12 t106 x25_5).length c135_0] (by rfl) rfl rfl (by (try simp only [List.map_toArray, List.map_cons, List.map_nil]); first | done | rfl | (simp only [List.length_drop, List.length_take]; rfl)) ?_
                 with_reducible refine (jam_Potential.calls k5 _ _ l0_0 _ _ l0_1 _ _ (rd_L12 t106 x25_5) t136 t137 _ ?side1 ?side2 ?side3 ?side4 ?side5 ?side6 A102.out).mono ?_
                 (case side1 => repeat (first | exact (Kd.C_below HR0_0.out HB.out) | (with_reducible refine Kd.C_alloc ?_ _) | (with_reducible refine Kd.C_drewN ?_ _) | (with_reducible refine Kd.C_drew ?_)))
                 (case side2 => exact HC0_0.out)
                 (case side3 => repeat (first | exact (Kd.C_below HR0_1.out HB.out) | (with_reducible refine Kd.C_alloc ?_ _) | (with_reducible refine Kd.C_drewN ?_ _) | (with_reducible refine Kd.C_drew ?_)))
                 (case side4 => exact HC0_1.out)
                 (case side5 => repeat (first | exact (by repeat (first | (with_reducible exact HR135_0.out) | (with_reducible refine Kd.C_alloc ?_ _) | (with_reducible refine Kd.C_drewN ?_ _) | (with_reducible refine Kd.C_drew ?_) | exact HR135_0.out)) | (with_reducible refine Kd.C_alloc ?_ _) | (with_reducible refine Kd.C_drewN ?_ _) | (with_reducible refine Kd.C_drew ?_)))
                 (case side6 => exact HC135_0.out)
                 rintro e w105 ⟨rfl, hb⟩
                 have HS2_ := (hb.cell (World.block_lt_of_cell? _ _ (hHeld.2.2))).trans (hHeld.2.2)
                 refine ⟨_, rfl, ?_⟩
                 have n0_ := Aside0.mk (Kd.R_below (by (with_reducible repeat (first | apply Kd.R_alloc | apply Kd.R_drewN | apply Kd.R_drew)); exact HO_5.out) hb)
                 have n1_ := Aside0.mk (Kd.R_below (by (with_reducible repeat (first | apply Kd.R_alloc | apply Kd.R_drewN | apply Kd.R_drew)); exact HL135_0.out) hb)
                 have n2_ := Aside0.mk (blk_below (g := gb101) (o := .cells #[.slice A0_0 l0_0.length c0_0, .slice A0_1 l0_1.length c0_1] 41 (0, 0)) (by (with_reducible repeat (first | refine blk_drewN ?_ _ | refine blk_drew ?_ | refine blk_alloc ?_ _)); exact BK101.out) hb)
                 have n3_ := Aside0.mk (Kd.C_below (by repeat (first | (with_reducible exact HR135_0.out) | (with_reducible refine Kd.C_alloc ?_ _) | (with_reducible refine Kd.C_drewN ?_ _) | (with_reducible refine Kd.C_drew ?_) | exact HR135_0.out)) hb)
                 have n4_ := Aside0.mk (below_step (by repeat (first | (with_reducible first | exact HB.out | apply below_alloc | apply pw_below_drewN | apply below_drew1 | refine below_set ?_ GE101.out) | exact HB.out)) hb)
                 clear HO_5
                 clear HL135_0
                 clear BK101
                 clear HR135_0
                 clear HB
                 have HO_5 := n0_
                 have HL135_0 := n1_
                 have BK101 := n2_
                 have HR135_0 := n3_
                 have HB := n4_
                 clear n0_ n1_ n2_ n3_ n4_
                 (try clear hb)
                 (try clear hb2)
                 (try clear hk)
                 (try clear hi)
                 refine hK.out _ _ ⟨(blk_cell BK101.out 0).trans rfl, (blk_cell BK101.out 1).trans rfl, HS2_⟩ (fun hHeld => ?_)
                 clear hK K
                 refine norm_ (a' := ?_) ?_ ?_
                 rotate_left
                 ·show Act.put _ (some 181) _ = _
                  simp only [Act.put, List.setIfInBounds_toArray, List.set_cons_zero, List.set_cons_succ, i64_w, i32_w]
                  rfl
                 refine pure_ (i := 6) (N := some 175) (v := ?_) (a' := ?_) #[true, true, true, true, true, true, true, false, false, false, false] rfl rfl (any_of HT_.out (by kernel_rfl)) (fun _ _ _ h => h) (Or.inl ⟨by rfl, ?_⟩) ?_ ?_
                 rotate_left
                 ·intro w'
                  go_simp
                  with_reducible rfl
                 rotate_left
                 ·simp only [Act.put, List.setIfInBounds_toArray, List.set_cons_zero, List.set_cons_succ, i64_w, i32_w]
                  rfl
                 refine pure_ (i := 7) (N := some 182) (v := ?_) (a' := ?_) #[true, true, true, true, true, true, true, true, false, false, false] rfl rfl (any_of HT_.out (by kernel_rfl)) (fun _ _ _ h => h) (Or.inl ⟨by rfl, ?_⟩) ?_ ?_
                 rotate_left
                 ·intro w'
                  go_simp
                  with_reducible rfl
                 rotate_left
                 ·simp only [Act.put, List.setIfInBounds_toArray, List.set_cons_zero, List.set_cons_succ, i64_w, i32_w]
                  rfl
                 refine pure_ (i := 8) (N := some 183) (v := ?_) (a' := ?_) #[true, true, true, true, true, true, true, true, true, false, false] rfl rfl (any_of HT_.out (by kernel_rfl)) (fun _ _ _ h => h) (Or.inl ⟨by rfl, ?_⟩) ?_ ?_
                 rotate_left
                 ·intro w'
                  go_simp
                  with_reducible rfl
                 rotate_left
                 ·simp only [Act.put, List.setIfInBounds_toArray, List.set_cons_zero, List.set_cons_succ, i64_w, i32_w]
                  rfl
                 refine pure_ (i := 9) (N := some 26) (v := ?_) (a' := ?_) #[true, true, true, true, true, true, true, true, true, true, false] rfl rfl (any_of HT_.out (by kernel_rfl)) (fun _ _ _ h => h) (Or.inl ⟨by rfl, ?_⟩) ?_ ?_
                 rotate_left
                 ·intro w'
                  go_simp
                  with_reducible rfl
                 rotate_left
                 ·simp only [Act.put, List.setIfInBounds_toArray, List.set_cons_zero, List.set_cons_succ, i64_w, i32_w]
                  rfl
                 refine pure_ (i := 10) (N := some 27) (v := ?_) (a' := ?_) #[true, true, true, true, true, true, true, true, true, true, true] rfl rfl (any_of HT_.out (by kernel_rfl)) (fun _ _ _ h => h) (Or.inl ⟨by rfl, ?_⟩) ?_ ?_
                 rotate_left
                 ·intro w'
                  go_simp
                  with_reducible rfl
                 rotate_left
                 ·simp only [Act.put, List.setIfInBounds_toArray, List.set_cons_zero, List.set_cons_succ, i64_w, i32_w]
                  rfl
                 refine done_ (done_of HT_.out (by kernel_rfl)) ?_
                 try go_wp2
                 go_roundg k5
                 case measure => have := HJ2.out; have := HJ27.out; have := HJ47.out; have := HK4.out; have := HK5.out; omega
                 case rel => exact ⟨(true), (wrap64 (x25_5 + 1)), (by first | rfl | (simp; done) | (simp [*]; done)), (by first | rfl | (simp; done) | (simp [*]; done)), H', ⟨by have := HJ2.out; have := HJ27.out; have := HJ47.out; have := HK4.out; have := HK5.out; omega⟩, ⟨by (with_reducible repeat (first | apply Kd.R_alloc | apply Kd.R_drewN | apply Kd.R_drew)); exact HO_5.out⟩, ⟨by (with_reducible repeat (first | refine blk_drewN ?_ _ | refine blk_drew ?_ | refine blk_alloc ?_ _)); exact BK101.out⟩, ⟨by repeat (first | (with_reducible first | exact HB.out | apply below_alloc | apply pw_below_drewN | apply below_drew1 | refine below_set ?_ GE101.out) | exact HB.out)⟩⟩
                ·replace c103 := Bool.eq_false_iff.mpr c103
                 subst c103
                 have H1 : (trishawlaw02_JamCalm.l1 k5 t106 t113 x16_4 x17_4 x18_4 (t136 == x18_4) (wrap64 (x25_5 + 1)) l0_0 l0_1) = some r := by rw [if_neg (show ¬ (false = true) by decide)] at H; exact H
                 clear H
                 have H := H1
                 clear H1
                 have H' := Aside0.mk H
                 clear H
                 try go_wp2
                 have n0_ := Aside0.mk (Kd.R_drew HO_5.out)
                 have n1_ := Aside0.mk (blk_drew BK101.out)
                 have n2_ := Aside0.mk (below_drew1 HB.out)
                 clear HO_5
                 clear BK101
                 clear HB
                 have HO_5 := n0_
                 have BK101 := n1_
                 have HB := n2_
                 clear n0_ n1_ n2_
                 have p135 : 0 ≤ (x25_5 : Int) := of_decide_eq_true (by first | (with_reducible assumption) | assumption)
                 have q135 : x25_5 < (t106.length : Int) := of_decide_eq_true (by first | (with_reducible assumption) | assumption)
                 obtain ⟨ad135, A135_0, c135_0, e135, hx135_0, hl135_0, hi135_0⟩ := at_L12 (Kd.R_reads' HO_5.out).2.2 x25_5 p135 q135
                 cases e135
                 obtain ⟨ce135, hce135, hMe135, hcc135⟩ := Kd.R_get HO_5.out [] x25_5 p135 (by first | exact q135 | exact of_decide_eq_true (by first | (with_reducible assumption) | assumption) | (have e_ := (Kd.R_reads' HO_5.out).1; omega))
                 obtain ⟨ve135_0, rfl, ge135_0⟩ := hMe135
                 have hv135_0 := hcc135 0 _ rfl
                 rw [Nat.add_zero, show ((Kd.slice 3 (Kd.int .i64))).sz = 1 from rfl, Nat.mul_one] at hv135_0
                 replace hv135_0 := Option.some.inj (hv135_0.symm.trans hx135_0)
                 rw [hv135_0] at ge135_0
                 have HL135_0 := Aside0.mk (show Kd.R (Kd.int .i64) 3 _ _ _ _ (rd_L12 t106 x25_5) from ge135_0)
                 clear hv135_0 ge135_0
                 clear hcc135 hce135
                 have HR135_0 := Aside0.mk hi135_0
                 have HC135_0 := Aside0.mk hl135_0
                 clear hi135_0 hl135_0
                 replace p135 := eq_true p135
                 replace q135 := eq_true q135
                 refine start_ (n := 11) (S := fun w' => w'.cell? ⟨gb101, 0, none⟩ = some (.slice A0_0 l0_0.length c0_0) ∧ w'.cell? ⟨gb101, 1, none⟩ = some (.slice A0_1 l0_1.length c0_1) ∧ w'.cell? (ad135.add (x25_5).toNat) = some (.slice A135_0 (rd_L12 t106 x25_5).length c135_0)) (ds := []) #[false, false, false, false, false, false, false, false, false, false, false] (by kernel_rfl) rfl rfl ⟨(blk_cell BK101.out 0).trans rfl, (blk_cell BK101.out 1).trans rfl, hx135_0⟩ (fun hHeld => ?_); refine with_tabW trishawlaw02_JamCalm.tab29 trishawlaw02_JamCalm.bits29 (fun HT_ HW_ => ?_)
                 generalize wr.drew = w106 at HO_5 BK101 HB HL135_0 HR135_0 hx135_0 hHeld ⊢
                 refine pure_ (i := 1) (N := some 177) (v := ?_) (a' := ?_) #[false, true, false, false, false, false, false, false, false, false, false] rfl rfl (any_of HT_.out (by kernel_rfl)) (fun _ _ _ h => h) (Or.inl ⟨by rfl, ?_⟩) ?_ ?_
                 rotate_left
                 ·intro w'
                  go_simp
                  with_reducible rfl
                 rotate_left
                 ·simp only [Act.put, List.setIfInBounds_toArray, List.set_cons_zero, List.set_cons_succ, i64_w, i32_w]
                  rfl
                 refine pure_ (i := 2) (N := some 178) (v := ?_) (a' := ?_) #[false, true, true, false, false, false, false, false, false, false, false] rfl rfl (any_of HT_.out (by kernel_rfl)) (fun _ _ _ h => h) (Or.inl ⟨by rfl, ?_⟩) ?_ ?_
                 rotate_left
                 ·intro w'
                  go_simp
                  with_reducible rfl
                 rotate_left
                 ·simp only [Act.put, List.setIfInBounds_toArray, List.set_cons_zero, List.set_cons_succ, i64_w, i32_w]
                  rfl
                 refine pure_ (i := 3) (N := some 179) (v := ?_) (a' := ?_) #[false, true, true, true, false, false, false, false, false, false, false] rfl rfl (any_of HT_.out (by kernel_rfl)) (fun _ _ _ h => h) (Or.inl ⟨by rfl, ?_⟩) ?_ ?_
                 rotate_left
                 ·intro w'
                  go_simp
                  with_reducible rfl
                 rotate_left
                 ·simp only [Act.put, List.setIfInBounds_toArray, List.set_cons_zero, List.set_cons_succ, i64_w, i32_w]
                  rfl
                 refine take_ (i := 0) (N := some 176) (v := ?_) (a' := ?_) #[true, true, true, true, false, false, false, false, false, false, false] rfl rfl (take_ofW HT_.out HW_.out (by kernel_rfl)) (fun _ _ _ h => h) (Or.inl ⟨by rfl, ?_⟩) hHeld ?_ ?_
                 rotate_left
                 ·rintro w' ⟨s0, s1, s2⟩
                  go_simp
                  with_reducible rfl
                 rotate_left
                 ·simp only [Act.put, List.setIfInBounds_toArray, List.set_cons_zero, List.set_cons_succ, i64_w, i32_w]
                  rfl
                 refine take_ (i := 4) (N := some 180) (v := ?_) (a' := ?_) #[true, true, true, true, true, false, false, false, false, false, false] rfl rfl (take_ofW HT_.out HW_.out (by kernel_rfl)) (fun _ _ _ h => h) (Or.inl ⟨by rfl, ?_⟩) hHeld ?_ ?_
                 rotate_left
                 ·rintro w' ⟨s0, s1, s2⟩
                  go_simp
                  with_reducible rfl
                 rotate_left
                 ·simp only [Act.put, List.setIfInBounds_toArray, List.set_cons_zero, List.set_cons_succ, i64_w, i32_w]
                  rfl
                 refine one_ (i := 5) (N := some 181) #[true, true, true, true, true, true, false, false, false, false, false] rfl rfl (one_of HT_.out (by kernel_rfl)) (by decide) (fun K hK => ?_)
                 refine goes_ Try.func32 (by kernel_rfl) rfl #[.agg #[.slice A0_0 l0_0.length c0_0, .slice A0_1 l0_1.length c0_1], .slice A135_0 (rd_L12 t106 x25_5).length c135_0] (by rfl) rfl rfl (by (try simp only [List.map_toArray, List.map_cons, List.map_nil]); first | done | rfl | (simp only [List.length_drop, List.length_take]; rfl)) ?_
                 with_reducible refine (jam_Potential.calls k5 _ _ l0_0 _ _ l0_1 _ _ (rd_L12 t106 x25_5) t136 t137 _ ?side1 ?side2 ?side3 ?side4 ?side5 ?side6 A102.out).mono ?_
                 (case side1 => repeat (first | exact (Kd.C_below HR0_0.out HB.out) | (with_reducible refine Kd.C_alloc ?_ _) | (with_reducible refine Kd.C_drewN ?_ _) | (with_reducible refine Kd.C_drew ?_)))
                 (case side2 => exact HC0_0.out)
                 (case side3 => repeat (first | exact (Kd.C_below HR0_1.out HB.out) | (with_reducible refine Kd.C_alloc ?_ _) | (with_reducible refine Kd.C_drewN ?_ _) | (with_reducible refine Kd.C_drew ?_)))
                 (case side4 => exact HC0_1.out)
                 (case side5 => repeat (first | exact (by repeat (first | (with_reducible exact HR135_0.out) | (with_reducible refine Kd.C_alloc ?_ _) | (with_reducible refine Kd.C_drewN ?_ _) | (with_reducible refine Kd.C_drew ?_) | exact HR135_0.out)) | (with_reducible refine Kd.C_alloc ?_ _) | (with_reducible refine Kd.C_drewN ?_ _) | (with_reducible refine Kd.C_drew ?_)))
                 (case side6 => exact HC135_0.out)
                 rintro e w107 ⟨rfl, hb⟩
                 have HS2_ := (hb.cell (World.block_lt_of_cell? _ _ (hHeld.2.2))).trans (hHeld.2.2)
                 refine ⟨_, rfl, ?_⟩
                 have n0_ := Aside0.mk (Kd.R_below (by (with_reducible repeat (first | apply Kd.R_alloc | apply Kd.R_drewN | apply Kd.R_drew)); exact HO_5.out) hb)
                 have n1_ := Aside0.mk (Kd.R_below (by (with_reducible repeat (first | apply Kd.R_alloc | apply Kd.R_drewN | apply Kd.R_drew)); exact HL135_0.out) hb)
                 have n2_ := Aside0.mk (blk_below (g := gb101) (o := .cells #[.slice A0_0 l0_0.length c0_0, .slice A0_1 l0_1.length c0_1] 41 (0, 0)) (by (with_reducible repeat (first | refine blk_drewN ?_ _ | refine blk_drew ?_ | refine blk_alloc ?_ _)); exact BK101.out) hb)
                 have n3_ := Aside0.mk (Kd.C_below (by repeat (first | (with_reducible exact HR135_0.out) | (with_reducible refine Kd.C_alloc ?_ _) | (with_reducible refine Kd.C_drewN ?_ _) | (with_reducible refine Kd.C_drew ?_) | exact HR135_0.out)) hb)
                 have n4_ := Aside0.mk (below_step (by repeat (first | (with_reducible first | exact HB.out | apply below_alloc | apply pw_below_drewN | apply below_drew1 | refine below_set ?_ GE101.out) | exact HB.out)) hb)
                 clear HO_5
                 clear HL135_0
                 clear BK101
                 clear HR135_0
                 clear HB
                 have HO_5 := n0_
                 have HL135_0 := n1_
                 have BK101 := n2_
                 have HR135_0 := n3_
                 have HB := n4_
                 clear n0_ n1_ n2_ n3_ n4_
                 (try clear hb)
                 (try clear hb2)
                 (try clear hk)
                 (try clear hi)
                 refine hK.out _ _ ⟨(blk_cell BK101.out 0).trans rfl, (blk_cell BK101.out 1).trans rfl, HS2_⟩ (fun hHeld => ?_)
                 clear hK K
                 refine norm_ (a' := ?_) ?_ ?_
                 rotate_left
                 ·show Act.put _ (some 181) _ = _
                  simp only [Act.put, List.setIfInBounds_toArray, List.set_cons_zero, List.set_cons_succ, i64_w, i32_w]
                  rfl
                 refine pure_ (i := 6) (N := some 175) (v := ?_) (a' := ?_) #[true, true, true, true, true, true, true, false, false, false, false] rfl rfl (any_of HT_.out (by kernel_rfl)) (fun _ _ _ h => h) (Or.inl ⟨by rfl, ?_⟩) ?_ ?_
                 rotate_left
                 ·intro w'
                  go_simp
                  with_reducible rfl
                 rotate_left
                 ·simp only [Act.put, List.setIfInBounds_toArray, List.set_cons_zero, List.set_cons_succ, i64_w, i32_w]
                  rfl
                 refine pure_ (i := 7) (N := some 182) (v := ?_) (a' := ?_) #[true, true, true, true, true, true, true, true, false, false, false] rfl rfl (any_of HT_.out (by kernel_rfl)) (fun _ _ _ h => h) (Or.inl ⟨by rfl, ?_⟩) ?_ ?_
                 rotate_left
                 ·intro w'
                  go_simp
                  with_reducible rfl
                 rotate_left
                 ·simp only [Act.put, List.setIfInBounds_toArray, List.set_cons_zero, List.set_cons_succ, i64_w, i32_w]
                  rfl
                 refine pure_ (i := 8) (N := some 183) (v := ?_) (a' := ?_) #[true, true, true, true, true, true, true, true, true, false, false] rfl rfl (any_of HT_.out (by kernel_rfl)) (fun _ _ _ h => h) (Or.inl ⟨by rfl, ?_⟩) ?_ ?_
                 rotate_left
                 ·intro w'
                  go_simp
                  with_reducible rfl
                 rotate_left
                 ·simp only [Act.put, List.setIfInBounds_toArray, List.set_cons_zero, List.set_cons_succ, i64_w, i32_w]
                  rfl
                 refine pure_ (i := 9) (N := some 26) (v := ?_) (a' := ?_) #[true, true, true, true, true, true, true, true, true, true, false] rfl rfl (any_of HT_.out (by kernel_rfl)) (fun _ _ _ h => h) (Or.inl ⟨by rfl, ?_⟩) ?_ ?_
                 rotate_left
                 ·intro w'
                  go_simp
                  with_reducible rfl
                 rotate_left
                 ·simp only [Act.put, List.setIfInBounds_toArray, List.set_cons_zero, List.set_cons_succ, i64_w, i32_w]
                  rfl
                 refine pure_ (i := 10) (N := some 27) (v := ?_) (a' := ?_) #[true, true, true, true, true, true, true, true, true, true, true] rfl rfl (any_of HT_.out (by kernel_rfl)) (fun _ _ _ h => h) (Or.inl ⟨by rfl, ?_⟩) ?_ ?_
                 rotate_left
                 ·intro w'
                  go_simp
                  with_reducible rfl
                 rotate_left
                 ·simp only [Act.put, List.setIfInBounds_toArray, List.set_cons_zero, List.set_cons_succ, i64_w, i32_w]
                  rfl
                 refine done_ (done_of HT_.out (by kernel_rfl)) ?_
                 try go_wp2
                 go_roundg k5
                 case measure => have := HJ2.out; have := HJ27.out; have := HJ47.out; have := HK4.out; have := HK5.out; omega
                 case rel => exact ⟨((t136 == x18_4)), (wrap64 (x25_5 + 1)), (by first | rfl | (simp; done) | (simp [*]; done)), (by first | rfl | (simp; done) | (simp [*]; done)), H', ⟨by have := HJ2.out; have := HJ27.out; have := HJ47.out; have := HK4.out; have := HK5.out; omega⟩, ⟨by (with_reducible repeat (first | apply Kd.R_alloc | apply Kd.R_drewN | apply Kd.R_drew)); exact HO_5.out⟩, ⟨by (with_reducible repeat (first | refine blk_drewN ?_ _ | refine blk_drew ?_ | refine blk_alloc ?_ _)); exact BK101.out⟩, ⟨by repeat (first | (with_reducible first | exact HB.out | apply below_alloc | apply pw_below_drewN | apply below_drew1 | refine below_set ?_ GE101.out) | exact HB.out)⟩⟩
               ·rw [if_neg c101] at H
                exact absurd H (by simp)
              ·rw [if_neg c100] at H
               have c100b0 : decide (x25_5 < (t106.length : Int)) = false := decide_eq_false c100
               clear c100
               by_cases c108 : x16_4 = true
               ·subst c108
                have H1 : (if (x17_4 == (t113 == 0)) = true then (if x24_5 = true then ((trishawlaw02_alive.f k5).bind fun t138 => (some t138)) else (some false)) else (some false)) = some r := by rw [if_pos rfl] at H; exact H
                clear H
                have H := H1
                clear H1
                by_cases c109 : (x17_4 == (t113 == 0)) = true
                ·rw [if_pos c109] at H
                 have c109b0 : (x17_4 == (t113 == 0)) = true := c109
                 (try (have c109b1 : decide (x17_4 = (t113 == 0)) = true := by simpa using c109))
                 (try (have c109b2 : (x17_4 == (t113 == 0)) = true := by simpa using c109))
                 clear c109
                 by_cases c110 : x24_5 = true
                 ·subst c110
                  have H1 : ((trishawlaw02_alive.f k5).bind fun t138 => (some t138)) = some r := by rw [if_pos rfl] at H; exact H
                  clear H
                  have H := H1
                  clear H1
                  replace H := Option.bind_eq_some_iff.mp H
                  obtain ⟨t138, A1110, H⟩ := H
                  replace H : (some t138) = some r := H
                  have A111 := Aside0.mk A1110
                  clear A1110
                  obtain rfl := Option.some.inj H
                  go_wp2_with (first | (go_at_call 16; (with_reducible refine (trishawlaw02_alive.calls k5  t138 _ A111.out).mono ?_); rintro e w112 ⟨rfl, hb⟩; have n0_ := Aside0.mk (Kd.R_below (by (with_reducible repeat (first | apply Kd.R_alloc | apply Kd.R_drewN | apply Kd.R_drew)); exact HO_5.out) hb); have n1_ := Aside0.mk (blk_below (g := gb101) (o := .cells #[.slice A0_0 l0_0.length c0_0, .slice A0_1 l0_1.length c0_1] 41 (0, 0)) (by (with_reducible repeat (first | refine blk_drewN ?_ _ | refine blk_drew ?_ | refine blk_alloc ?_ _)); exact BK101.out) hb); have n2_ := Aside0.mk (below_step (by repeat (first | (with_reducible first | exact HB.out | apply below_alloc | apply pw_below_drewN | apply below_drew1 | refine below_set ?_ GE101.out) | exact HB.out)) hb); clear HO_5; clear BK101; clear HB; have HO_5 := n0_; have BK101 := n1_; have HB := n2_; clear n0_ n1_ n2_; (try clear hb); (try clear hb2); (try clear hk); (try clear hi)))
                  go_ret
                  exact ⟨by first | rfl | (simp [errW_none, errW_some] <;> rfl) | (simp [*, errW_none, errW_some] <;> rfl), by repeat (first | (with_reducible first | exact HB.out | apply below_alloc | apply pw_below_drewN | apply below_drew1 | refine below_set ?_ GE101.out) | exact HB.out)⟩
                 ·replace c110 := Bool.eq_false_iff.mpr c110
                  subst c110
                  have H1 : (some false) = some r := by rw [if_neg (show ¬ (false = true) by decide)] at H; exact H
                  exact absurd ((Option.some.inj H1).trans HRT.out) (by decide)
                ·rw [if_neg c109] at H
                 have c109b0 : (x17_4 == (t113 == 0)) = false := by simpa using c109
                 (try (have c109b1 : decide (x17_4 = (t113 == 0)) = false := by simpa using c109))
                 (try (have c109b2 : (x17_4 == (t113 == 0)) = false := by simpa using c109))
                 (try (have c109b3 : ¬ (x17_4 = (t113 == 0)) := by simpa using c109))
                 clear c109
                 exact absurd ((Option.some.inj H).trans HRT.out) (by decide)
               ·replace c108 := Bool.eq_false_iff.mpr c108
                subst c108
                have H1 : (some false) = some r := by rw [if_neg (show ¬ (false = true) by decide)] at H; exact H
                exact absurd ((Option.some.inj H1).trans HRT.out) (by decide)
end Go.Proofs.Ytjgbdicbdlollaa.B
namespace Go.Proofs.Ytjgbdicbdlollaa.B
open Go.RowKit Go.ChangeShapes Go.WideShapes Go.Deep Go.Proofs.YtjgbdicbdlollaaW.PrintWords Go.Proofs.YtjgbdicbdlollaaW.PrintLast Go.Proofs.YtjgbdicbdlollaaW.PrintMore
def okI (x : Int) : Prop := (Lit.int .i64 x).wf = true
def okRow (l : List Int) : Prop := l.length ≤ maxLen ∧ ∀ x ∈ l, okI x
def okRows (l : List (List Int)) : Prop := l.length ≤ maxLen ∧ ∀ x ∈ l, okRow x
section
variable {H : Type} {enc : TypeId × Value → H} {w : World} {spare : Nat → Bool} {held : Bool}
theorem open_list {α : Type} [Inhabited α] (d : Kd α) (ok : α → Prop) {t e : TypeId} (ht : Try.prog.underlying t = some (.slice e)) (hsz : Try.prog.cellsOf e = d.sz)
    (ho : ∀ (fuel : Nat) (cs : List Value) (x : DataW H × List MemPlace), DataW.trod enc Try.prog w 0 spare held fuel e cs = some x → ∃ s, d.K w s cs ∧ ok s)
    {fuel : Nat} {cs : List Value} {x : DataW H × List MemPlace} (h : DataW.trod enc Try.prog w 0 spare held fuel t cs = some x) :
    ∃ (A : Option Addr) (l : List α) (c : Nat), cs = [.slice A l.length c] ∧ l.length ≤ c ∧ c ≤ maxLen ∧ Kd.C d w A l.length l ∧ ∀ x ∈ l, ok x := by
  rcases open_slice ht h with ⟨rfl, _⟩ | ⟨x, l, c, m, n, D, Pl, rfl, _, hl, hm, hmm, _, hi⟩
  · exact ⟨none, [], 0, rfl, Nat.le_refl _, by simp, Kd.C_nil d w, by simp⟩
  · have hlm : l ≤ m := by rw [hmm]; split <;> omega
    rw [hsz] at hi
    have hex : ∀ i : Nat, ∃ s : α, i < l → ok s ∧ ∃ cs', d.K w s cs' ∧ w.cells? 0 (x.add (i * d.sz)) d.sz = some cs' := by
      intro i
      by_cases h : i < l
      · obtain ⟨cs', hc, ht⟩ := hi i (by omega)
        obtain ⟨s, hs, hk⟩ := ho _ _ _ ht
        exact ⟨s, fun _ => ⟨hk, cs', hs, hc⟩⟩
      · exact ⟨default, fun h' => absurd h' h⟩
    obtain ⟨f, hf⟩ := Classical.axiomOfChoice hex
    have hll : ((List.range l).map f).length = l := by simp
    refine ⟨some x, (List.range l).map f, c, by rw [hll], by rw [hll]; exact hl, hm, ⟨rfl, by rw [hll]; simp only [maxLen] at hm; omega, fun _ => ⟨x, rfl, fun j p hj => ?_⟩⟩, fun y hy => ?_⟩
    · have hjl : j < l := by have := (List.getElem?_eq_some_iff.1 hj).1; rw [hll] at this; exact this
      rw [List.getElem?_map, List.getElem?_range hjl] at hj
      injection hj with hj
      subst hj
      obtain ⟨hs, cs', hK, hc⟩ := hf j hjl
      obtain ⟨_, hlen, hat⟩ := World.cells?_some hc
      refine ⟨cs', hlen, hK, fun i u hu => ?_⟩
      have hi2 : i < d.sz := by have := (List.getElem?_eq_some_iff.1 hu).1; omega
      rw [← Go.Deep.add_add, hat i hi2, hu]
    · obtain ⟨j, hj, rfl⟩ := List.mem_map.1 hy
      exact (hf j (List.mem_range.1 hj)).1
theorem open_int3 (fuel : Nat) (cs : List Value) (x : DataW H × List MemPlace) (h : DataW.trod enc Try.prog w 0 spare held fuel 3 cs = some x) : ∃ s : Int, (Kd.int .i64).K w s cs ∧ okI s := by
  obtain ⟨n0, e0, _, w0⟩ := DataW.trod_int Try.underlying3 h
  subst e0
  exact ⟨n0, rfl, w0⟩
theorem open_row24 {fuel : Nat} {cs : List Value} {x : DataW H × List MemPlace} (h : DataW.trod enc Try.prog w 0 spare held fuel 24 cs = some x) :
    ∃ (A : Option Addr) (l : List Int) (c : Nat), cs = [.slice A l.length c] ∧ l.length ≤ c ∧ c ≤ maxLen ∧ Kd.C (Kd.int .i64) w A l.length l ∧ ∀ x ∈ l, okI x :=
  open_list (Kd.int .i64) okI Try.underlying24 (by kernel_rfl) open_int3 h
theorem open_rows39 {fuel : Nat} {cs : List Value} {x : DataW H × List MemPlace} (h : DataW.trod enc Try.prog w 0 spare held fuel 39 cs = some x) :
    ∃ (A : Option Addr) (l : List (List Int)) (c : Nat), cs = [.slice A l.length c] ∧ l.length ≤ c ∧ c ≤ maxLen ∧ Kd.C (Kd.slice 3 (Kd.int .i64)) w A l.length l ∧ ∀ x ∈ l, okRow x := by
  refine open_list (Kd.slice 3 (Kd.int .i64)) okRow Try.underlying39 (by kernel_rfl) (fun fuel cs x h => ?_) h
  obtain ⟨A, l, c, rfl, h1, h2, h3, h4⟩ := open_row24 h
  exact ⟨l, ⟨A, c, rfl, h1, h3⟩, Nat.le_trans h1 h2, h4⟩
theorem open_numbers {a : Option Addr} {len cap : Nat} {d : DataW H} {p : List MemPlace} (h : DataW.Trod enc Try.prog w 0 spare held 24 (.slice a len cap) d p) :
    ∃ l : List Int, Kd.C (Kd.int .i64) w a l.length l ∧ l.length = len ∧ len ≤ cap ∧ cap ≤ maxLen ∧ ∀ x ∈ l, (Lit.int .i64 x).wf = true := by
  obtain ⟨fuel, hf⟩ := h
  obtain ⟨A, l, c, e, h1, h2, h3, h4⟩ := open_row24 hf
  simp only [Value.cells, List.cons.injEq, Value.slice.injEq, and_true] at e
  obtain ⟨rfl, rfl, rfl⟩ := e
  exact ⟨l, h3, rfl, h1, h2, h4⟩
set_option maxRecDepth 100000 in
theorem open_game {r : Reach} {b0 : Nat} {v : Value} {d : DataW H} {ps : List MemPlace} (hval : Value.okWide Try.prog w r b0 41 v) (h : DataW.Trod enc Try.prog w 0 spare held 41 v d ps) :
    ∃ (A : Option Addr) (l : List (List Int)) (c : Nat) (A' : Option Addr) (l' : List (List Int)) (c' : Nat), v = .agg #[.slice A l.length c, .slice A' l'.length c'] ∧
      (l.length ≤ c ∧ c ≤ maxLen ∧ Kd.C (Kd.slice 3 (Kd.int .i64)) w A l.length l ∧ ∀ x ∈ l, okRow x) ∧ (l'.length ≤ c' ∧ c' ≤ maxLen ∧ Kd.C (Kd.slice 3 (Kd.int .i64)) w A' l'.length l' ∧ ∀ x ∈ l', okRow x) := by
  obtain ⟨fuel, hf⟩ := h
  obtain ⟨cs, rfl, _⟩ := okWide_struct Try.underlying41 hval
  obtain ⟨xs, n, _, _, hlen, hxl, hg⟩ := DataW.trod_struct Try.underlying41 hf
  have h41 : Try.prog.cellsOf 41 = 2 := by kernel_rfl
  have h39 : Try.prog.cellsOf 39 = 1 := by kernel_rfl
  have hcs : ∃ u0 u1, cs = #[u0, u1] := by
    have hl2 : cs.toList.length = 2 := by rw [h41] at hlen; exact hlen
    match hc : cs.toList, hl2 with
    | [u0, u1], _ => exact ⟨u0, u1, by rw [← hc]⟩
  obtain ⟨u0, u1, rfl⟩ := hcs
  have hsz : xs.length = 2 := hxl
  match xs, hsz with
  | [y0, y1], _ =>
    have g0 : DataW.trod enc Try.prog w 0 spare held n 39 (([u0, u1].drop 0).take (Try.prog.cellsOf 39)) = some y0 := hg 0 _ rfl
    have g1 : DataW.trod enc Try.prog w 0 spare held n 39 (([u0, u1].drop 1).take (Try.prog.cellsOf 39)) = some y1 := hg 1 _ rfl
    rw [h39] at g0 g1
    obtain ⟨A, l, c, e0, k0⟩ := open_rows39 g0
    obtain ⟨A', l', c', e1, k1⟩ := open_rows39 g1
    obtain rfl : u0 = .slice A l.length c := by injection e0
    obtain rfl : u1 = .slice A' l'.length c' := by injection e1
    exact ⟨A, l, c, A', l', c', rfl, k0, k1⟩
end
end Go.Proofs.Ytjgbdicbdlollaa.B
namespace Go.Proofs.Ytjgbdicbdlollaa.B
open Go.RowKit Go.Proofs.YtjgbdicbdlollaaW.PrintWords Go.Proofs.YtjgbdicbdlollaaW.PrintLast Go.Proofs.YtjgbdicbdlollaaW.PrintMore
def trishawlaw02_JamCalm.Pure : Prop := ∀ (l0_0 l0_1 : List (List Int)) (l1 : List Int), okRows l0_0 → okRows l0_1 → l1.length ≤ maxLen → (∀ x ∈ l1, (fun x : Int => (Lit.int .i64 x).wf = true) x) → ∃ k, trishawlaw02_JamCalm.f k l0_0 l0_1 l1 = some true
theorem trishawlaw02_JamCalm.walk (P : trishawlaw02_JamCalm.Pure) (w : World) (A0_0 : Option Addr) (c0_0 : Nat) (l0_0 : List (List Int)) (hr0_0 : Kd.C (Kd.slice 3 (Kd.int .i64)) w A0_0 l0_0.length l0_0) (hc0_0 : l0_0.length ≤ c0_0) (A0_1 : Option Addr) (c0_1 : Nat) (l0_1 : List (List Int)) (hr0_1 : Kd.C (Kd.slice 3 (Kd.int .i64)) w A0_1 l0_1.length l0_1) (hc0_1 : l0_1.length ≤ c0_1) (A1 : Option Addr) (c1 : Nat) (l1 : List Int) (hr1 : Kd.C (Kd.int .i64) w A1 l1.length l1) (hc1 : l1.length ≤ c1) (h0_0 : okRows l0_0) (h1_0 : okRows l0_1) (h2_0 : l1.length ≤ maxLen) (h3_0 : (∀ x ∈ l1, (fun x : Int => (Lit.int .i64 x).wf = true) x)) :
    Calls Try.prog 15 #[.agg #[.slice A0_0 l0_0.length c0_0, .slice A0_1 l0_1.length c0_1], .slice A1 l1.length c1] w fun e w' => e = .returned (.bool true) ∧ Below w.heap.size w w' := by
  obtain ⟨k, h⟩ := P l0_0 l0_1 l1 h0_0 h1_0 h2_0 h3_0
  refine (trishawlaw02_JamCalm.calls k A0_0 c0_0 l0_0 A0_1 c0_1 l0_1 A1 c1 l1 true w hr0_0 hc0_0 hr0_1 hc0_1 hr1 hc1 h rfl).mono ?_
  rintro e w' ⟨rfl, hd⟩
  exact ⟨rfl, hd⟩
end Go.Proofs.Ytjgbdicbdlollaa.B
namespace Go.Proofs.Ytjgbdicbdlollaa.B
open Go.RowKit Go.Proofs.YtjgbdicbdlollaaW.PrintWords Go.Proofs.YtjgbdicbdlollaaW.PrintLast Go.Proofs.YtjgbdicbdlollaaW.PrintMore
set_option linter.unusedVariables false
set_option linter.unusedSimpArgs false
def sm (x : Int) : Prop := -4611686018427387904 ≤ x ∧ x ≤ 4611686018427387904
theorem wsm {x : Int} (h : sm x) : wrap64 x = x := by unfold sm at h; unfold wrap64; omega
theorem wrapN (i : Nat) (h : i < 1000000) : wrap64 ((i : Int) + 1) = ((i + 1 : Nat) : Int) := by unfold wrap64; omega
theorem rd_mem2 (l : List Int) (i : Nat) (h : i < l.length) : rd l (i : Int) ∈ l := by
  have : rd l (i : Int) = l[i] := by simp [rd, List.getD, List.getElem?_eq_getElem h]
  rw [this]; exact List.getElem_mem h
end Go.Proofs.Ytjgbdicbdlollaa.B
namespace Go.Proofs.Ytjgbdicbdlollaa.B
open Go.RowKit Go.Sort Go.Proofs.YtjgbdicbdlollaaW.PrintWords Go.Proofs.YtjgbdicbdlollaaW.PrintLast Go.Proofs.YtjgbdicbdlollaaW.PrintMore
set_option linter.unusedVariables false
set_option linter.unusedSimpArgs false
def okL (x : S36) : Prop := 0 ≤ x.f0 ∧ x.f0 ≤ 10 ∧ 1 ≤ x.f1 ∧ x.f1 ≤ 10
def sumL (f : S36 → Int) : List S36 → Int
  | [] => 0
  | x :: l => f x + sumL f l
theorem sumL_le {f g : S36 → Int} : ∀ {l : List S36}, (∀ x ∈ l, f x ≤ g x) → sumL f l ≤ sumL g l
  | [], _ => Int.le_refl _
  | x :: l, h => by
    have h1 := h x (by simp)
    have h2 := sumL_le (l := l) fun y hy => h y (by simp [hy])
    simp only [sumL]; omega
theorem sumL_const (c : Int) : ∀ l : List S36, sumL (fun _ => c) l = c * l.length
  | [] => by simp [sumL]
  | x :: l => by simp only [sumL, sumL_const c l, List.length_cons, Int.natCast_add, Int.mul_add]; simp; omega
theorem sumL_pos {f : S36 → Int} {l : List S36} (h : ∀ x ∈ l, 0 ≤ f x) : 0 ≤ sumL f l := by
  have := sumL_le (f := fun _ => 0) (g := f) h
  rw [sumL_const] at this; simpa using this
/-- A time num/den is good: its own set of lanes gives it. -/
def Good (w : S36 → Int) (p : Int) (l : List S36) (n d : Int) : Prop :=
  0 < d ∧ n = p + sumL (fun x => if x.f0 * d < n then x.f0 * w x else 0) l ∧ d = sumL (fun x => if x.f0 * d < n then w x else 0) l
end Go.Proofs.Ytjgbdicbdlollaa.B
namespace Go.Proofs.Ytjgbdicbdlollaa.B
open Go.RowKit Go.Sort Go.Proofs.YtjgbdicbdlollaaW.PrintWords Go.Proofs.YtjgbdicbdlollaaW.PrintLast Go.Proofs.YtjgbdicbdlollaaW.PrintMore
set_option linter.unusedVariables false
set_option linter.unusedSimpArgs false
theorem mulb {x y X Y : Int} (hx : 0 ≤ x) (hX : x ≤ X) (hy : 0 ≤ y) (hY : y ≤ Y) : 0 ≤ x * y ∧ x * y ≤ X * Y :=
  ⟨Int.mul_nonneg hx hy, Int.mul_le_mul hX hY hy (by omega)⟩
def wv (p t : Int) (x : S36) : Int := Int.tdiv p (x.f1 * t)
theorem Good.b {p t : Int} {l : List S36} {n d : Int} (hp : 0 < p) (hp2 : p ≤ 160000) (hl : l.length ≤ 4) (hw : ∀ x ∈ l, okL x ∧ 0 < wv p t x ∧ wv p t x ≤ p) (g : Good (wv p t) p l n d) : 0 ≤ n ∧ n ≤ 6560000 ∧ 0 < d ∧ d ≤ 640000 := by
  obtain ⟨h0, h1, h2⟩ := g
  have a1 : sumL (fun x => if x.f0 * d < n then x.f0 * wv p t x else 0) l ≤ sumL (fun _ => 1600000) l := sumL_le fun x hx => by
    obtain ⟨h3, h4, h5⟩ := hw x hx
    unfold okL at h3
    have := mulb (x := x.f0) (y := wv p t x) (X := 10) (Y := 160000) (by omega) (by omega) (by omega) (by omega)
    split <;> omega
  have a0 : 0 ≤ sumL (fun x => if x.f0 * d < n then x.f0 * wv p t x else 0) l := sumL_pos fun x hx => by
    obtain ⟨h3, h4, h5⟩ := hw x hx
    unfold okL at h3
    have := mulb (x := x.f0) (y := wv p t x) (X := 10) (Y := 160000) (by omega) (by omega) (by omega) (by omega)
    split <;> omega
  have a2 : sumL (fun x => if x.f0 * d < n then wv p t x else 0) l ≤ sumL (fun _ => 160000) l := sumL_le fun x hx => by
    obtain ⟨h3, h4, h5⟩ := hw x hx
    split <;> omega
  rw [sumL_const] at a1 a2
  omega
end Go.Proofs.Ytjgbdicbdlollaa.B
namespace Go.Proofs.Ytjgbdicbdlollaa.B
open Go.RowKit Go.Sort Go.Proofs.YtjgbdicbdlollaaW.PrintWords Go.Proofs.YtjgbdicbdlollaaW.PrintLast Go.Proofs.YtjgbdicbdlollaaW.PrintMore
theorem alive_ev : Ev (fun k => trishawlaw02_alive.f k) true := ⟨60, fun k hk => alive_from k hk⟩
theorem alive_ev2 : Ev (fun k => (trishawlaw02_alive.f k).bind fun t => some t) true := Ev.bind alive_ev (Ev.now true)
end Go.Proofs.Ytjgbdicbdlollaa.B
namespace Go.Proofs.Ytjgbdicbdlollaa.B
open Go.RowKit Go.Sort Go.Proofs.YtjgbdicbdlollaaW.PrintWords Go.Proofs.YtjgbdicbdlollaaW.PrintLast Go.Proofs.YtjgbdicbdlollaaW.PrintMore
set_option linter.unusedVariables false
set_option linter.unusedSimpArgs false
theorem rdN (l : List Int) (i : Nat) (h : i < l.length) : rd l (i : Int) = l[i] := by simp [rd, List.getD, List.getElem?_eq_getElem h]
theorem rdL (l : List (List Int)) (i : Nat) (h : i < l.length) : rd_L12 l (i : Int) = l[i] := by simp [rd_L12, List.getD, List.getElem?_eq_getElem h]
theorem rdL_mem (l : List (List Int)) (i : Nat) (h : i < l.length) : rd_L12 l (i : Int) ∈ l := by rw [rdL l i h]; exact List.getElem_mem h
theorem rdZ_mem (l : List Int) (z : Int) (h0 : 0 ≤ z) (h : z < l.length) : rd l z ∈ l := by
  obtain ⟨i, rfl⟩ : ∃ i : Nat, z = i := ⟨z.toNat, by omega⟩
  exact rd_mem2 l i (by omega)
def mapR (m : Nat) (f : Nat → Int) : List Int := (List.range m).map f
theorem mapR_len (m : Nat) (f : Nat → Int) : (mapR m f).length = m := by simp [mapR]
theorem mapR_rd {m : Nat} {f : Nat → Int} {k : Nat} (h : k < m) : rd (mapR m f) (k : Int) = f k := by
  rw [rdN _ k (by rw [mapR_len]; exact h)]; simp [mapR]
theorem mapR_set (m : Nat) (f : Nat → Int) (k : Nat) (v : Int) : (mapR m f).set k v = mapR m (fun j => if j = k then v else f j) := by
  apply List.ext_getElem
  · simp [mapR]
  · intro i h1 h2
    simp only [mapR, List.getElem_set, List.getElem_map, List.getElem_range]
    by_cases h : k = i
    · subst h; simp
    · rw [if_neg h, if_neg (fun e => h e.symm)]
theorem mapR_congr {m : Nat} {f g : Nat → Int} (h : ∀ k, k < m → f k = g k) : mapR m f = mapR m g :=
  List.map_congr_left fun k hk => h k (List.mem_range.1 hk)
theorem mapR_succ (m : Nat) (f : Nat → Int) : mapR m f ++ [f m] = mapR (m + 1) f := by simp [mapR, List.range_succ]
theorem mapR_zero (m : Nat) : List.replicate m (0 : Int) = mapR m (fun _ => 0) := by
  apply List.ext_getElem
  · simp [mapR]
  · intro i h1 h2; simp [mapR]
structure GameOk (R T : List (List Int)) : Prop where
  r1 : 1 ≤ R.length
  r5 : R.length ≤ 5
  t1 : 1 ≤ T.length
  t8 : T.length ≤ 8
  row : ∀ l ∈ R, 1 ≤ l.length ∧ l.length ≤ 5 ∧ ∀ x ∈ l, 1 ≤ x ∧ x < 2 ^ T.length
  toll : ∀ t ∈ T, t.length = R.length ∧ ∀ x ∈ t, 0 ≤ x ∧ x ≤ 1000
structure ChOk (R : List (List Int)) (c : List Int) : Prop where
  len : c.length = R.length
  ok : ∀ i : Nat, i < R.length → 0 ≤ rd c (i : Int) ∧ rd c (i : Int) < ((rd_L12 R (i : Int)).length : Int)
/-- The route that driver i takes. -/
def rte (R : List (List Int)) (c : List Int) (i : Nat) : Int := rd (rd_L12 R (i : Int)) (rd c (i : Int))
theorem rte_b {R T : List (List Int)} {c : List Int} (g : GameOk R T) (h : ChOk R c) {i : Nat} (hi : i < R.length) : 1 ≤ rte R c i ∧ rte R c i < 2 ^ T.length := by
  have h1 := h.ok i hi
  exact (g.row _ (rdL_mem R i hi)).2.2 _ (rdZ_mem _ _ h1.1 h1.2)
theorem pow_b {m : Nat} (h : m ≤ 8) : (2 : Int) ^ m ≤ 256 := by
  have : (2 : Nat) ^ m ≤ 2 ^ 8 := Nat.pow_le_pow_right (by omega) h
  have e : ((2 ^ m : Nat) : Int) = (2 : Int) ^ m := by simp
  omega
/-- A street of a route. -/
def bk (x : Int) (k : Nat) : Int := x / 2 ^ k % 2
theorem fin_bk : ∀ s : Fin 256, ∀ a : Fin 8, Go.bits .and .i64 (shr .i64 ((s.val : Nat) : Int) ((a.val : Nat) : Int)) 1 = bk ((s.val : Nat) : Int) a.val ∧ Int.tmod (shr .i64 ((s.val : Nat) : Int) ((a.val : Nat) : Int)) 2 = bk ((s.val : Nat) : Int) a.val ∧ (bk ((s.val : Nat) : Int) a.val = 0 ∨ bk ((s.val : Nat) : Int) a.val = 1) := by decide +kernel
theorem bk_and {x : Int} {k : Nat} (h0 : 0 ≤ x) (h1 : x < 256) (hk : k < 8) : Go.bits .and .i64 (shr .i64 x (k : Int)) 1 = bk x k ∧ Int.tmod (shr .i64 x (k : Int)) 2 = bk x k ∧ (bk x k = 0 ∨ bk x k = 1) := by
  have := fin_bk ⟨x.toNat, by omega⟩ ⟨k, hk⟩
  simp only at this
  rw [show ((x.toNat : Nat) : Int) = x by omega] at this
  exact this
/-- How many of the first m drivers are on a street. -/
def uF (R : List (List Int)) (c : List Int) : Nat → Nat → Int
  | 0, _ => 0
  | m + 1, k => uF R c m k + bk (rte R c m) k
theorem uF_b {R T : List (List Int)} {c : List Int} (g : GameOk R T) (h : ChOk R c) {k : Nat} (hk : k < T.length) : ∀ m, m ≤ R.length → 0 ≤ uF R c m k ∧ uF R c m k ≤ m
  | 0, _ => by simp [uF]
  | m + 1, hm => by
    have ih := uF_b g h hk m (by omega)
    have hb := rte_b g h (i := m) (by omega)
    have hp := pow_b g.t8
    have h8 := g.t8
    have := (bk_and (x := rte R c m) (k := k) (by omega) (by omega) (by omega)).2.2
    simp only [uF]
    omega
theorem uF_pos {R T : List (List Int)} {c : List Int} (g : GameOk R T) (h : ChOk R c) {k : Nat} (hk : k < T.length) {i : Nat} : ∀ m, m ≤ R.length → i < m → bk (rte R c i) k = 1 → 1 ≤ uF R c m k
  | m + 1, hm, hi, hb1 => by
    have ih := uF_b g h hk m (by omega)
    have hb := rte_b g h (i := m) (by omega)
    have hp := pow_b g.t8
    have h8 := g.t8
    have := (bk_and (x := rte R c m) (k := k) (by omega) (by omega) (by omega)).2.2
    simp only [uF]
    by_cases he : i = m
    · subst he; omega
    · have := uF_pos g h hk m (by omega) (by omega) hb1
      omega
section
variable {R T : List (List Int)} {c : List Int} (g : GameOk R T) (h : ChOk R c)
include g h
/-- One driver's streets. -/
theorem users_l1 (U : List Unit) (P : Int → Int → Option Int) (r : List Int) (i : Nat) (hi : i < R.length) (hn : Ev (fun k => jam_game_users.l0 k (mapR T.length (uF R c (i + 1))) c (c.length : Int) ((i + 1 : Nat) : Int) R U P) r) : ∀ (m k : Nat), k + m = T.length →
    Ev (fun n => jam_game_users.l1 n (mapR T.length (fun j => if j < k then uF R c (i + 1) j else uF R c i j)) (i : Int) (rd c (i : Int)) c (c.length : Int) (i : Int) (T.length : Int) (k : Int) R U P) r
  | 0, k, hk => by
    have h5 := g.r5
    rw [mapR_congr (g := uF R c (i + 1)) (fun j hj => if_pos (by omega))]
    refine Ev.step (fun n => ?_) hn
    simp only [jam_game_users.l1]
    rw [if_neg (by omega), wrapN i (by omega)]
  | m + 1, k, hk => by
    have h5 := g.r5
    have h8 := g.t8
    have hb := rte_b g h hi
    have hp := pow_b g.t8
    have hc := h.ok i hi
    have hbk := bk_and (x := rte R c i) (k := k) (by omega) (by omega) (by omega)
    have hu := uF_b g h (k := k) (by omega) i (by omega)
    have ih := users_l1 U P r i hi hn m (k + 1) (by omega)
    refine Ev.step (fun n => ?_) ih
    simp only [jam_game_users.l1]
    rw [if_pos (by omega), if_pos (by omega), if_pos (by rw [mapR_len]; omega), if_pos (by omega), if_pos (by omega), if_pos (by omega), if_pos hc.2, mapR_rd (by omega), if_neg (by omega), show rd (rd_L12 R (i : Int)) (rd c (i : Int)) = rte R c i from rfl, hbk.1, wsm (by unfold sm; omega), wrapN k (by omega), Int.toNat_natCast, mapR_set]
    congr 1
    refine mapR_congr fun j hj => ?_
    by_cases h1 : j = k
    · subst h1; rw [if_pos rfl, if_pos (by omega)]; rfl
    · rw [if_neg h1]
      by_cases h2 : j < k
      · rw [if_pos h2, if_pos (by omega)]
      · rw [if_neg h2, if_neg (by omega)]
theorem users_l0 (U : List Unit) (P : Int → Int → Option Int) : ∀ (m i : Nat), i + m = R.length → Ev (fun n => jam_game_users.l0 n (mapR T.length (uF R c i)) c (c.length : Int) (i : Int) R U P) (mapR T.length (uF R c R.length))
  | 0, i, hi => by
    have e : i = R.length := by omega
    subst e
    have hl := h.len
    refine Ev.step (f := fun _ => some (mapR T.length (uF R c R.length))) (fun n => ?_) (Ev.now _)
    simp only [jam_game_users.l0]
    rw [if_neg (by omega)]
  | m + 1, i, hi => by
    have hl := h.len
    have h5 := g.r5
    have ih := users_l0 U P m (i + 1) (by omega)
    have hin := users_l1 g h U P _ i (by omega) ih T.length 0 (by omega)
    rw [mapR_congr (g := uF R c i) (fun j hj => if_neg (by omega))] at hin
    refine Ev.step (fun n => ?_) hin
    simp only [jam_game_users.l0]
    rw [if_pos (by omega), if_pos (by omega), if_pos (by omega), mapR_len]
    rfl
theorem users_ev (P : Int → Int → Option Int) : Ev (fun n => jam_game_users.f n R (unitsOf T) P c) (mapR T.length (uF R c R.length)) := by
  have h8 := g.t8
  have := users_l0 g h (unitsOf T) P R.length 0 (by omega)
  rw [show mapR T.length (uF R c 0) = List.replicate T.length (0 : Int) from (mapR_zero _).symm] at this
  refine Ev.congr (fun n => ?_) this
  have e : (unitsOf T).length = T.length := by simp [unitsOf]
  unfold jam_game_users.f
  rw [e, if_pos (Int.natCast_nonneg _), Int.toNat_natCast, if_pos (by omega)]
  rfl
/-- What a driver pays on streets k .. k + m - 1. -/
def payS (R T : List (List Int)) (c : List Int) (i : Nat) : Nat → Nat → Int
  | 0, _ => 0
  | m + 1, k => (if bk (rte R c i) k = 1 then rd (rd_L12 T (k : Int)) (uF R c R.length k - 1) else 0) + payS R T c i m (k + 1)
def cst (R T : List (List Int)) (c : List Int) (i : Nat) : Int := payS R T c i T.length 0
def totF (R T : List (List Int)) (c : List Int) : Nat → Int
  | 0 => 0
  | m + 1 => totF R T c m + cst R T c m
theorem pay_b {k i : Nat} (hk : k < T.length) (hi : i < R.length) (hb : bk (rte R c i) k = 1) : payF T (k : Int) (uF R c R.length k) = some (rd (rd_L12 T (k : Int)) (uF R c R.length k - 1)) ∧ 0 ≤ rd (rd_L12 T (k : Int)) (uF R c R.length k - 1) ∧ rd (rd_L12 T (k : Int)) (uF R c R.length k - 1) ≤ 1000 := by
  have h1 := uF_pos g h hk R.length (Nat.le_refl _) hi hb
  have h2 := uF_b g h hk R.length (Nat.le_refl _)
  have h3 := g.toll _ (rdL_mem T k hk)
  refine ⟨?_, h3.2 _ (rdZ_mem _ _ (by omega) (by omega))⟩
  unfold payF
  rw [if_pos (by omega), if_pos (by omega), if_pos (by omega), if_pos (by omega)]
theorem payS_b {i : Nat} (hi : i < R.length) : ∀ (m k : Nat), k + m = T.length → 0 ≤ payS R T c i m k ∧ payS R T c i m k ≤ 1000 * m
  | 0, _, _ => by simp [payS]
  | m + 1, k, hk => by
    have ih := payS_b hi m (k + 1) (by omega)
    simp only [payS]
    split
    · rename_i hb
      have := (pay_b g h (k := k) (by omega) hi hb).2
      omega
    · omega
theorem cst_b {i : Nat} (hi : i < R.length) : 0 ≤ cst R T c i ∧ cst R T c i ≤ 8000 := by
  have := payS_b g h hi T.length 0 (by omega)
  have h8 := g.t8
  unfold cst
  omega
theorem totF_b : ∀ m, m ≤ R.length → 0 ≤ totF R T c m ∧ totF R T c m ≤ 8000 * m
  | 0, _ => by simp [totF]
  | m + 1, hm => by
    have ih := totF_b m (by omega)
    have := cst_b g h (i := m) (by omega)
    simp only [totF]
    omega
theorem costs_l1 (U : List Unit) (r : List Int × Int) (i : Nat) (hi : i < R.length) (x7 : List Int) (x8 : Int) (h7 : x7.length = i)
    (hn : Ev (fun n => jam_game_costs.l0 n (mapR T.length (uF R c R.length)) (x7 ++ [cst R T c i]) (wrap64 (x8 + cst R T c i)) c (c.length : Int) ((i + 1 : Nat) : Int) R U (payF T)) r) : ∀ (m k : Nat) (a : Int), k + m = T.length → 0 ≤ a → a ≤ 1000 * k → a + payS R T c i m k = cst R T c i →
    Ev (fun n => jam_game_costs.l1 n (mapR T.length (uF R c R.length)) x7 x8 (i : Int) (rd c (i : Int)) a c (c.length : Int) (i : Int) (mapR T.length (uF R c R.length)) (T.length : Int) (k : Int) R U (payF T)) r
  | 0, k, a, hk, a0, a1, ha => by
    have h5 := g.r5
    have e : a = cst R T c i := by simp only [payS] at ha; omega
    subst e
    refine Ev.step (fun n => ?_) hn
    simp only [jam_game_costs.l1]
    rw [if_neg (by omega), if_pos (by omega), wrapN i (by omega)]
  | m + 1, k, a, hk, a0, a1, ha => by
    have h5 := g.r5
    have h8 := g.t8
    have hb := rte_b g h hi
    have hp := pow_b g.t8
    have hc := h.ok i hi
    have hbk := bk_and (x := rte R c i) (k := k) (by omega) (by omega) (by omega)
    simp only [payS] at ha
    by_cases hb1 : bk (rte R c i) k = 1
    · rw [if_pos hb1] at ha
      have hpay := pay_b g h (k := k) (by omega) hi hb1
      have ih := costs_l1 U r i hi x7 x8 h7 hn m (k + 1) (a + rd (rd_L12 T (k : Int)) (uF R c R.length k - 1)) (by omega) (by omega) (by omega) (by omega)
      refine Ev.step (fun n => ?_) ih
      simp only [jam_game_costs.l1]
      rw [if_pos (by omega), if_pos (by omega), if_pos (by rw [mapR_len]; omega), if_pos (by omega), if_pos (by omega), if_pos (by omega), if_pos hc.2, show rd (rd_L12 R (i : Int)) (rd c (i : Int)) = rte R c i from rfl, hbk.1, if_pos hb1, mapR_rd (by omega), hpay.1, Option.bind_some, wsm (by unfold sm; omega), wrapN k (by omega)]
    · rw [if_neg hb1] at ha
      have ih := costs_l1 U r i hi x7 x8 h7 hn m (k + 1) a (by omega) (by omega) (by omega) (by omega)
      refine Ev.step (fun n => ?_) ih
      simp only [jam_game_costs.l1]
      rw [if_pos (by omega), if_pos (by omega), if_pos (by rw [mapR_len]; omega), if_pos (by omega), if_pos (by omega), if_pos (by omega), if_pos hc.2, show rd (rd_L12 R (i : Int)) (rd c (i : Int)) = rte R c i from rfl, hbk.1, if_neg hb1, wrapN k (by omega)]
theorem costs_l0 (U : List Unit) : ∀ (m i : Nat), i + m = R.length → Ev (fun n => jam_game_costs.l0 n (mapR T.length (uF R c R.length)) (mapR i (cst R T c)) (totF R T c i) c (c.length : Int) (i : Int) R U (payF T)) (mapR R.length (cst R T c), totF R T c R.length)
  | 0, i, hi => by
    have e : i = R.length := by omega
    subst e
    have hl := h.len
    refine Ev.step (f := fun _ => some (mapR R.length (cst R T c), totF R T c R.length)) (fun n => ?_) (Ev.now _)
    simp only [jam_game_costs.l0]
    rw [if_neg (by omega)]
  | m + 1, i, hi => by
    have hl := h.len
    have h5 := g.r5
    have hcb := cst_b g h (i := i) (by omega)
    have htb := totF_b g h i (by omega)
    have ih := costs_l0 U m (i + 1) (by omega)
    have hin := costs_l1 g h U _ i (by omega) (mapR i (cst R T c)) (totF R T c i) (mapR_len _ _) (by
      rw [mapR_succ, wsm (by unfold sm; omega)]; exact ih) T.length 0 0 (by omega) (by omega) (by omega) (by unfold cst; omega)
    refine Ev.step (fun n => ?_) hin
    simp only [jam_game_costs.l0]
    rw [if_pos (by omega), if_pos (by omega), if_pos (by omega), mapR_len]
    rfl
theorem costs_ev : Ev (fun n => jam_game_costs.f n R (unitsOf T) (payF T) c) (mapR R.length (cst R T c), totF R T c R.length) := by
  unfold jam_game_costs.f
  exact Ev.bind (users_ev g h (payF T)) (costs_l0 g h (unitsOf T) R.length 0 (by omega))
end
end Go.Proofs.Ytjgbdicbdlollaa.B
namespace Go.Proofs.Ytjgbdicbdlollaa.B
open Go.RowKit Go.Sort Go.Proofs.YtjgbdicbdlollaaW.PrintWords Go.Proofs.YtjgbdicbdlollaaW.PrintLast Go.Proofs.YtjgbdicbdlollaaW.PrintMore
set_option linter.unusedVariables false
set_option linter.unusedSimpArgs false
theorem allRd {l : List Int} {P : Int → Prop} : (∀ q : Nat, q < l.length → P (rd l (q : Int))) ↔ ∀ x ∈ l, P x := by
  constructor
  · intro h x hx
    obtain ⟨q, hq, rfl⟩ := List.mem_iff_getElem.1 hx
    rw [← rdN l q hq]; exact h q hq
  · intro h q hq
    exact h _ (rd_mem2 l q hq)
theorem all_rdL {l : List (List Int)} {P : List Int → Prop} : (∀ q : Nat, q < l.length → P (rd_L12 l (q : Int))) ↔ ∀ x ∈ l, P x := by
  constructor
  · intro h x hx
    obtain ⟨q, hq, rfl⟩ := List.mem_iff_getElem.1 hx
    rw [← rdL l q hq]; exact h q hq
  · intro h q hq
    exact h _ (rdL_mem l q hq)
theorem shl_pow {m : Nat} (h : m ≤ 8) : shl .i64 1 (m : Int) = 2 ^ m := by
  have : ∀ a : Fin 9, shl .i64 1 ((a.val : Nat) : Int) = 2 ^ a.val := by decide +kernel
  exact this ⟨m, by omega⟩
structure FewOk (R T : List (List Int)) (c : List Int) : Prop where
  r : R.length ≤ 20
  t : T.length ≤ 20
  rr : ∀ x ∈ R, x.length ≤ 20
  tt : ∀ x ∈ T, x.length ≤ 20
  c : c.length ≤ 20
theorem few_l1 (R T : List (List Int)) (c : List Int) : ∀ (m i : Nat), i + m = 20 → ∃ b, Ev (fun k => trishawlaw02_few.l1 k c (i : Int) R T) b ∧ (b = true ↔ (T.length ≤ 20 ∧ ∀ q : Nat, i ≤ q → q < T.length → (rd_L12 T (q : Int)).length ≤ 20) ∧ c.length ≤ 20)
  | 0, i, h => by
    by_cases hT : i < T.length
    · refine ⟨false, Ev.step (f := fun _ => some false) (fun k => ?_) (Ev.now _), by simp; intro h1; omega⟩
      simp only [trishawlaw02_few.l1]
      rw [if_pos (by omega), if_pos (by omega)]
    · refine ⟨decide ((c.length : Int) ≤ 20), Ev.step (f := fun _ => some (decide ((c.length : Int) ≤ 20))) (fun k => ?_) (Ev.now _), ?_⟩
      · simp only [trishawlaw02_few.l1]
        rw [if_neg (by omega)]
      · rw [decide_eq_true_eq]
        exact ⟨fun h1 => ⟨⟨by omega, fun q h2 h3 => by omega⟩, by omega⟩, fun h1 => by have := h1.2; omega⟩
  | m + 1, i, h => by
    by_cases hT : i < T.length
    · by_cases hl : ((rd_L12 T (i : Int)).length : Int) > 20
      · refine ⟨false, Ev.step (f := fun _ => some false) (fun k => ?_) (Ev.now _), ?_⟩
        · simp only [trishawlaw02_few.l1]
          rw [if_pos (by omega), if_neg (by omega), if_pos (by omega), if_pos hl]
        · constructor
          · intro h1; exact absurd h1 (by simp)
          · intro h1; have := h1.1.2 i (Nat.le_refl _) hT; omega
      · obtain ⟨b, hb, hi⟩ := few_l1 R T c m (i + 1) (by omega)
        refine ⟨b, Ev.step (fun k => ?_) hb, ?_⟩
        · simp only [trishawlaw02_few.l1]
          rw [if_pos (by omega), if_neg (by omega), if_pos (by omega), if_neg hl, wrapN i (by omega)]
        · rw [hi]
          refine ⟨fun h1 => ⟨⟨h1.1.1, fun q h2 h3 => ?_⟩, h1.2⟩, fun h1 => ⟨⟨h1.1.1, fun q h2 h3 => h1.1.2 q (by omega) h3⟩, h1.2⟩⟩
          by_cases he : q = i
          · subst he; omega
          · exact h1.1.2 q (by omega) h3
    · refine ⟨decide ((c.length : Int) ≤ 20), Ev.step (f := fun _ => some (decide ((c.length : Int) ≤ 20))) (fun k => ?_) (Ev.now _), ?_⟩
      · simp only [trishawlaw02_few.l1]
        rw [if_neg (by omega)]
      · rw [decide_eq_true_eq]
        exact ⟨fun h1 => ⟨⟨by omega, fun q h2 h3 => by omega⟩, by omega⟩, fun h1 => by have := h1.2; omega⟩
theorem few_l0 (R T : List (List Int)) (c : List Int) : ∀ (m i : Nat), i + m = 20 → ∃ b, Ev (fun k => trishawlaw02_few.l0 k c (i : Int) R T) b ∧ (b = true ↔ (R.length ≤ 20 ∧ ∀ q : Nat, i ≤ q → q < R.length → (rd_L12 R (q : Int)).length ≤ 20) ∧ (T.length ≤ 20 ∧ ∀ q : Nat, 0 ≤ q → q < T.length → (rd_L12 T (q : Int)).length ≤ 20) ∧ c.length ≤ 20)
  | 0, i, h => by
    by_cases hT : i < R.length
    · refine ⟨false, Ev.step (f := fun _ => some false) (fun k => ?_) (Ev.now _), by simp; intro h1; omega⟩
      simp only [trishawlaw02_few.l0]
      rw [if_pos (by omega), if_pos (by omega)]
    · obtain ⟨b, hb, hi⟩ := few_l1 R T c 20 0 rfl
      refine ⟨b, Ev.step (fun k => ?_) hb, ?_⟩
      · simp only [trishawlaw02_few.l0]
        rw [if_neg (by omega)]; rfl
      · rw [hi]
        exact ⟨fun h1 => ⟨⟨by omega, fun q h2 h3 => by omega⟩, h1⟩, fun h1 => h1.2⟩
  | m + 1, i, h => by
    by_cases hT : i < R.length
    · by_cases hl : ((rd_L12 R (i : Int)).length : Int) > 20
      · refine ⟨false, Ev.step (f := fun _ => some false) (fun k => ?_) (Ev.now _), ?_⟩
        · simp only [trishawlaw02_few.l0]
          rw [if_pos (by omega), if_neg (by omega), if_pos (by omega), if_pos hl]
        · constructor
          · intro h1; exact absurd h1 (by simp)
          · intro h1; have := h1.1.2 i (Nat.le_refl _) hT; omega
      · obtain ⟨b, hb, hi⟩ := few_l0 R T c m (i + 1) (by omega)
        refine ⟨b, Ev.step (fun k => ?_) hb, ?_⟩
        · simp only [trishawlaw02_few.l0]
          rw [if_pos (by omega), if_neg (by omega), if_pos (by omega), if_neg hl, wrapN i (by omega)]
        · rw [hi]
          refine ⟨fun h1 => ⟨⟨h1.1.1, fun q h2 h3 => ?_⟩, h1.2⟩, fun h1 => ⟨⟨h1.1.1, fun q h2 h3 => h1.1.2 q (by omega) h3⟩, h1.2⟩⟩
          by_cases he : q = i
          · subst he; omega
          · exact h1.1.2 q (by omega) h3
    · obtain ⟨b, hb, hi⟩ := few_l1 R T c 20 0 rfl
      refine ⟨b, Ev.step (fun k => ?_) hb, ?_⟩
      · simp only [trishawlaw02_few.l0]
        rw [if_neg (by omega)]; rfl
      · rw [hi]
        exact ⟨fun h1 => ⟨⟨by omega, fun q h2 h3 => by omega⟩, h1⟩, fun h1 => h1.2⟩
theorem few_ev (R T : List (List Int)) (c : List Int) : ∃ b, Ev (fun k => trishawlaw02_few.f k R T c) b ∧ (b = true ↔ FewOk R T c) := by
  obtain ⟨b, hb, hi⟩ := few_l0 R T c 20 0 rfl
  refine ⟨b, hb, hi.trans ⟨fun h => ⟨h.1.1, h.2.1.1, ?_, ?_, h.2.2⟩, fun h => ⟨⟨h.r, ?_⟩, ⟨h.t, ?_⟩, h.c⟩⟩⟩
  · exact all_rdL.1 fun q hq => h.1.2 q (Nat.zero_le _) hq
  · exact all_rdL.1 fun q hq => h.2.1.2 q (Nat.zero_le _) hq
  · exact fun q _ hq => h.rr _ (rdL_mem R q hq)
  · exact fun q _ hq => h.tt _ (rdL_mem T q hq)
section
variable (R T : List (List Int)) (h5 : R.length ≤ 5) (h8 : T.length ≤ 8)
include h5 h8
theorem ig_l3 (k : Nat) (hk : k < T.length) (hl : (rd_L12 T (k : Int)).length = R.length) (b2 : Bool) (h2 : Ev (fun n => trishawref02_IsGame.l2 n (R.length : Int) (T.length : Int) ((k + 1 : Nat) : Int) R T) b2) : ∀ (m j : Nat), j + m = R.length →
    ∃ b, Ev (fun n => trishawref02_IsGame.l3 n (R.length : Int) (T.length : Int) (k : Int) (j : Int) R T) b ∧ (b = true ↔ (∀ q : Nat, j ≤ q → q < R.length → 0 ≤ rd (rd_L12 T (k : Int)) (q : Int) ∧ rd (rd_L12 T (k : Int)) (q : Int) ≤ 1000) ∧ b2 = true)
  | 0, j, h => by
    refine ⟨b2, Ev.step (fun n => ?_) h2, ⟨fun h => ⟨fun q h1 h2 => by omega, h⟩, fun h => h.2⟩⟩
    simp only [trishawref02_IsGame.l3]
    rw [if_neg (by omega), wrapN k (by omega)]
  | m + 1, j, h => by
    by_cases hx : 0 ≤ rd (rd_L12 T (k : Int)) (j : Int) ∧ rd (rd_L12 T (k : Int)) (j : Int) ≤ 1000
    · obtain ⟨b, hb, hi⟩ := ig_l3 k hk hl b2 h2 m (j + 1) (by omega)
      refine ⟨b, Ev.step (fun n => ?_) hb, hi.trans ⟨fun h => ⟨fun q h1 h2 => ?_, h.2⟩, fun h => ⟨fun q h1 h2 => h.1 q (by omega) h2, h.2⟩⟩⟩
      · simp only [trishawref02_IsGame.l3]
        rw [if_pos (by omega), if_pos (by omega), if_pos (by omega), if_pos (by omega), if_pos (by omega), if_neg (by omega), if_neg (by omega), wrapN j (by omega)]
      · by_cases he : q = j
        · subst he; exact hx
        · exact h.1 q (by omega) h2
    · refine ⟨false, Ev.step (f := fun _ => some false) (fun n => ?_) (Ev.now _), ⟨fun h => absurd h (by simp), fun h => absurd (h.1 j (Nat.le_refl _) (by omega)) hx⟩⟩
      simp only [trishawref02_IsGame.l3]
      rw [if_pos (by omega), if_pos (by omega), if_pos (by omega), if_pos (by omega), if_pos (by omega)]
      by_cases h0 : rd (rd_L12 T (k : Int)) (j : Int) < 0
      · rw [if_pos h0]
      · rw [if_neg h0, if_pos (by omega)]
theorem ig_l2 : ∀ (m k : Nat), k + m = T.length → ∃ b, Ev (fun n => trishawref02_IsGame.l2 n (R.length : Int) (T.length : Int) (k : Int) R T) b ∧ (b = true ↔ ∀ q : Nat, k ≤ q → q < T.length → (rd_L12 T (q : Int)).length = R.length ∧ ∀ x ∈ rd_L12 T (q : Int), 0 ≤ x ∧ x ≤ 1000)
  | 0, k, h => by
    refine ⟨true, Ev.step (f := fun _ => some true) (fun n => ?_) (Ev.now _), ⟨fun _ q h1 h2 => by omega, fun _ => rfl⟩⟩
    simp only [trishawref02_IsGame.l2]
    rw [if_neg (by omega)]
  | m + 1, k, h => by
    by_cases hl : (rd_L12 T (k : Int)).length = R.length
    · obtain ⟨b2, hb2, hi2⟩ := ig_l2 m (k + 1) (by omega)
      obtain ⟨b, hb, hi⟩ := ig_l3 R T h5 h8 k (by omega) hl b2 hb2 R.length 0 (by omega)
      refine ⟨b, Ev.step (fun n => ?_) hb, hi.trans ⟨fun h q h1 h2 => ?_, fun h => ⟨fun q h1 h2 => ?_, hi2.2 fun q h1 h2 => h q (by omega) h2⟩⟩⟩
      · simp only [trishawref02_IsGame.l2]
        rw [if_pos (by omega), if_pos (by omega), if_pos (by omega), if_pos (by omega)]
        rfl
      · by_cases he : q = k
        · subst he
          exact ⟨hl, allRd.1 fun p hp => h.1 p (Nat.zero_le _) (by omega)⟩
        · exact hi2.1 h.2 q (by omega) h2
      · exact (h k (Nat.le_refl _) (by omega)).2 _ (rd_mem2 _ q (by omega))
    · refine ⟨false, Ev.step (f := fun _ => some false) (fun n => ?_) (Ev.now _), ⟨fun h => absurd h (by simp), fun h => absurd (h k (Nat.le_refl _) (by omega)).1 hl⟩⟩
      simp only [trishawref02_IsGame.l2]
      rw [if_pos (by omega), if_pos (by omega), if_pos (by omega), if_neg (by omega)]
theorem ig_l1 (i : Nat) (hi : i < R.length) (hl : (rd_L12 R (i : Int)).length ≤ 5) (b2 : Bool) (h2 : Ev (fun n => trishawref02_IsGame.l0 n (R.length : Int) (T.length : Int) ((i + 1 : Nat) : Int) R T) b2) : ∀ (m j : Nat), j + m = (rd_L12 R (i : Int)).length →
    ∃ b, Ev (fun n => trishawref02_IsGame.l1 n (R.length : Int) (T.length : Int) (i : Int) (j : Int) R T) b ∧ (b = true ↔ (∀ q : Nat, j ≤ q → q < (rd_L12 R (i : Int)).length → 1 ≤ rd (rd_L12 R (i : Int)) (q : Int) ∧ rd (rd_L12 R (i : Int)) (q : Int) < 2 ^ T.length) ∧ b2 = true)
  | 0, j, h => by
    refine ⟨b2, Ev.step (fun n => ?_) h2, ⟨fun h => ⟨fun q h1 h2 => by omega, h⟩, fun h => h.2⟩⟩
    simp only [trishawref02_IsGame.l1]
    rw [if_pos (by omega), if_pos (by omega), if_neg (by omega), wrapN i (by omega)]
  | m + 1, j, h => by
    have hs := shl_pow h8
    by_cases hx : 1 ≤ rd (rd_L12 R (i : Int)) (j : Int) ∧ rd (rd_L12 R (i : Int)) (j : Int) < 2 ^ T.length
    · obtain ⟨b, hb, hi2⟩ := ig_l1 i hi hl b2 h2 m (j + 1) (by omega)
      refine ⟨b, Ev.step (fun n => ?_) hb, hi2.trans ⟨fun h => ⟨fun q h1 h2 => ?_, h.2⟩, fun h => ⟨fun q h1 h2 => h.1 q (by omega) h2, h.2⟩⟩⟩
      · simp only [trishawref02_IsGame.l1]
        rw [if_pos (by omega), if_pos (by omega), if_pos (by omega), if_pos (by omega), if_neg (by omega), if_pos (by omega), hs, if_neg (by omega), wrapN j (by omega)]
      · by_cases he : q = j
        · subst he; exact hx
        · exact h.1 q (by omega) h2
    · refine ⟨false, Ev.step (f := fun _ => some false) (fun n => ?_) (Ev.now _), ⟨fun h => absurd h (by simp), fun h => absurd (h.1 j (Nat.le_refl _) (by omega)) hx⟩⟩
      simp only [trishawref02_IsGame.l1]
      rw [if_pos (by omega), if_pos (by omega), if_pos (by omega), if_pos (by omega)]
      by_cases h0 : rd (rd_L12 R (i : Int)) (j : Int) < 1
      · rw [if_pos h0]
      · rw [if_neg h0, if_pos (by omega), hs, if_pos (by omega)]
theorem ig_l0 : ∀ (m i : Nat), i + m = R.length → ∃ b, Ev (fun n => trishawref02_IsGame.l0 n (R.length : Int) (T.length : Int) (i : Int) R T) b ∧ (b = true ↔ (∀ q : Nat, i ≤ q → q < R.length → 1 ≤ (rd_L12 R (q : Int)).length ∧ (rd_L12 R (q : Int)).length ≤ 5 ∧ ∀ x ∈ rd_L12 R (q : Int), 1 ≤ x ∧ x < 2 ^ T.length) ∧ (∀ q : Nat, q < T.length → (rd_L12 T (q : Int)).length = R.length ∧ ∀ x ∈ rd_L12 T (q : Int), 0 ≤ x ∧ x ≤ 1000))
  | 0, i, h => by
    obtain ⟨b2, hb2, hi2⟩ := ig_l2 R T h5 h8 T.length 0 (by omega)
    refine ⟨b2, Ev.step (fun n => ?_) hb2, hi2.trans ⟨fun h => ⟨fun q h1 h2 => by omega, fun q h1 => h q (Nat.zero_le _) h1⟩, fun h q _ h1 => h.2 q h1⟩⟩
    simp only [trishawref02_IsGame.l0]
    rw [if_neg (by omega)]
    rfl
  | m + 1, i, h => by
    have hbad : ¬ (1 ≤ (rd_L12 R (i : Int)).length ∧ (rd_L12 R (i : Int)).length ≤ 5) → Ev (fun n => trishawref02_IsGame.l0 n (R.length : Int) (T.length : Int) (i : Int) R T) false := by
      intro hx
      have hj : Ev (fun n => trishawref02_IsGame.j2 n (R.length : Int) (T.length : Int) (i : Int) true R T) false := Ev.step (f := fun _ => some false) (fun n => by simp [trishawref02_IsGame.j2]) (Ev.now _)
      refine Ev.step (fun n => ?_) hj
      simp only [trishawref02_IsGame.l0]
      rw [if_pos (by omega), if_pos (by omega), if_pos (by omega)]
      by_cases h0 : ((rd_L12 R (i : Int)).length : Int) < 1
      · rw [if_pos h0]
      · rw [if_neg h0, decide_eq_true (by omega)]
    by_cases hx : 1 ≤ (rd_L12 R (i : Int)).length ∧ (rd_L12 R (i : Int)).length ≤ 5
    · obtain ⟨b2, hb2, hi2⟩ := ig_l0 m (i + 1) (by omega)
      obtain ⟨b, hb, hi3⟩ := ig_l1 R T h5 h8 i (by omega) hx.2 b2 hb2 _ 0 (Nat.zero_add _)
      have hj : Ev (fun n => trishawref02_IsGame.j2 n (R.length : Int) (T.length : Int) (i : Int) false R T) b := Ev.step (fun n => by simp only [trishawref02_IsGame.j2]; rw [if_neg (by simp)]; rfl) hb
      refine ⟨b, Ev.step (fun n => ?_) hj, hi3.trans ⟨fun h => ⟨fun q h1 h2 => ?_, (hi2.1 h.2).2⟩, fun h => ⟨fun q h1 h2 => ?_, hi2.2 ⟨fun q h1 h2 => h.1 q (by omega) h2, h.2⟩⟩⟩⟩
      · simp only [trishawref02_IsGame.l0]
        rw [if_pos (by omega), if_pos (by omega), if_pos (by omega), if_neg (by omega), decide_eq_false (by omega)]
      · by_cases he : q = i
        · subst he
          exact ⟨hx.1, hx.2, allRd.1 fun p hp => h.1 p (Nat.zero_le _) hp⟩
        · exact (hi2.1 h.2).1 q (by omega) h2
      · exact (h.1 i (Nat.le_refl _) (by omega)).2.2 _ (rd_mem2 _ q h2)
    · refine ⟨false, hbad hx, ⟨fun h => absurd h (by simp), fun h => absurd ⟨(h.1 i (Nat.le_refl _) (by omega)).1, (h.1 i (Nat.le_refl _) (by omega)).2.1⟩ hx⟩⟩
end
theorem isGame_ev (R T : List (List Int)) : ∃ b, Ev (fun k => trishawref02_IsGame.f k R T) b ∧ (b = true ↔ GameOk R T) := by
  by_cases hx : 1 ≤ R.length ∧ R.length ≤ 5 ∧ 1 ≤ T.length ∧ T.length ≤ 8
  · obtain ⟨b, hb, hi⟩ := ig_l0 R T hx.2.1 hx.2.2.2 R.length 0 (by omega)
    have hj : Ev (fun n => trishawref02_IsGame.j0 n (R.length : Int) (T.length : Int) false R T) b := Ev.step (fun n => by simp only [trishawref02_IsGame.j0]; rw [if_neg (by simp)]; rfl) hb
    refine ⟨b, Ev.congr (fun k => ?_) hj, hi.trans ⟨fun h => ⟨hx.1, hx.2.1, hx.2.2.1, hx.2.2.2, all_rdL.1 fun q hq => h.1 q (Nat.zero_le _) hq, all_rdL.1 h.2⟩, fun h => ⟨fun q _ hq => h.row _ (rdL_mem R q hq), fun q hq => h.toll _ (rdL_mem T q hq)⟩⟩⟩
    unfold trishawref02_IsGame.f
    rw [if_neg (by omega), if_neg (by omega), if_neg (by omega), decide_eq_false (by omega)]
  · have hj : Ev (fun n => trishawref02_IsGame.j0 n (R.length : Int) (T.length : Int) true R T) false := Ev.step (f := fun _ => some false) (fun n => by simp [trishawref02_IsGame.j0]) (Ev.now _)
    refine ⟨false, Ev.congr (fun k => ?_) hj, ⟨fun h => absurd h (by simp), fun h => absurd ⟨h.r1, h.r5, h.t1, h.t8⟩ hx⟩⟩
    unfold trishawref02_IsGame.f
    by_cases h1 : (R.length : Int) < 1
    · rw [if_pos h1]
    · rw [if_neg h1]
      by_cases h2 : (R.length : Int) > 5
      · rw [if_pos h2]
      · rw [if_neg h2]
        by_cases h3 : (T.length : Int) < 1
        · rw [if_pos h3]
        · rw [if_neg h3, decide_eq_true (by omega)]
theorem ic_l0 (R T : List (List Int)) (c : List Int) (hl : c.length = R.length) (h5 : R.length ≤ 20) : ∀ (m i : Nat), i + m = R.length → ∃ b, Ev (fun k => trishawref02_IsChoice.l0 k c (i : Int) R T) b ∧ (b = true ↔ ∀ q : Nat, i ≤ q → q < R.length → 0 ≤ rd c (q : Int) ∧ rd c (q : Int) < ((rd_L12 R (q : Int)).length : Int))
  | 0, i, h => by
    refine ⟨true, Ev.step (f := fun _ => some true) (fun n => ?_) (Ev.now _), ⟨fun _ q h1 h2 => by omega, fun _ => rfl⟩⟩
    simp only [trishawref02_IsChoice.l0]
    rw [if_neg (by omega)]
  | m + 1, i, h => by
    by_cases hx : 0 ≤ rd c (i : Int) ∧ rd c (i : Int) < ((rd_L12 R (i : Int)).length : Int)
    · obtain ⟨b, hb, hi⟩ := ic_l0 R T c hl h5 m (i + 1) (by omega)
      refine ⟨b, Ev.step (fun n => ?_) hb, hi.trans ⟨fun h q h1 h2 => ?_, fun h q h1 h2 => h q (by omega) h2⟩⟩
      · simp only [trishawref02_IsChoice.l0]
        rw [if_pos (by omega), if_pos (by omega), if_neg (by omega), if_pos (by omega), if_neg (by omega), wrapN i (by omega)]
      · by_cases he : q = i
        · subst he; exact hx
        · exact h q (by omega) h2
    · refine ⟨false, Ev.step (f := fun _ => some false) (fun n => ?_) (Ev.now _), ⟨fun h => absurd h (by simp), fun h => absurd (h i (Nat.le_refl _) (by omega)) hx⟩⟩
      simp only [trishawref02_IsChoice.l0]
      rw [if_pos (by omega), if_pos (by omega)]
      by_cases h0 : rd c (i : Int) < 0
      · rw [if_pos h0]
      · rw [if_neg h0, if_pos (by omega), if_pos (by omega)]
theorem isChoice_ev (R T : List (List Int)) (c : List Int) (h5 : R.length ≤ 20) : ∃ b, Ev (fun k => trishawref02_IsChoice.f k R T c) b ∧ (b = true ↔ ChOk R c) := by
  by_cases hl : c.length = R.length
  · obtain ⟨b, hb, hi⟩ := ic_l0 R T c hl h5 R.length 0 (by omega)
    refine ⟨b, Ev.congr (fun k => ?_) hb, hi.trans ⟨fun h => ⟨hl, fun i hi => h i (Nat.zero_le _) hi⟩, fun h q _ hq => h.ok q hq⟩⟩
    unfold trishawref02_IsChoice.f
    rw [if_pos (by omega)]
    rfl
  · refine ⟨false, Ev.congr (f := fun _ => some false) (fun k => ?_) (Ev.now _), ⟨fun h => absurd h (by simp), fun h => absurd h.len hl⟩⟩
    unfold trishawref02_IsChoice.f
    rw [if_neg (by omega)]
theorem le_minU (l : List Int) (a : Int) : ∀ i : Nat, a ≤ minU l i ↔ ∀ q : Nat, q ≤ i → a ≤ rd l (q : Int)
  | 0 => by
    simp only [minU]
    exact ⟨fun h q hq => by obtain rfl : q = 0 := by omega
                            exact h, fun h => h 0 (Nat.le_refl _)⟩
  | i + 1 => by
    have ih := le_minU l a i
    have e : a ≤ minU l (i + 1) ↔ a ≤ minU l i ∧ a ≤ rd l ((i + 1 : Nat) : Int) := by
      simp only [minU, mn]
      split <;> omega
    rw [e, ih]
    refine ⟨fun h q hq => ?_, fun h => ⟨fun q hq => h q (by omega), h _ (Nat.le_refl _)⟩⟩
    by_cases he : q = i + 1
    · subst he; exact h.2
    · exact h.1 q (by omega)
theorem maxU_le (l : List Int) (a : Int) : ∀ i : Nat, maxU l i ≤ a ↔ ∀ q : Nat, q ≤ i → rd l (q : Int) ≤ a
  | 0 => by
    simp only [maxU]
    exact ⟨fun h q hq => by obtain rfl : q = 0 := by omega
                            exact h, fun h => h 0 (Nat.le_refl _)⟩
  | i + 1 => by
    have ih := maxU_le l a i
    have e : maxU l (i + 1) ≤ a ↔ maxU l i ≤ a ∧ rd l ((i + 1 : Nat) : Int) ≤ a := by
      simp only [maxU, mx]
      split <;> omega
    rw [e, ih]
    refine ⟨fun h q hq => ?_, fun h => ⟨fun q hq => h q (by omega), h _ (Nat.le_refl _)⟩⟩
    by_cases he : q = i + 1
    · subst he; exact h.2
    · exact h.1 q (by omega)
theorem minU_all (l : List Int) (a : Int) (h : 1 ≤ l.length) : a ≤ minU l (l.length - 1) ↔ ∀ x ∈ l, a ≤ x := by
  rw [le_minU, ← allRd]
  exact ⟨fun h1 q hq => h1 q (by omega), fun h1 q hq => h1 q (by omega)⟩
theorem maxU_all (l : List Int) (a : Int) (h : 1 ≤ l.length) : maxU l (l.length - 1) ≤ a ↔ ∀ x ∈ l, x ≤ a := by
  rw [maxU_le, ← allRd]
  exact ⟨fun h1 q hq => h1 q (by omega), fun h1 q hq => h1 q (by omega)⟩
theorem readOk_iff (R T : List (List Int)) : readOk R T = true ↔ GameOk R T := by
  unfold readOk
  simp only [Bool.and_eq_true, decide_eq_true_eq, List.all_eq_true]
  constructor
  · rintro ⟨⟨⟨⟨⟨h1, h2⟩, h3⟩, h4⟩, h5⟩, h6⟩
    refine ⟨h1, h2, h3, h4, fun l hl => ?_, fun t ht => ?_⟩
    · have := h6 l hl
      unfold routeOk at this
      simp only [Bool.and_eq_true, decide_eq_true_eq] at this
      obtain ⟨⟨⟨a1, a2⟩, a3⟩, a4⟩ := this
      rw [shl_pow h4] at a4
      refine ⟨a1, a2, fun x hx => ⟨(minU_all l 1 a1).1 a3 x hx, ?_⟩⟩
      have := (maxU_all l (2 ^ T.length - 1) a1).1 (by omega) x hx
      omega
    · have := h5 t ht
      unfold tollOk at this
      simp only [Bool.and_eq_true, decide_eq_true_eq] at this
      obtain ⟨⟨a1, a2⟩, a3⟩ := this
      exact ⟨a1, fun x hx => ⟨(minU_all t 0 (by omega)).1 a2 x hx, (maxU_all t 1000 (by omega)).1 a3 x hx⟩⟩
  · intro g
    refine ⟨⟨⟨⟨⟨g.r1, g.r5⟩, g.t1⟩, g.t8⟩, fun t ht => ?_⟩, fun l hl => ?_⟩
    · have h := g.toll t ht
      have h1 := g.r1
      unfold tollOk
      simp only [Bool.and_eq_true, decide_eq_true_eq]
      exact ⟨⟨h.1, (minU_all t 0 (by omega)).2 fun x hx => (h.2 x hx).1⟩, (maxU_all t 1000 (by omega)).2 fun x hx => (h.2 x hx).2⟩
    · have h := g.row l hl
      unfold routeOk
      simp only [Bool.and_eq_true, decide_eq_true_eq]
      refine ⟨⟨⟨h.1, h.2.1⟩, (minU_all l 1 h.1).2 fun x hx => (h.2.2 x hx).1⟩, ?_⟩
      rw [shl_pow g.t8]
      have := (maxU_all l (2 ^ T.length - 1) h.1).2 fun x hx => by have := (h.2.2 x hx).2; omega
      omega
theorem choiceOk_iff (R : List (List Int)) (c : List Int) : choiceOk R c = true ↔ ChOk R c := by
  unfold choiceOk
  simp only [Bool.and_eq_true, decide_eq_true_eq, List.all_eq_true, List.mem_range]
  exact ⟨fun h => ⟨h.1, fun i hi => h.2 i (by omega)⟩, fun h => ⟨h.len, fun i hi => h.ok i (by have := h.len; omega)⟩⟩
theorem playOk_iff (R T : List (List Int)) (c : List Int) : playOk R T c = true ↔ GameOk R T ∧ ChOk R c := by
  unfold playOk
  rw [Bool.and_eq_true, readOk_iff, choiceOk_iff]
end Go.Proofs.Ytjgbdicbdlollaa.B
namespace Go.Proofs.Ytjgbdicbdlollaa.B
open Go.RowKit Go.Sort Go.Proofs.YtjgbdicbdlollaaW.PrintWords Go.Proofs.YtjgbdicbdlollaaW.PrintLast Go.Proofs.YtjgbdicbdlollaaW.PrintMore
set_option linter.unusedVariables false
set_option linter.unusedSimpArgs false
def Agree (i : Nat) (a b : List Int) : Prop := ∀ j : Nat, j < i → rd a (j : Int) = rd b (j : Int)
def LexLe (n : Nat) (b c : List Int) : Prop := b = c ∨ ∃ j : Nat, j < n ∧ Agree j b c ∧ rd b (j : Int) < rd c (j : Int)
theorem agree_all {n : Nat} {a b : List Int} (ha : a.length = n) (hb : b.length = n) (h : Agree n a b) : a = b := by
  refine List.ext_getElem (by omega) fun i h1 h2 => ?_
  rw [← rdN a i h1, ← rdN b i h2]
  exact h i (by omega)
theorem rd_set_eq (l : List Int) (i : Nat) (v : Int) (h : i < l.length) : rd (l.set i v) (i : Int) = v := by
  rw [rdN _ i (by simpa using h)]; simp
theorem rd_set_ne (l : List Int) (i j : Nat) (v : Int) (h : j ≠ i) : rd (l.set i v) (j : Int) = rd l (j : Int) := by
  unfold rd
  simp only [Int.toNat_natCast, List.getD_eq_getElem?_getD]
  rw [List.getElem?_set_ne (fun e => h e.symm)]
abbrev tot (R T : List (List Int)) (c : List Int) : Int := totF R T c R.length
theorem chok_ne {R T : List (List Int)} (g : GameOk R T) {c : List Int} (h : ChOk R c) : c ≠ [] := by
  intro e
  have := h.len
  have := g.r1
  subst e
  simp at *
  omega
structure Inv (R T : List (List Int)) (i : Nat) (ch0 : List Int) (s0 : List Int × Int) (r : Nat) (s : List Int × Int) : Prop where
  low : ∀ c', ChOk R c' → Agree i c' ch0 → rd c' (i : Int) < r → s.2 ≤ tot R T c' ∧ (s.2 = tot R T c' → s = s0 ∨ LexLe R.length s.1 c')
  own : s = s0 ∨ (ChOk R s.1 ∧ tot R T s.1 = s.2 ∧ Agree i s.1 ch0 ∧ rd s.1 (i : Int) < r ∧ (s0.1 = [] ∨ s.2 < s0.2))
  some_ : 0 < r → s.1 ≠ []
end Go.Proofs.Ytjgbdicbdlollaa.B
namespace Go.Proofs.Ytjgbdicbdlollaa.B
open Go.RowKit Go.Sort Go.Proofs.YtjgbdicbdlollaaW.PrintWords Go.Proofs.YtjgbdicbdlollaaW.PrintLast Go.Proofs.YtjgbdicbdlollaaW.PrintMore
set_option linter.unusedVariables false
set_option linter.unusedSimpArgs false
set_option linter.unusedSectionVars false
section
variable {R T : List (List Int)} {c : List Int} (g : GameOk R T) (h : ChOk R c)
include g h
end
/-- What drivers pay on a street, from the u-th on. -/
def pIn (t : List Int) : Nat → Nat → Int
  | 0, _ => 0
  | m + 1, u => rd t (u : Int) + pIn t m (u + 1)
def pO (R T : List (List Int)) (c : List Int) : Nat → Nat → Int
  | 0, _ => 0
  | m + 1, k => pIn (rd_L12 T (k : Int)) (uF R c R.length k).toNat 0 + pO R T c m (k + 1)
abbrev pot (R T : List (List Int)) (c : List Int) : Int := pO R T c T.length 0
theorem pIn_b {t : List Int} (ht : ∀ x ∈ t, 0 ≤ x ∧ x ≤ 1000) : ∀ (m u : Nat), u + m ≤ t.length → 0 ≤ pIn t m u ∧ pIn t m u ≤ 1000 * m
  | 0, _, _ => by simp [pIn]
  | m + 1, u, h => by
    have ih := pIn_b ht m (u + 1) (by omega)
    have := ht _ (rd_mem2 t u (by omega))
    simp only [pIn]
    omega
section
variable {R T : List (List Int)} {c : List Int} (g : GameOk R T) (h : ChOk R c)
include g
theorem potIn_ev (k : Nat) (hk : k < T.length) : ∀ (m u : Nat) (s : Int), u + m ≤ R.length → 0 ≤ s → s ≤ 100000 + 1000 * u → potIn T (k : Int) m u s = some (s + pIn (rd_L12 T (k : Int)) m u)
  | 0, u, s, hu, s0, s1 => by simp [potIn, pIn]
  | m + 1, u, s, hu, s0, s1 => by
    have h5 := g.r5
    have ht := g.toll _ (rdL_mem T k hk)
    have hx := ht.2 _ (rd_mem2 (rd_L12 T (k : Int)) u (by omega))
    have ep : payF T (k : Int) ((u : Int) + 1) = some (rd (rd_L12 T (k : Int)) (u : Int)) := by
      unfold payF
      rw [show ((u : Int) + 1 - 1) = (u : Int) by omega, if_pos (by omega), if_pos (by omega), if_pos (by omega), if_pos (by omega)]
    simp only [potIn, pIn]
    rw [ep, Option.bind_some, wsm (by unfold sm; omega), potIn_ev k hk m (u + 1) _ (by omega) (by omega) (by omega), Int.add_assoc]
include h
theorem pIn_b2 {k : Nat} (hk : k < T.length) : 0 ≤ pIn (rd_L12 T (k : Int)) (uF R c R.length k).toNat 0 ∧ pIn (rd_L12 T (k : Int)) (uF R c R.length k).toNat 0 ≤ 5000 := by
  have h5 := g.r5
  have hu := uF_b g h hk R.length (Nat.le_refl _)
  have ht := g.toll _ (rdL_mem T k hk)
  have := pIn_b ht.2 (uF R c R.length k).toNat 0 (by omega)
  omega
theorem potOut_ev : ∀ (m k : Nat) (s : Int), k + m = T.length → 0 ≤ s → s ≤ 5000 * k → potOut T (mapR T.length (uF R c R.length)) m k s = some (s + pO R T c m k)
  | 0, k, s, hk, s0, s1 => by simp [potOut, pO]
  | m + 1, k, s, hk, s0, s1 => by
    have h8 := g.t8
    have hb := pIn_b2 g h (k := k) (by omega)
    have hu := uF_b g h (k := k) (by omega) R.length (Nat.le_refl _)
    simp only [potOut, pO]
    rw [mapR_rd (by omega), potIn_ev g k (by omega) _ 0 s (by omega) s0 (by omega), Option.bind_some, potOut_ev m (k + 1) _ (by omega) (by omega) (by omega), Int.add_assoc]
theorem jpot_ev : Ev (fun n => jam_Potential.f n R T c) (pot R T c, 0) := by
  have h8 := g.t8
  unfold jam_Potential.f
  refine Ev.congr (fun n => if_pos ((playOk_iff R T c).2 ⟨g, h⟩)) (Ev.bind (users_ev g h (payF T)) (Ev.congr (f := fun _ => some (pot R T c, 0)) (fun n => ?_) (Ev.now _)))
  rw [if_pos (by rw [mapR_len]; omega), mapR_len, potOut_ev g h T.length 0 0 (by omega) (by omega) (by omega)]
  simp
end
section
variable {R T : List (List Int)} (hR : R.length ≤ 20) (hT : T.length ≤ 20) (hr : ∀ x ∈ R, x.length ≤ 20) (ht : ∀ x ∈ T, x.length ≤ 20)
include hR hT hr ht
end
end Go.Proofs.Ytjgbdicbdlollaa.B
namespace Go.Proofs.Ytjgbdicbdlollaa.B
open Go.RowKit Go.Sort Go.Proofs.YtjgbdicbdlollaaW.PrintWords Go.Proofs.YtjgbdicbdlollaaW.PrintLast Go.Proofs.YtjgbdicbdlollaaW.PrintMore
set_option linter.unusedVariables false
set_option linter.unusedSimpArgs false
set_option linter.unusedSectionVars false
theorem chok_set {R : List (List Int)} {c : List Int} (h : ChOk R c) {i r : Nat} (hr : r < (rd_L12 R (i : Int)).length) : ChOk R (c.set i (r : Int)) := by
  refine ⟨by simpa using h.len, fun j hj => ?_⟩
  by_cases e : j = i
  · subst e
    rw [rd_set_eq c j _ (by have := h.len; omega)]
    omega
  · rw [rd_set_ne c i j _ e]
    exact h.ok j hj
theorem rte_ne {R : List (List Int)} (c : List Int) (i j : Nat) (v : Int) (h : j ≠ i) : rte R (c.set i v) j = rte R c j := by
  unfold rte
  rw [rd_set_ne c i j v h]
theorem uF_set {R : List (List Int)} (c : List Int) (i : Nat) (v : Int) (k : Nat) : ∀ m, uF R (c.set i v) m k = if i < m then uF R c m k - bk (rte R c i) k + bk (rte R (c.set i v) i) k else uF R c m k
  | 0 => by simp [uF]
  | m + 1 => by
    have ih := uF_set (R := R) c i v k m
    simp only [uF]
    by_cases h1 : i < m
    · rw [if_pos h1] at ih
      rw [if_pos (by omega), ih, rte_ne c i m v (by omega)]
      omega
    · rw [if_neg h1] at ih
      by_cases h2 : i = m
      · subst h2
        rw [if_pos (by omega), ih]
        omega
      · rw [if_neg (by omega), ih, rte_ne c i m v (by omega)]
theorem pIn_last (t : List Int) : ∀ (m u : Nat), pIn t (m + 1) u = pIn t m u + rd t ((u + m : Nat) : Int)
  | 0, u => by simp [pIn]
  | m + 1, u => by
    have ih := pIn_last t m (u + 1)
    rw [pIn, ih, pIn]
    rw [show u + 1 + m = u + (m + 1) by omega]
    omega
section
variable {R T : List (List Int)} {c : List Int} (g : GameOk R T) (h : ChOk R c)
include g h
theorem ros_street {i r : Nat} (hi : i < R.length) (hr : r < (rd_L12 R (i : Int)).length) {k : Nat} (hk : k < T.length) :
    pIn (rd_L12 T (k : Int)) (uF R (c.set i (r : Int)) R.length k).toNat 0 + (if bk (rte R c i) k = 1 then rd (rd_L12 T (k : Int)) (uF R c R.length k - 1) else 0)
      = pIn (rd_L12 T (k : Int)) (uF R c R.length k).toNat 0 + (if bk (rte R (c.set i (r : Int)) i) k = 1 then rd (rd_L12 T (k : Int)) (uF R (c.set i (r : Int)) R.length k - 1) else 0) := by
  have h2 := chok_set h hr
  have hu := uF_set (R := R) c i (r : Int) k R.length
  rw [if_pos hi] at hu
  have h8 := g.t8
  have hp := pow_b g.t8
  have b1 := rte_b g h hi
  have b2 := rte_b g h2 hi
  have d1 := (bk_and (x := rte R c i) (k := k) (by omega) (by omega) (by omega)).2.2
  have d2 := (bk_and (x := rte R (c.set i (r : Int)) i) (k := k) (by omega) (by omega) (by omega)).2.2
  have u1 := uF_b g h hk R.length (Nat.le_refl _)
  have u2 := uF_b g h2 hk R.length (Nat.le_refl _)
  generalize uF R (c.set i (r : Int)) R.length k = v at *
  have up : bk (rte R c i) k = 1 → 1 ≤ uF R c R.length k := uF_pos g h hk R.length (Nat.le_refl _) hi
  generalize uF R c R.length k = u at *
  generalize bk (rte R c i) k = a at *
  generalize bk (rte R (c.set i (r : Int)) i) k = b at *
  rcases d1 with rfl | rfl <;> rcases d2 with rfl | rfl
  · have : v = u := by omega
    subst this; simp
  · have e : v.toNat = u.toNat + 1 := by omega
    rw [e, pIn_last, if_neg (by decide), if_pos rfl, show ((0 + u.toNat : Nat) : Int) = v - 1 by omega]
    omega
  · have hpos := up rfl
    have e : u.toNat = v.toNat + 1 := by omega
    rw [e, pIn_last, if_pos rfl, if_neg (by decide), show ((0 + v.toNat : Nat) : Int) = u - 1 by omega]
    omega
  · have : v = u := by omega
    subst this; rfl
theorem ros_sum {i r : Nat} (hi : i < R.length) (hr : r < (rd_L12 R (i : Int)).length) : ∀ (m k : Nat), k + m = T.length → pO R T (c.set i (r : Int)) m k + payS R T c i m k = pO R T c m k + payS R T (c.set i (r : Int)) i m k
  | 0, k, hk => by simp [pO, payS]
  | m + 1, k, hk => by
    have ih := ros_sum hi hr m (k + 1) (by omega)
    have hs := ros_street g h hi hr (k := k) (by omega)
    simp only [pO, payS]
    omega
/-- The cost of a driver who takes another route, and the potential, change by the same number. -/
theorem rosenthal {i r : Nat} (hi : i < R.length) (hr : r < (rd_L12 R (i : Int)).length) : pot R T (c.set i (r : Int)) + cst R T c i = pot R T c + cst R T (c.set i (r : Int)) i :=
  ros_sum g h hi hr T.length 0 (by omega)
theorem pO_b : ∀ (m k : Nat), k + m = T.length → 0 ≤ pO R T c m k ∧ pO R T c m k ≤ 5000 * m
  | 0, _, _ => by simp [pO]
  | m + 1, k, hk => by
    have ih := pO_b m (k + 1) (by omega)
    have hb := pIn_b2 g h (k := k) (by omega)
    simp only [pO]
    omega
theorem pot_b : 0 ≤ pot R T c ∧ pot R T c ≤ 40000 := by
  have := pO_b g h T.length 0 (by omega)
  have h8 := g.t8
  refine ⟨this.1, ?_⟩
  show pO R T c T.length 0 ≤ 40000
  omega
end
/-- The best route of a driver: from route r on, o the best so far. -/
def scan (R T : List (List Int)) (c : List Int) (i : Nat) : Nat → Nat → Option Nat → Int → Option Nat
  | 0, _, o, _ => o
  | m + 1, r, o, l => if cst R T (c.set i (r : Int)) i < l then scan R T c i m (r + 1) (some r) (cst R T (c.set i (r : Int)) i) else scan R T c i m (r + 1) o l
theorem scan_some (R T : List (List Int)) (c : List Int) (i : Nat) (L : Int) : ∀ (m r : Nat) (o : Option Nat) (l : Int), l ≤ L → (∀ q, o = some q → q < r ∧ cst R T (c.set i (q : Int)) i < L) → ∀ q, scan R T c i m r o l = some q → q < r + m ∧ cst R T (c.set i (q : Int)) i < L
  | 0, r, o, l, hl, ho, q, h => by simpa using ho q h
  | m + 1, r, o, l, hl, ho, q, h => by
    simp only [scan] at h
    split at h
    · rename_i hlt
      have := scan_some R T c i L m (r + 1) _ _ (by omega) (fun q' e => by injection e with e; subst e; exact ⟨by omega, by omega⟩) q h
      exact ⟨by omega, this.2⟩
    · have := scan_some R T c i L m (r + 1) _ _ hl (fun q' e => by have := ho q' e; exact ⟨by omega, this.2⟩) q h
      exact ⟨by omega, this.2⟩
/-- What a driver does who may. -/
abbrev moveF (R T : List (List Int)) (c : List Int) (i : Nat) : Option Nat := scan R T c i (rd_L12 R (i : Int)).length 0 none (cst R T c i)
def stepF (R T : List (List Int)) (c : List Int) : Nat → Nat → Option (List Int)
  | 0, _ => none
  | m + 1, i => match moveF R T c i with
    | some r => some (c.set i (r : Int))
    | none => stepF R T c m (i + 1)
theorem move_some {R T : List (List Int)} {c : List Int} {i q : Nat} (h : moveF R T c i = some q) : q < (rd_L12 R (i : Int)).length ∧ cst R T (c.set i (q : Int)) i < cst R T c i := by
  have := scan_some R T c i (cst R T c i) _ _ _ _ (Int.le_refl _) (fun q e => by cases e) q h
  exact ⟨by omega, this.2⟩
theorem stepF_some {R T : List (List Int)} {c : List Int} (g : GameOk R T) (h : ChOk R c) : ∀ (m i : Nat), i + m = R.length → ∀ c', stepF R T c m i = some c' → ChOk R c' ∧ pot R T c' < pot R T c
  | 0, _, _, c', e => by simp [stepF] at e
  | m + 1, i, hi, c', e => by
    simp only [stepF] at e
    split at e
    · rename_i r hr
      have hm := move_some hr
      injection e with e
      subst e
      have := rosenthal g h (i := i) (r := r) (by omega) hm.1
      exact ⟨chok_set h hm.1, by omega⟩
    · exact stepF_some g h m (i + 1) (by omega) c' e
def encO (o : Option Nat) : Int := match o with
  | some r => (r : Int)
  | none => -1
section
variable {R T : List (List Int)} {c : List Int} (g : GameOk R T) (h : ChOk R c)
include g h
theorem step_l1 (U : List Unit) (hU : U = unitsOf T) (x5 : List Int) (i : Nat) (hi : i < R.length) (res : List Int) (fin : Option Nat)
    (hn : fin = none → Ev (fun k => jam_game_step.l0 k c x5 (c.length : Int) ((i + 1 : Nat) : Int) R U (payF T)) res) (hs : ∀ q, fin = some q → res = c.set i (q : Int)) : ∀ (m r : Nat) (x8 : List Int) (o : Option Nat) (l : Int), r + m = (rd_L12 R (i : Int)).length → x8.length = c.length → (∀ v : Int, x8.set i v = c.set i v) → scan R T c i m r o l = fin →
    Ev (fun k => jam_game_step.l1 k c x5 (i : Int) x8 (encO o) l (c.length : Int) (i : Int) ((rd_L12 R (i : Int)).length : Int) (r : Int) R U (payF T)) res
  | 0, r, x8, o, l, hr, hx, hv, hf => by
    have hl := h.len
    have h5 := g.r5
    simp only [scan] at hf
    subst hf
    cases ho : o with
    | none =>
      refine Ev.step (fun k => ?_) (hn ho)
      simp only [jam_game_step.l1]
      rw [if_neg (by omega), if_neg (by decide), wrapN i (by omega)]
    | some q =>
      rw [hs q ho]
      refine Ev.step (f := fun _ => some (c.set i (q : Int))) (fun k => ?_) (Ev.now _)
      simp only [jam_game_step.l1]
      rw [if_neg (by omega), if_pos (show encO (some q) ≥ 0 from Int.natCast_nonneg q), if_pos (by omega), if_pos (by omega), Int.toNat_natCast, hv]
      rfl
  | m + 1, r, x8, o, l, hr, hx, hv, hf => by
    have hl := h.len
    have hrow := g.row _ (rdL_mem R i hi)
    have h2 := chok_set h (i := i) (r := r) (by omega)
    have hc := costs_ev g h2
    simp only [scan] at hf
    have hset : ∀ v : Int, (c.set i (r : Int)).set i v = c.set i v := fun v => by rw [List.set_set]
    subst hU
    by_cases hlt : cst R T (c.set i (r : Int)) i < l
    · rw [if_pos hlt] at hf
      have ih := step_l1 _ rfl x5 i hi res fin hn hs m (r + 1) (c.set i (r : Int)) (some r) _ (by omega) (by simp) hset hf
      refine Ev.step (fun k => ?_) (Ev.bind (f := fun k (bt : List Int × Int) => if (i : Int) < (bt.1.length : Int) then (if (rd bt.1 (i : Int)) < l then (jam_game_step.l1 k c x5 (i : Int) (c.set i (r : Int)) (r : Int) (rd bt.1 (i : Int)) (c.length : Int) (i : Int) ((rd_L12 R (i : Int)).length : Int) (wrap64 ((r : Int) + 1)) R (unitsOf T) (payF T)) else (jam_game_step.l1 k c x5 (i : Int) (c.set i (r : Int)) (encO o) l (c.length : Int) (i : Int) ((rd_L12 R (i : Int)).length : Int) (wrap64 ((r : Int) + 1)) R (unitsOf T) (payF T))) else none) hc (Ev.congr (fun k => ?_) ih))
      · simp only [jam_game_step.l1]
        rw [if_pos (by omega), if_pos (by omega), if_pos (by omega), Int.toNat_natCast, hv, Option.bind_some]
      · show (if (i : Int) < ((mapR R.length (cst R T (c.set i (r : Int)))).length : Int) then _ else _) = _
        rw [mapR_len, if_pos (by omega)]
        simp only [mapR_rd hi]
        rw [if_pos hlt, wrapN r (by omega)]
        rfl
    · rw [if_neg hlt] at hf
      have ih := step_l1 _ rfl x5 i hi res fin hn hs m (r + 1) (c.set i (r : Int)) o l (by omega) (by simp) hset hf
      refine Ev.step (fun k => ?_) (Ev.bind (f := fun k (bt : List Int × Int) => if (i : Int) < (bt.1.length : Int) then (if (rd bt.1 (i : Int)) < l then (jam_game_step.l1 k c x5 (i : Int) (c.set i (r : Int)) (r : Int) (rd bt.1 (i : Int)) (c.length : Int) (i : Int) ((rd_L12 R (i : Int)).length : Int) (wrap64 ((r : Int) + 1)) R (unitsOf T) (payF T)) else (jam_game_step.l1 k c x5 (i : Int) (c.set i (r : Int)) (encO o) l (c.length : Int) (i : Int) ((rd_L12 R (i : Int)).length : Int) (wrap64 ((r : Int) + 1)) R (unitsOf T) (payF T))) else none) hc (Ev.congr (fun k => ?_) ih))
      · simp only [jam_game_step.l1]
        rw [if_pos (by omega), if_pos (by omega), if_pos (by omega), Int.toNat_natCast, hv, Option.bind_some]
      · show (if (i : Int) < ((mapR R.length (cst R T (c.set i (r : Int)))).length : Int) then _ else _) = _
        rw [mapR_len, if_pos (by omega)]
        simp only [mapR_rd hi]
        rw [if_neg hlt, wrapN r (by omega)]
theorem step_l0 : ∀ (m i : Nat), i + m = R.length → Ev (fun k => jam_game_step.l0 k c (mapR R.length (cst R T c)) (c.length : Int) (i : Int) R (unitsOf T) (payF T)) ((stepF R T c m i).getD [])
  | 0, i, hi => by
    have hl := h.len
    refine Ev.step (f := fun _ => some []) (fun k => ?_) (Ev.now _)
    simp only [jam_game_step.l0]
    rw [if_neg (by omega)]
  | m + 1, i, hi => by
    have hl := h.len
    have h5 := g.r5
    have ih := step_l0 m (i + 1) (by omega)
    have hin := step_l1 g h (unitsOf T) rfl (mapR R.length (cst R T c)) i (by omega) ((stepF R T c (m + 1) i).getD []) (moveF R T c i) (fun e => by simp only [stepF]; rw [e]; exact ih) (fun q e => by simp only [stepF]; rw [e]; rfl)
      (rd_L12 R (i : Int)).length 0 c none (cst R T c i) (by omega) rfl (fun _ => rfl) rfl
    refine Ev.step (fun k => ?_) hin
    simp only [jam_game_step.l0]
    unfold slices_Clone.f
    rw [if_pos (by omega), if_pos (by omega), Option.bind_some, if_pos (by omega), mapR_len, if_pos (by omega), if_pos (by omega), mapR_rd (by omega)]
    rfl
theorem step_ev : Ev (fun k => jam_game_step.f k R (unitsOf T) (payF T) c) ((stepF R T c R.length 0).getD []) := by
  unfold jam_game_step.f
  exact Ev.bind (costs_ev g h) (step_l0 g h R.length 0 (by omega))
end
end Go.Proofs.Ytjgbdicbdlollaa.B
namespace Go.Proofs.Ytjgbdicbdlollaa.B
open Go.RowKit Go.Sort Go.Proofs.YtjgbdicbdlollaaW.PrintWords Go.Proofs.YtjgbdicbdlollaaW.PrintLast Go.Proofs.YtjgbdicbdlollaaW.PrintMore
set_option linter.unusedVariables false
set_option linter.unusedSimpArgs false
set_option linter.unusedSectionVars false
abbrev stp (R T : List (List Int)) (c : List Int) : Option (List Int) := stepF R T c R.length 0
end Go.Proofs.Ytjgbdicbdlollaa.B
namespace Go.Proofs.Ytjgbdicbdlollaa.B
open Go.RowKit Go.Sort Go.Proofs.YtjgbdicbdlollaaW.PrintWords Go.Proofs.YtjgbdicbdlollaaW.PrintLast Go.Proofs.YtjgbdicbdlollaaW.PrintMore
set_option linter.unusedVariables false
set_option linter.unusedSimpArgs false
set_option linter.unusedSectionVars false
theorem visS_ev {R T : List (List Int)} {ch : List Int} (g : GameOk R T) (h : ChOk R ch) (s : List (List Int)) (hs : s.length < 1000000) : Ev (fun k => visS k R T s ch) (s ++ if stp R T ch = none then [ch] else []) := by
  have h5 := g.r5
  have hl := h.len
  have a1 := step_ev g h
  unfold visS
  cases hc : stepF R T ch R.length 0 with
  | none =>
    rw [hc] at a1
    rw [if_pos hc]
    replace a1 : Ev (fun k => jam_game_step.f k R (unitsOf T) (payF T) ch) [] := a1
    refine Ev.bind a1 (Ev.congr (f := fun _ => some (s ++ [ch])) (fun k => ?_) (Ev.now _))
    rw [if_pos rfl]
    unfold slices_Clone.f
    rw [if_pos (by omega), Option.bind_some, if_pos hs]
  | some c' =>
    rw [hc] at a1
    have hc' := stepF_some g h R.length 0 (by omega) c' hc
    rw [if_neg (show ¬ stp R T ch = none by show ¬ stepF R T ch R.length 0 = none; rw [hc]; simp), List.append_nil]
    exact Ev.bind a1 (Ev.congr (fun k => if_neg (chok_ne g hc'.1)) (Ev.now _))
structure PostS (R T : List (List Int)) (i f : Nat) (ch : List Int) (ch' : List Int) (add : List (List Int)) : Prop where
  len : ch'.length = R.length
  agr : Agree i ch' ch
  mem : ∀ x, x ∈ add ↔ (ChOk R x ∧ Agree i x ch ∧ stp R T x = none)
  few : add.length ≤ 5 ^ f
theorem onLoopS_ev {R T : List (List Int)} (g : GameOk R T) (f i : Nat) (hi : i < R.length) (ch0 : List Int)
    (IH : ∀ (ch : List Int) (s : List (List Int)), ch.length = R.length → (∀ j : Nat, j < i + 1 → 0 ≤ rd ch (j : Int) ∧ rd ch (j : Int) < ((rd_L12 R (j : Int)).length : Int)) → s.length + 5 ^ f < 1000000 → ∃ ch' add, Ev (fun k => onF R (visS k R T) f (i + 1) ch s) (ch', s ++ add) ∧ PostS R T (i + 1) f ch ch' add)
    (h0 : ∀ j : Nat, j < i → 0 ≤ rd ch0 (j : Int) ∧ rd ch0 (j : Int) < ((rd_L12 R (j : Int)).length : Int)) :
    ∀ (m r : Nat) (ch : List Int) (s : List (List Int)), r + m = (rd_L12 R (i : Int)).length → ch.length = R.length → Agree i ch ch0 → s.length + m * 5 ^ f < 1000000 →
      ∃ ch' add, Ev (fun k => onLoop (fun c t => onF R (visS k R T) f (i + 1) c t) i m r ch s) (ch', s ++ add) ∧ ch'.length = R.length ∧ Agree i ch' ch0 ∧ (∀ x, x ∈ add ↔ (ChOk R x ∧ Agree i x ch0 ∧ (r : Int) ≤ rd x (i : Int) ∧ stp R T x = none)) ∧ add.length ≤ m * 5 ^ f
  | 0, r, ch, s, hr, hl, ha, hs => by
    refine ⟨ch, [], by rw [List.append_nil]; exact Ev.now (ch, s), hl, ha, fun x => ⟨fun h => by simp at h, fun h => ?_⟩, by simp⟩
    have := (h.1.ok i hi).2
    omega
  | m + 1, r, ch, s, hr, hl, ha, hs => by
    rw [Nat.succ_mul] at hs
    have hset : ∀ j : Nat, j < i → rd (ch.set i (r : Int)) (j : Int) = rd ch0 (j : Int) := fun j hj => by
      rw [rd_set_ne ch i j _ (by omega)]; exact ha j hj
    have hseti : rd (ch.set i (r : Int)) (i : Int) = r := rd_set_eq ch i _ (by omega)
    obtain ⟨ch1, add1, he, hp⟩ := IH (ch.set i (r : Int)) s (by simpa using hl) (fun j hj => by
      by_cases e : j = i
      · subst e; rw [hseti]; omega
      · rw [hset j (by omega)]; exact h0 j (by omega)) (by omega)
    have hf := hp.few
    obtain ⟨ch2, add2, he2, l2, a2, m2, f2⟩ := onLoopS_ev g f i hi ch0 IH h0 m (r + 1) ch1 (s ++ add1) (by omega) hp.len (fun j hj => (hp.agr j (by omega)).trans (hset j hj)) (by rw [List.length_append]; omega)
    refine ⟨ch2, add1 ++ add2, ?_, l2, a2, fun x => ?_, by rw [List.length_append, Nat.succ_mul]; omega⟩
    · rw [← List.append_assoc]
      exact Ev.bind he he2
    · rw [List.mem_append, hp.mem, m2]
      constructor
      · rintro (⟨h1, h2, h3⟩ | ⟨h1, h2, h3, h4⟩)
        · exact ⟨h1, fun j hj => (h2 j (by omega)).trans (hset j hj), by rw [h2 i (by omega), hseti]; omega, h3⟩
        · exact ⟨h1, h2, by omega, h4⟩
      · rintro ⟨h1, h2, h3, h4⟩
        by_cases e : rd x (i : Int) = r
        · refine Or.inl ⟨h1, fun j hj => ?_, h4⟩
          by_cases e2 : j = i
          · subst e2; rw [hseti]; exact e
          · rw [hset j (by omega)]; exact h2 j (by omega)
        · exact Or.inr ⟨h1, h2, by omega, h4⟩
theorem onFS_ev {R T : List (List Int)} (g : GameOk R T) : ∀ (f i : Nat), i + f = R.length → ∀ (ch : List Int) (s : List (List Int)), ch.length = R.length → (∀ j : Nat, j < i → 0 ≤ rd ch (j : Int) ∧ rd ch (j : Int) < ((rd_L12 R (j : Int)).length : Int)) → s.length + 5 ^ f < 1000000 →
    ∃ ch' add, Ev (fun k => onF R (visS k R T) f i ch s) (ch', s ++ add) ∧ PostS R T i f ch ch' add
  | 0, i, hi, ch, s, hl, h0, hs => by
    have hch : ChOk R ch := ⟨hl, fun j hj => h0 j (by omega)⟩
    have hvis := visS_ev g hch s (by omega)
    refine ⟨ch, _, Ev.bind hvis (Ev.now _), ⟨hl, fun _ _ => rfl, fun x => ?_, by split <;> simp⟩⟩
    by_cases hc : stp R T ch = none
    · rw [if_pos hc]
      constructor
      · intro h
        have : x = ch := by simpa using h
        subst this
        exact ⟨hch, fun _ _ => rfl, hc⟩
      · rintro ⟨h1, h2, h3⟩
        have : x = ch := agree_all (n := R.length) h1.len hl (fun j hj => h2 j (by omega))
        simp [this]
    · rw [if_neg hc]
      constructor
      · intro h; simp at h
      · rintro ⟨h1, h2, h3⟩
        have : x = ch := agree_all (n := R.length) h1.len hl (fun j hj => h2 j (by omega))
        subst this
        exact absurd h3 hc
  | f + 1, i, hi, ch, s, hl, h0, hs => by
    have hrow := g.row _ (rdL_mem R i (by omega))
    have hpw : (rd_L12 R (i : Int)).length * 5 ^ f ≤ 5 ^ (f + 1) := by rw [Nat.pow_succ, Nat.mul_comm (5 ^ f)]; exact Nat.mul_le_mul_right _ hrow.2.1
    obtain ⟨ch', add, he, l2, a2, m2, f2⟩ := onLoopS_ev g f i (by omega) ch (fun c t h1 h2 h3 => onFS_ev g f (i + 1) (by omega) c t h1 h2 h3) h0 (rd_L12 R (i : Int)).length 0 ch s (by omega) hl (fun _ _ => rfl) (by omega)
    refine ⟨ch', add, he, l2, a2, fun x => ?_, by omega⟩
    rw [m2]
    exact ⟨fun h => ⟨h.1, h.2.1, h.2.2.2⟩, fun h => ⟨h.1, h.2.1, (h.1.ok i (by omega)).1, h.2.2⟩⟩
/-- Settled answers with the settled choices. -/
theorem settled_ev {R T : List (List Int)} (g : GameOk R T) : ∃ L : List (List Int), L.length < 1000000 ∧ Ev (fun k => jam_Settled.f k R T) (L, 0) ∧ ∀ x, x ∈ L ↔ (ChOk R x ∧ stp R T x = none) := by
  have h5 := g.r5
  have hp : 5 ^ R.length ≤ 5 ^ 5 := Nat.pow_le_pow_right (by omega) h5
  obtain ⟨ch', add, he, hp2⟩ := onFS_ev g R.length 0 (by omega) (List.replicate R.length 0) [] (by simp) (fun j hj => absurd hj (by omega)) (by simp; omega)
  have hf := hp2.few
  refine ⟨add, by omega, ?_, fun x => ?_⟩
  · unfold jam_Settled.f
    rw [List.nil_append] at he
    exact Ev.congr (fun k => if_pos ((readOk_iff R T).2 g)) (Ev.bind he (Ev.now _))
  · rw [hp2.mem]
    exact ⟨fun h => ⟨h.1, h.2.2⟩, fun h => ⟨h.1, fun j hj => absurd hj (by omega), h.2⟩⟩
theorem settle_cnt {R T : List (List Int)} (g : GameOk R T) : ∀ (N : Nat) (now : List Int) (n : Nat), ChOk R now → pot R T now ≤ N → n + N < 900000 →
    ∃ (last : List Int) (m : Nat), ChOk R last ∧ stp R T last = none ∧ pot R T last ≤ pot R T now ∧ n ≤ m ∧ (m = n ↔ stp R T now = none) ∧ m < 1000000 ∧ (∃ K, ∀ k cc, K ≤ k → K ≤ cc → settleL k R T cc now (n : Int) = some (last, (m : Int)))
  | N, now, n, h, hp, hN => by
    obtain ⟨K, hK⟩ := step_ev g h
    cases hs : stepF R T now R.length 0 with
    | none =>
      rw [hs] at hK
      replace hK : ∀ k, K ≤ k → jam_game_step.f k R (unitsOf T) (payF T) now = some [] := hK
      refine ⟨now, n, h, hs, Int.le_refl _, Nat.le_refl _, ⟨fun _ => hs, fun _ => rfl⟩, by omega, ⟨K + 1, fun k cc h1 h2 => ?_⟩⟩
      obtain ⟨c2, rfl⟩ : ∃ c2, cc = c2 + 1 := ⟨cc - 1, by omega⟩
      rw [settleL, hK k (by omega), Option.bind_some, if_pos rfl]
    | some c' =>
      rw [hs] at hK
      replace hK : ∀ k, K ≤ k → jam_game_step.f k R (unitsOf T) (payF T) now = some c' := hK
      have hc' := stepF_some g h R.length 0 (by omega) c' hs
      have hb := pot_b g hc'.1
      match N, hp, hN with
      | 0, hp, hN => exact absurd hc'.2 (by omega)
      | N + 1, hp, hN =>
        obtain ⟨last, m, h1, h2, h3, h4, h5, h6, ⟨K2, hK2⟩⟩ := settle_cnt g N c' (n + 1) hc'.1 (by have := hc'.2; omega) (by omega)
        refine ⟨last, m, h1, h2, by have := hc'.2; omega, by omega, ⟨fun e => by omega, fun e => ?_⟩, h6, ⟨K + K2 + 1, fun k cc k1 k2 => ?_⟩⟩
        · have e2 : stepF R T now R.length 0 = none := e
          rw [hs] at e2; exact absurd e2 (by simp)
        · obtain ⟨c2, rfl⟩ : ∃ c2, cc = c2 + 1 := ⟨cc - 1, by omega⟩
          rw [settleL, hK k (by omega), Option.bind_some, if_neg (chok_ne g hc'.1), wrapN n (by omega)]
          exact hK2 k c2 (by omega) (by omega)
theorem jsettle_ev {R T : List (List Int)} {c : List Int} (g : GameOk R T) (h : ChOk R c) : ∃ (last : List Int) (m : Nat), ChOk R last ∧ stp R T last = none ∧ pot R T last ≤ pot R T c ∧ (m = 0 ↔ stp R T c = none) ∧ m < 1000000 ∧ Ev (fun k => jam_Settle.f k R T c) (last, (m : Int), 0) := by
  have hb := pot_b g h
  have hl := h.len
  have h5 := g.r5
  obtain ⟨last, m, h1, h2, h3, h4, h5', h6, ⟨K, hK⟩⟩ := settle_cnt g 40000 c 0 h (by omega) (by omega)
  refine ⟨last, m, h1, h2, h3, h5', h6, ?_⟩
  unfold jam_Settle.f
  refine Ev.congr (fun k => if_pos ((playOk_iff R T c).2 ⟨g, h⟩)) ?_
  refine Ev.congr (f := fun k => (settleL k R T k c 0).bind fun r => some (r.1, r.2, 0)) (fun k => ?_) (Ev.bind (a := (last, (m : Int))) ⟨K, fun k hk => hK k k hk hk⟩ (Ev.now _))
  unfold slices_Clone.f
  rw [if_pos (by omega), Option.bind_some]
theorem jstep_ev {R T : List (List Int)} {c : List Int} (g : GameOk R T) (h : ChOk R c) : Ev (fun k => jam_Step.f k R T c) (match stp R T c with | some c' => (c', 0) | none => ([], 10)) := by
  have a1 := step_ev g h
  unfold jam_Step.f
  refine Ev.congr (fun k => if_pos ((playOk_iff R T c).2 ⟨g, h⟩)) ?_
  cases hs : stepF R T c R.length 0 with
  | none =>
    rw [hs] at a1
    exact Ev.bind a1 (Ev.congr (fun k => if_pos rfl) (by simp only [stp, hs]; exact Ev.now _))
  | some c' =>
    rw [hs] at a1
    have hc' := stepF_some g h R.length 0 (by omega) c' hs
    exact Ev.bind a1 (Ev.congr (fun k => if_neg (chok_ne g hc'.1)) (by simp only [stp, hs]; exact Ev.now _))
theorem same_gen (x y : List Int) (hx : x.length < 1000000) (hl : x.length = y.length) : ∀ (m i : Nat), i + m = x.length → ∃ b, Ev (fun k => trishawlaw02_same.l0 k x y (i : Int)) b ∧ (b = true ↔ ∀ q : Nat, i ≤ q → q < x.length → rd x (q : Int) = rd y (q : Int))
  | 0, i, h => by
    refine ⟨true, Ev.step (f := fun _ => some true) (fun k => ?_) (Ev.now _), ⟨fun _ q h1 h2 => by omega, fun _ => rfl⟩⟩
    simp only [trishawlaw02_same.l0]
    rw [if_neg (by omega)]
  | m + 1, i, h => by
    by_cases he : rd x (i : Int) = rd y (i : Int)
    · obtain ⟨b, e1, e2⟩ := same_gen x y hx hl m (i + 1) (by omega)
      refine ⟨b, Ev.step (fun k => ?_) e1, e2.trans ⟨fun h q h1 h2 => ?_, fun h q h1 h2 => h q (by omega) h2⟩⟩
      · simp only [trishawlaw02_same.l0]
        rw [if_pos (by omega), if_pos (by omega), if_pos (by omega), if_pos he, wrapN i (by omega)]
      · by_cases e : q = i
        · subst e; exact he
        · exact h q (by omega) h2
    · refine ⟨false, Ev.step (f := fun _ => some false) (fun k => ?_) (Ev.now _), ⟨fun h => absurd h (by simp), fun h => absurd (h i (Nat.le_refl _) (by omega)) he⟩⟩
      simp only [trishawlaw02_same.l0]
      rw [if_pos (by omega), if_pos (by omega), if_pos (by omega), if_neg he]
theorem same_dec (x y : List Int) (hx : x.length < 1000000) (hl : x.length = y.length) : Ev (fun k => trishawlaw02_same.f k x y) (decide (x = y)) := by
  obtain ⟨b, e1, e2⟩ := same_gen x y hx hl x.length 0 (by omega)
  have hb : b = decide (x = y) := by
    rw [Bool.eq_iff_iff, e2, decide_eq_true_eq]
    exact ⟨fun h => agree_all (n := x.length) rfl hl.symm (fun j hj => h j (Nat.zero_le _) hj), fun h q _ _ => by rw [h]⟩
  rw [← hb]
  refine Ev.congr (fun k => ?_) e1
  unfold trishawlaw02_same.f
  rw [if_pos (by omega)]; rfl
end Go.Proofs.Ytjgbdicbdlollaa.B
namespace Go.Proofs.Ytjgbdicbdlollaa.B
open Go.RowKit Go.Sort Go.Proofs.YtjgbdicbdlollaaW.PrintWords Go.Proofs.YtjgbdicbdlollaaW.PrintLast Go.Proofs.YtjgbdicbdlollaaW.PrintMore
set_option linter.unusedVariables false
set_option linter.unusedSimpArgs false
section
variable {R T : List (List Int)} (g : GameOk R T) {L : List (List Int)} (hL : L.length < 1000000) (mL : ∀ x, x ∈ L ↔ (ChOk R x ∧ stp R T x = none))
include g hL mL
theorem calm_l1 (n : Int) (here : Bool) (hh : (here == (n == 0)) = true) (least : Int) : ∀ (m i : Nat) (calm : Bool), i + m = L.length → (calm = true ∨ ∃ q : Nat, i ≤ q ∧ q < L.length ∧ pot R T (rd_L12 L (q : Int)) = least) →
    Ev (fun k => trishawlaw02_JamCalm.l1 k L n true here least calm (i : Int) R T) true
  | 0, i, calm, h, hc => by
    have hc2 : calm = true := by
      rcases hc with h1 | ⟨q, h1, h2, _⟩
      · exact h1
      · omega
    subst hc2
    refine Ev.step (fun k => ?_) alive_ev2
    simp only [trishawlaw02_JamCalm.l1]
    rw [if_neg (by omega), if_pos trivial, if_pos hh, if_pos trivial]
  | m + 1, i, calm, h, hc => by
    have hx := (mL _).1 (rdL_mem L i (by omega))
    have hp := jpot_ev g hx.1
    cases calm with
    | true =>
      have ih := calm_l1 n here hh least m (i + 1) true (by omega) (Or.inl rfl)
      refine Ev.step (fun k => by simp only [trishawlaw02_JamCalm.l1]; rw [if_pos (by omega), if_pos (by omega)]) (Ev.bind hp (Ev.congr (fun k => ?_) ih))
      rw [if_pos trivial, wrapN i (by omega)]
    | false =>
      have ih := calm_l1 n here hh least m (i + 1) (pot R T (rd_L12 L (i : Int)) == least) (by omega) (by
        rcases hc with h1 | ⟨q, h1, h2, h3⟩
        · exact absurd h1 (by simp)
        · by_cases e : q = i
          · subst e; exact Or.inl (beq_iff_eq.2 h3)
          · exact Or.inr ⟨q, by omega, h2, h3⟩)
      refine Ev.step (fun k => by simp only [trishawlaw02_JamCalm.l1]; rw [if_pos (by omega), if_pos (by omega)]) (Ev.bind hp (Ev.congr (fun k => ?_) ih))
      rw [if_neg (by simp), wrapN i (by omega)]
theorem calm_l0 {c last : List Int} (h : ChOk R c) (hl : ChOk R last) (hs : stp R T last = none) (hpl : pot R T last ≤ pot R T c) (n : Nat) (hn : n = 0 ↔ stp R T c = none) : ∀ (m i : Nat) (inn here : Bool) (least : Int), i + m = L.length →
    (inn = true ∨ ∃ q : Nat, i ≤ q ∧ q < L.length ∧ rd_L12 L (q : Int) = last) → ((here = true ∨ ∃ q : Nat, i ≤ q ∧ q < L.length ∧ rd_L12 L (q : Int) = c) ↔ stp R T c = none) →
    least ≤ pot R T c → (∀ q : Nat, q < i → least ≤ pot R T (rd_L12 L (q : Int))) → (least = pot R T c ∨ ∃ q : Nat, q < i ∧ pot R T (rd_L12 L (q : Int)) = least) →
    Ev (fun k => trishawlaw02_JamCalm.l0 k c L last (n : Int) inn here least (i : Int) R T) true
  | 0, i, inn, here, least, hi, h1, h2, h3, h4, h5 => by
    have hin : inn = true := by
      rcases h1 with h1 | ⟨q, a, b, _⟩
      · exact h1
      · omega
    subst hin
    have hhere : (here == ((n : Int) == 0)) = true := by
      have e : here = true ↔ stp R T c = none := by
        rw [← h2]
        exact ⟨Or.inl, fun h => by rcases h with h | ⟨q, a, b, _⟩; exact h; omega⟩
      rw [beq_iff_eq, Bool.eq_iff_iff, e, ← hn, beq_iff_eq]
      omega
    obtain ⟨ql, hql, hql2⟩ := List.mem_iff_getElem.1 ((mL last).2 ⟨hl, hs⟩)
    have eql : rd_L12 L (ql : Int) = last := by rw [rdL L ql hql]; exact hql2
    have hex : ∃ q : Nat, 0 ≤ q ∧ q < L.length ∧ pot R T (rd_L12 L (q : Int)) = least := by
      rcases h5 with h5 | ⟨q, a, b⟩
      · have := h4 ql (by omega)
        rw [eql] at this
        exact ⟨ql, Nat.zero_le _, hql, by rw [eql]; omega⟩
      · exact ⟨q, Nat.zero_le _, by omega, b⟩
    have hc := calm_l1 g hL mL (n : Int) here hhere least L.length 0 false (by omega) (Or.inr hex)
    refine Ev.step (fun k => ?_) hc
    simp only [trishawlaw02_JamCalm.l0]
    rw [if_neg (by omega)]
    rfl
  | m + 1, i, inn, here, least, hi, h1, h2, h3, h4, h5 => by
    have hx := (mL _).1 (rdL_mem L i (by omega))
    have hp := jpot_ev g hx.1
    have ht := jstep_ev g hx.1
    rw [hx.2] at ht
    simp only at ht
    have r5 := g.r5
    have hxl := hx.1.len
    have key : ∀ inn' here' : Bool, (inn' = true ↔ (inn = true ∨ rd_L12 L (i : Int) = last)) → (here' = true ↔ (here = true ∨ rd_L12 L (i : Int) = c)) → Ev (fun k => trishawlaw02_JamCalm.j5 k c L last (n : Int) inn' here' least (i : Int) R T) true := by
      intro inn' here' k1 k2
      have ih := calm_l0 h hl hs hpl n hn m (i + 1) inn' here' (mn least (pot R T (rd_L12 L (i : Int)))) (by omega) (by
          rcases h1 with h1 | ⟨q, a, b, e⟩
          · exact Or.inl (k1.2 (Or.inl h1))
          · by_cases e2 : q = i
            · subst e2; exact Or.inl (k1.2 (Or.inr e))
            · exact Or.inr ⟨q, by omega, b, e⟩) (by
          rw [← h2, k2]
          constructor
          · rintro ((a | a) | ⟨q, a, b, e⟩)
            · exact Or.inl a
            · exact Or.inr ⟨i, Nat.le_refl _, by omega, a⟩
            · exact Or.inr ⟨q, by omega, b, e⟩
          · rintro (a | ⟨q, a, b, e⟩)
            · exact Or.inl (Or.inl a)
            · by_cases e2 : q = i
              · subst e2; exact Or.inl (Or.inr e)
              · exact Or.inr ⟨q, by omega, b, e⟩) (by unfold mn; split <;> omega) (fun q hq => by
          by_cases e2 : q = i
          · subst e2; unfold mn; split <;> omega
          · have := h4 q (by omega); unfold mn; split <;> omega) (by
          unfold mn
          split
          · exact Or.inr ⟨i, by omega, rfl⟩
          · rcases h5 with h5 | ⟨q, a, b⟩
            · exact Or.inl h5
            · exact Or.inr ⟨q, by omega, b⟩)
      refine Ev.step (fun k => by simp only [trishawlaw02_JamCalm.j5]; rw [if_pos (by omega), if_pos (by omega)]) (Ev.bind hp (Ev.bind ht (Ev.congr (fun k => ?_) ih)))
      rw [if_pos rfl, if_pos rfl, wrapN i (by omega)]
    have key4 : ∀ inn' : Bool, (inn' = true ↔ (inn = true ∨ rd_L12 L (i : Int) = last)) → Ev (fun k => trishawlaw02_JamCalm.j4 k c L last (n : Int) inn' here least (i : Int) R T) true := by
      intro inn' k1
      cases hb : here with
      | true =>
        refine Ev.step (fun k => ?_) (key inn' true k1 (by rw [hb]; simp))
        simp only [trishawlaw02_JamCalm.j4]
        rw [if_pos trivial]
      | false =>
        have hd := same_dec (rd_L12 L (i : Int)) c (by omega) (by rw [hxl, h.len])
        refine Ev.step (fun k => by simp only [trishawlaw02_JamCalm.j4]; rw [if_neg (by simp), if_pos (by omega), if_pos (by omega)]) (Ev.bind hd (key inn' (decide (rd_L12 L (i : Int) = c)) k1 (by rw [hb, decide_eq_true_eq]; simp)))
    cases hb : inn with
    | true =>
      refine Ev.step (fun k => ?_) (key4 true (by rw [hb]; simp))
      simp only [trishawlaw02_JamCalm.l0]
      rw [if_pos (by omega), if_pos trivial]
    | false =>
      have hd := same_dec (rd_L12 L (i : Int)) last (by omega) (by rw [hxl, hl.len])
      refine Ev.step (fun k => by simp only [trishawlaw02_JamCalm.l0]; rw [if_pos (by omega), if_neg (by simp), if_pos (by omega)]) (Ev.bind hd (key4 (decide (rd_L12 L (i : Int) = last)) (by rw [hb, decide_eq_true_eq]; simp)))
end
theorem calm_j1 {R T : List (List Int)} (g : GameOk R T) {c : List Int} (h : ChOk R c) : Ev (fun k => trishawlaw02_JamCalm.j0 k c false R T) true := by
  obtain ⟨L, hL, eL, mL⟩ := settled_ev g
  obtain ⟨last, n, h1, h2, h3, h4, h6, eS⟩ := jsettle_ev g h
  have eT := jstep_ev g h
  have hpc := jpot_ev g h
  have hex : ∃ q : Nat, 0 ≤ q ∧ q < L.length ∧ rd_L12 L (q : Int) = last := by
    obtain ⟨ql, hql, hql2⟩ := List.mem_iff_getElem.1 ((mL last).2 ⟨h1, h2⟩)
    exact ⟨ql, Nat.zero_le _, hql, by rw [rdL L ql hql]; exact hql2⟩
  have hne : ¬ (L.length : Int) = 0 := by obtain ⟨q, _, b, _⟩ := hex; omega
  have hl0 := calm_l0 g hL mL h h1 h2 h3 n h4 L.length 0 false false (pot R T c) (by omega) (Or.inr hex) (by
    constructor
    · rintro (a | ⟨q, a, b, e⟩)
      · exact absurd a (by simp)
      · rw [← e]; exact ((mL _).1 (rdL_mem L q b)).2
    · intro hs
      obtain ⟨q, hq, hq2⟩ := List.mem_iff_getElem.1 ((mL c).2 ⟨h, hs⟩)
      exact Or.inr ⟨q, Nat.zero_le _, hq, by rw [rdL L q hq]; exact hq2⟩) (Int.le_refl _) (fun q hq => absurd hq (by omega)) (Or.inl rfl)
  have hj2 : Ev (fun k => trishawlaw02_JamCalm.j2 k c L last (n : Int) (pot R T c) R T) true := Ev.step (fun k => by simp only [trishawlaw02_JamCalm.j2]; rfl) hl0
  cases hs : stp R T c with
  | none =>
    rw [hs] at eT
    simp only at eT
    have hn0 : n = 0 := h4.2 hs
    have hj1 : Ev (fun k => trishawlaw02_JamCalm.j1 k c L last (n : Int) [] 10 false R T) true := by
      refine Ev.step (fun k => by simp only [trishawlaw02_JamCalm.j1]; rw [if_neg (by simp)]) (Ev.bind hpc (Ev.congr (fun k => ?_) hj2))
      rw [if_neg (by decide)]
    refine Ev.step (fun k => by simp only [trishawlaw02_JamCalm.j0]; rw [if_neg (by simp)]) (Ev.bind eL (Ev.bind eS (Ev.bind eT (Ev.congr (fun k => ?_) hj1))))
    rw [if_pos rfl, if_pos rfl, if_neg hne, if_neg (by show ¬ (n : Int) < 0; omega), if_neg (by simp [hn0]), if_neg (by decide)]
    rfl
  | some c' =>
    rw [hs] at eT
    simp only at eT
    have hc' := stepF_some g h R.length 0 (by omega) c' hs
    have hn0 : n ≠ 0 := fun e => by have := h4.1 e; rw [hs] at this; exact absurd this (by simp)
    have hj1 : Ev (fun k => trishawlaw02_JamCalm.j1 k c L last (n : Int) c' 0 false R T) true := by
      refine Ev.step (fun k => by simp only [trishawlaw02_JamCalm.j1]; rw [if_neg (by simp)]) (Ev.bind hpc ?_)
      refine Ev.congr (fun k => if_pos trivial) (Ev.bind (jpot_ev g hc'.1) (Ev.congr (fun k => ?_) hj2))
      rw [if_pos rfl, if_pos rfl, if_neg (by have := hc'.2; show ¬ pot R T c' ≥ pot R T c; omega)]
    refine Ev.step (fun k => by simp only [trishawlaw02_JamCalm.j0]; rw [if_neg (by simp)]) (Ev.bind eL (Ev.bind eS (Ev.bind eT (Ev.congr (fun k => ?_) hj1))))
    rw [if_pos rfl, if_pos rfl, if_neg hne, if_neg (by show ¬ (n : Int) < 0; omega), if_neg (by simp [hn0]), if_pos rfl]
theorem calm_ev (R T : List (List Int)) (c : List Int) : Ev (fun k => trishawlaw02_JamCalm.f k R T c) true := by
  unfold trishawlaw02_JamCalm.f
  have hj : Ev (fun k => trishawlaw02_JamCalm.j0 k c true R T) true := Ev.step (fun k => by simp only [trishawlaw02_JamCalm.j0]; rw [if_pos trivial]) alive_ev2
  obtain ⟨b1, e1, i1⟩ := few_ev R T c
  refine Ev.bind e1 ?_
  cases b1 with
  | false => exact Ev.congr (fun k => if_neg (by simp)) hj
  | true =>
    refine Ev.congr (fun k => if_pos rfl) ?_
    have hf := i1.1 rfl
    obtain ⟨b2, e2, i2⟩ := isGame_ev R T
    refine Ev.bind e2 ?_
    cases b2 with
    | false => exact Ev.congr (fun k => if_neg (by simp)) hj
    | true =>
      refine Ev.congr (fun k => if_pos rfl) ?_
      obtain ⟨b3, e3, i3⟩ := isChoice_ev R T c hf.r
      refine Ev.bind e3 ?_
      cases b3 with
      | false => exact hj
      | true => exact calm_j1 (i2.1 rfl) (i3.1 rfl)
end Go.Proofs.Ytjgbdicbdlollaa.B
namespace Go.Proofs.Ytjgbdicbdlollaa.Pure
open Go.RowKit Go.Proofs.Ytjgbdicbdlollaa.B Go.Proofs.YtjgbdicbdlollaaW.PrintWords Go.Proofs.YtjgbdicbdlollaaW.PrintLast Go.Proofs.YtjgbdicbdlollaaW.PrintMore
theorem JamCalm : trishawlaw02_JamCalm.Pure := fun l0_0 l0_1 l1 _ _ _ _ => (calm_ev l0_0 l0_1 l1).rounds
end Go.Proofs.Ytjgbdicbdlollaa.Pure
