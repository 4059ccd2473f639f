/- Texts behind the row of JamAffine, part 5. -/
import Derived.Below
import Derived.Deep.Draws
import Derived.Deep.AppendLies
import Derived.Maps.AppendAt
import Derived.OwnWalk
import Derived.Laws.BytesArg
import Derived.Laws.MakeOwn
import Derived.Laws.OwnMore
import Derived.Deep.OwnRows
import Derived.Tactics
import Derived.Lib.ConvBytes
import Derived.Laws.Slices
import Derived.WalkKit
import Derived.KernelRfl
import Derived.RowKit3
import Derived.Deep.LoopGhost
import Derived.Deep.QuietTactic
import Derived.BigQuiet
import Derived.WideLaws
import Derived.Deep.DeepCutAuto
import Derived.Deep.CutBlock
import Derived.Deep.RegionHeld3
import Derived.Laws.Rows
import Derived.Lib.AppendStr
import Derived.ArgAppend
import Derived.Laws.IdiomCopy
import Derived.RowKit
import Derived.OrdersHeld
import Derived.Laws.BitsLemmas
import Derived.Laws.StructEq
import Derived.Test.YtjgbdicbdlollaaProg
import Derived.WalkSpells
import Derived.MapKept
import Derived.Maps.RangeWalk
import Derived.Shelf.SlSortCmp.SmallK
import Derived.Ground.SlsfProg
import Derived.Deep.Slices
import Derived.Deep.Fields
import Derived.ChangeSame
import Derived.ChangeSlices
import Derived.OpenShut
import Derived.Sort.LotA
import Derived.Test.YtjgbdicbdlollaaCN1
import Derived.Test.YtjgbdicbdlollaaCN2
import Derived.Test.YtjgbdicbdlollaaCN3
import Derived.Test.YtjgbdicbdlollaaCN4
namespace Go.Proofs.Ytjgbdicbdlollaa.B
open Go.RowKit Go.Proofs.YtjgbdicbdlollaaW.PrintWords Go.Proofs.YtjgbdicbdlollaaW.PrintLast Go.Proofs.YtjgbdicbdlollaaW.PrintMore
attribute [local go_sem] max2_int min2_int max_two min_two max_three min_three max_four min_four   -- for this text's walks alone
set_option linter.unusedVariables false
set_option linter.unusedSimpArgs false
mutual
def trishawlaw02_JamAffine.l0 : Nat → List (List Int) → List (S57) → Int → List (List Int) → List (List Int) → Option (Bool)
  | 0, _, _, _, _, _ => none
  | k + 1, x0, x1, x6, x103000, x103001 => if x6 < (x1.length : Int) then (trishawlaw02_JamAffine.l1 k x0 x1 x6 ([] : List Int) 1 x103000 x103001) else ((trishawlaw02_few.f k x103000 x103001 ([] : List Int)).bind fun t114 => (if t114 = true then ((trishawref02_IsGame.f k x103000 x103001).bind fun t115 => (trishawlaw02_JamAffine.j2 k (!t115) x103000 x103001)) else (trishawlaw02_JamAffine.j2 k true x103000 x103001)))
def trishawlaw02_JamAffine.l1 : Nat → List (List Int) → List (S57) → Int → List Int → Int → List (List Int) → List (List Int) → Option (Bool)
  | 0, _, _, _, _, _, _, _ => none
  | k + 1, x0, x1, x6, x7, x8, x103000, x103001 => if x8 ≤ (x0.length : Int) then (if x8 ≤ 20 then (if 0 ≤ x6 then (if x6 < (x1.length : Int) then (if x7.length < 17592186044416 then (trishawlaw02_JamAffine.l1 k x0 x1 x6 (x7 ++ [wrap64 ((wrap64 (Int.tdiv (wrap64 ((rd_T57 x1 x6).f0)) 2)) + (wrap64 (x8 * (wrap64 (Int.tdiv (wrap64 ((rd_T57 x1 x6).f1)) 2)))))]) (wrap64 (x8 + 1)) x103000 x103001) else (none)) else (none)) else (none)) else (if x103001.length < 5864062014805 then (trishawlaw02_JamAffine.l0 k x0 x1 (wrap64 (x6 + 1)) x103000 (x103001 ++ [x7])) else (none))) else (if x103001.length < 5864062014805 then (trishawlaw02_JamAffine.l0 k x0 x1 (wrap64 (x6 + 1)) x103000 (x103001 ++ [x7])) else (none))
def trishawlaw02_JamAffine.j2 : Nat → Bool → List (List Int) → List (List Int) → Option (Bool)
  | 0, _, _, _ => none
  | k + 1, x73, x103000, x103001 => if x73 = true then ((trishawlaw02_alive.f k).bind fun t116 => (some t116)) else ((jam_SettledS.f k x103000 x103001).bind fun bt117 => ((jam_Best.f k x103000 x103001).bind fun bt121 => (if bt117.2 = 0 then (if bt121.2.2 = 0 then (trishawlaw02_JamAffine.j3 k bt117.1 bt121.2.1 (decide (bt121.2.1 < 0)) x103000 x103001) else (trishawlaw02_JamAffine.j3 k bt117.1 bt121.2.1 true x103000 x103001)) else (trishawlaw02_JamAffine.j3 k bt117.1 bt121.2.1 true x103000 x103001))))
def trishawlaw02_JamAffine.j3 : Nat → List (List Int) → Int → Bool → List (List Int) → List (List Int) → Option (Bool)
  | 0, _, _, _, _, _ => none
  | k + 1, x9, x12, x95, x103000, x103001 => if x95 = true then (some false) else (trishawlaw02_JamAffine.l2 k x9 x12 0 x103000 x103001)
def trishawlaw02_JamAffine.l2 : Nat → List (List Int) → Int → Int → List (List Int) → List (List Int) → Option (Bool)
  | 0, _, _, _, _, _ => none
  | k + 1, x9, x12, x14, x103000, x103001 => if x14 < (x9.length : Int) then (if 0 ≤ x14 then ((jam_Costs.f k x103000 x103001 (rd_L12 x9 x14)).bind fun bt127 => (if bt127.2.2 = 0 then (if (wrap64 (2 * bt127.2.1)) > (wrap64 (5 * x12)) then (some false) else (if bt127.2.1 < x12 then (some false) else (trishawlaw02_JamAffine.l2 k x9 x12 (wrap64 (x14 + 1)) x103000 x103001))) else (some false))) else (none)) else (if (x9.length : Int) > 0 then ((trishawlaw02_alive.f k).bind fun t132 => (some t132)) else (some false))
end
def trishawlaw02_JamAffine.f (k : Nat) (l0 : List (List Int)) (l1 : List (S57)) : Option (Bool) := if (l1.length : Int) > 20 then ((trishawlaw02_alive.f k).bind fun t101 => (some t101)) else (trishawlaw02_JamAffine.l0 k l0 l1 0 l0 ([] : List (List Int)))
theorem trishawlaw02_JamAffine.j3_no (k : Nat) (y0 : List (List Int)) (y1 : Int) (y3 : List (List Int)) (y4 : List (List Int)) (r : Bool) (h : trishawlaw02_JamAffine.j3 k y0 y1 true y3 y4 = some r) : r = false := by
  cases k with
  | zero => simp only [trishawlaw02_JamAffine.j3] at h; exact absurd h (by simp)
  | succ k => simp only [trishawlaw02_JamAffine.j3] at h; rw [if_pos trivial] at h; exact (Option.some.inj h).symm
def trishawlaw02_JamAffine.T11 : Bool × List (List Nat × List Nat) := (true, [([], []), ([], []), ([], []), ([1, 2], [1, 2]), ([3], [3]), ([4], [4]), ([5], [5]), ([6], [6]), ([], []), ([], []), ([], []), ([9, 10], [9, 10]), ([11], [11]), ([12], [12]), ([13], [13]), ([14], [14]), ([8, 15], [8, 15]), ([7, 16], [7, 16]), ([17], [17]), ([0, 18], [0, 18]), ([19, 19, 0, 1, 2, 3, 4, 5, 6, 7, 8, 9, 10, 11, 12, 13, 14, 15, 16, 17, 18, 19], [0, 19])])
def trishawlaw02_JamAffine.B11 : List Nat := [0, 0, 0, 6, 14, 30, 62, 126, 0, 0, 0, 1536, 3584, 7680, 15872, 32256, 65280, 131070, 262142, 524287, 1048575]
theorem trishawlaw02_JamAffine.tab11 : rtab .any (opsOf Try.f10 11) = trishawlaw02_JamAffine.T11 := by kernel_rfl
theorem trishawlaw02_JamAffine.bits11 : waitsOk trishawlaw02_JamAffine.T11.2 trishawlaw02_JamAffine.B11 = true := by kernel_rfl
def trishawlaw02_JamAffine.T22 : Bool × List (List Nat × List Nat) := (true, [([], []), ([], []), ([], []), ([1, 2], [1, 2]), ([3], [3]), ([0, 4], [0, 4]), ([5], [5]), ([6], [6]), ([6], [6]), ([6], [6]), ([7, 5, 0, 1, 2, 3, 4, 5, 6, 7], [7]), ([8, 10, 0, 1, 2, 3, 4, 5, 6, 7, 8, 10], [8]), ([9, 11, 0, 1, 2, 3, 4, 5, 6, 7, 8, 9, 10, 11], [9])])
def trishawlaw02_JamAffine.B22 : List Nat := [0, 0, 0, 6, 14, 31, 63, 127, 127, 127, 255, 1535, 4095]
theorem trishawlaw02_JamAffine.tab22 : rtab .any (opsOf Try.f10 22) = trishawlaw02_JamAffine.T22 := by kernel_rfl
theorem trishawlaw02_JamAffine.bits22 : waitsOk trishawlaw02_JamAffine.T22.2 trishawlaw02_JamAffine.B22 = true := by kernel_rfl
set_option maxHeartbeats 8000000 in
set_option maxRecDepth 100000 in
theorem trishawlaw02_JamAffine.calls (k : Nat) (A0 : Option Addr) (c0 : Nat) (l0 : List (List Int)) (A1 : Option Addr) (c1 : Nat) (l1 : List (S57)) (r : Bool) (w : World) (hr0 : Kd.C (Kd.slice 3 (Kd.int .i64)) w A0 l0.length l0) (hc0 : l0.length ≤ c0) (hr1 : Kd.C k57 w A1 l1.length l1) (hc1 : l1.length ≤ c1) (h : trishawlaw02_JamAffine.f k l0 l1 = some r) (hrt : r = true) :
  Calls Try.prog 10 #[.slice A0 l0.length c0, .slice A1 l1.length c1] w fun e w' => e = .returned (.bool r) ∧ Below w.heap.size w w' := by
 have hu41 := Try.underlying41
 have HR0 := Aside0.mk hr0
 have HC0 := Aside0.mk hc0
 clear hr0 hc0
 have HR1 := Aside0.mk hr1
 have HC1 := Aside0.mk hc1
 clear hr1 hc1
 have HB := Aside0.mk (Below.refl w.heap.size w)
 have H : (if (l1.length : Int) > 20 then ((trishawlaw02_alive.f k).bind fun t101 => (some t101)) else (trishawlaw02_JamAffine.l0 k l0 l1 0 l0 ([] : List (List Int)))) = some r := h
 clear h
 have HRT := Aside0.mk hrt
 clear hrt
 by_cases c3 : (l1.length : Int) > 20
 ·rw [if_pos c3] at H
  have c3b0 : decide (20 < (l1.length : Int)) = true := decide_eq_true c3
  have c3b1 : decide (20 < l1.length) = true := decide_eq_true (by omega)
  clear c3
  replace H := Option.bind_eq_some_iff.mp H
  obtain ⟨t101, A40, H⟩ := H
  replace H : (some t101) = some r := H
  have A4 := Aside0.mk A40
  clear A40
  obtain rfl := Option.some.inj H
  go_enter Try.func10, Try.ntmps10
  go_wp2_with (first | ((with_reducible refine gate_callee (f := 16) rfl ?_); refine goesL_ (some 21) rfl rfl Try.func16 (by kernel_rfl) rfl #[] rfl (by (try simp only [List.map_toArray, List.map_cons, List.map_nil]); first | done | rfl | (simp only [List.length_drop, List.length_take]; rfl)) ?_; (with_reducible refine (trishawlaw02_alive.calls k  t101 _ A4.out).mono ?_); rintro e w5 ⟨rfl, hb⟩; refine ⟨_, rfl, ?_⟩; have n0_ := Aside0.mk (below_step (by repeat (first | (with_reducible first | exact HB.out | apply below_alloc | apply pw_below_drewN | apply below_drew1) | exact HB.out)) hb); clear HB; have HB := n0_; clear n0_; (try clear hb); (try clear hb2); (try clear hk); (try clear hi)))
  go_ret
  exact ⟨by first | rfl | (simp [errW_none, errW_some] <;> rfl) | (simp [*, errW_none, errW_some] <;> rfl), by repeat (first | (with_reducible first | exact HB.out | apply below_alloc | apply pw_below_drewN | apply below_drew1) | exact HB.out)⟩
 ·rw [if_neg c3] at H
  have c3b0 : decide (20 < (l1.length : Int)) = false := decide_eq_false c3
  have c3b1 : decide (20 < l1.length) = false := decide_eq_false (by omega)
  clear c3
  have H' := Aside0.mk H
  clear H
  go_enter Try.func10, Try.ntmps10
  go_wp2_with (first | ((with_reducible refine gate_dst (N := 5) rfl ?_); refine box_event ?hg (N := 5) ?hd (cs := #[.slice none 0 0, .slice none 0 0]) (t := 41) ?hr ?_; (case hd => rfl); (case hg => rfl); (case hr => first | (go_simp; done) | (go_simp; rfl)); intro gb102 hg w6 hbox hb; have n0_ := Aside0.mk (below_step (by repeat (first | (with_reducible first | exact HB.out | apply below_alloc | apply pw_below_drewN | apply below_drew1) | exact HB.out)) hb); have n1_ := Aside0.mk (hbox); have n2_ := Aside0.mk ((by rw [hg]; exact (below_size (by repeat (first | (with_reducible first | exact HB.out | apply below_alloc | apply pw_below_drewN | apply below_drew1) | exact HB.out))) : w.heap.size ≤ gb102)); have n3_ := Aside0.mk ((by rw [hg]; exact (below_size (by repeat (first | (with_reducible first | exact HB.out | apply below_alloc | apply pw_below_drewN | apply below_drew1) | exact HB.out))) : w.heap.size ≤ gb102)); clear HB; have HB := n0_; have BK102 := n1_; have GW102 := n2_; have GE102 := n3_; clear n0_ n1_ n2_ n3_; clear hb hbox hg; have hcz7_0 : w6.cell? ⟨gb102, 0, none⟩ = some (.slice none 0 0) := (blk_cell BK102.out 0).trans rfl; have hcz7_1 : w6.cell? ⟨gb102, 1, none⟩ = some (.slice none 0 0) := (blk_cell BK102.out 1).trans rfl; have hfz7_0 := blk_frozen BK102.out 0; have hfz7_1 := blk_frozen BK102.out 1))
  go_loopg [6] k (fun kq v6 w' => ∃ (x6_1 : Int) (x103001_1 : List (List Int)) (u103001 : Value), v6 = .int .i64 x6_1 ∧ Aside0 (trishawlaw02_JamAffine.l0 kq l0 l1 x6_1 l0 x103001_1 = some r) ∧ Aside0 (kq ≤ k) ∧ Aside0 (Kd.S (Kd.slice 3 (Kd.int .i64)) 24 w' w.heap.size (fun _ => True) u103001 x103001_1) ∧ Aside0 (w'.heap[gb102]? = some (.cells #[(.slice A0 l0.length c0), u103001] 41 (0, 0))) ∧ Aside0 (Below w.heap.size w w'))
  case atStart => exact ⟨(0), (([] : List (List Int))), (.slice none 0 0), (by first | rfl | (simp; done) | (simp [*]; done)), H', ⟨Nat.le_refl _⟩, ⟨by first | exact Kd.S_nil _ _ _ _ _ | exact Kd.N_nil _ _ _ _ _ | exact Kd.V_nil _ _ _ _ _ | exact Kd.Q_nil _ _ _ _ _ | exact Kd.R_nil _ _ _ _ _⟩, ⟨by (with_reducible repeat (first | refine blk_drewN ?_ _ | refine blk_drew ?_ | refine blk_alloc ?_ _)); refine blk_put (cs := #[.slice A0 l0.length c0, .slice none 0 0]) ?_ 1 _ rfl; (with_reducible repeat (first | refine blk_drewN ?_ _ | refine blk_drew ?_ | refine blk_alloc ?_ _)); refine blk_put (cs := #[.slice none 0 0, .slice none 0 0]) ?_ 0 _ rfl; (with_reducible repeat (first | refine blk_drewN ?_ _ | refine blk_drew ?_ | refine blk_alloc ?_ _)); exact BK102.out⟩, ⟨by repeat (first | (with_reducible first | exact HB.out | apply below_alloc | apply pw_below_drewN | apply below_drew1 | refine below_set ?_ GE102.out) | exact HB.out)⟩⟩
  case round =>
   clear H'
   try clear c1
   try clear p2
   try clear c3
   try clear c3b0
   try clear c3b1
   try clear hcz7_0
   try clear hcz7_1
   try clear hfz7_0
   try clear hfz7_1
   obtain ⟨x6_1, x103001_1, u103001, rfl, HA, HK1, HO_103001, BK102, HB⟩ := hrel
   cases gk with
   | zero => exact absurd HA.out (by simp [trishawlaw02_JamAffine.l0])
   | succ k1 =>
    have H := HA.out
    clear HA
    simp only [trishawlaw02_JamAffine.l0] at H
    by_cases c8 : x6_1 < (l1.length : Int)
    ·rw [if_pos c8] at H
     have c8b0 : decide (x6_1 < (l1.length : Int)) = true := decide_eq_true c8
     clear c8
     have H' := Aside0.mk H
     clear H
     go_wp2
     go_loopg [7, 8] k1 (fun kq v7 v8 w' => ∃ (x7_2 : List Int) (x8_2 : Int), v8 = .int .i64 x8_2 ∧ Aside0 (trishawlaw02_JamAffine.l1 kq l0 l1 x6_1 x7_2 x8_2 l0 x103001_1 = some r) ∧ Aside0 (kq ≤ k1) ∧ Aside0 (Kd.R (Kd.int .i64) 3 w' w.heap.size (fun _ => True) v7 x7_2) ∧ Aside0 (Kd.S (Kd.slice 3 (Kd.int .i64)) 24 w' w.heap.size (fun k_ => some k_ ≠ (v7 : Value).ownBlock) u103001 x103001_1) ∧ Aside0 (w'.heap[gb102]? = some (.cells #[(.slice A0 l0.length c0), u103001] 41 (0, 0))) ∧ Aside0 (Below w.heap.size w w'))
     case atStart => exact ⟨(([] : List Int)), (1), (by first | rfl | (simp; done) | (simp [*]; done)), H', ⟨Nat.le_refl _⟩, ⟨by first | exact Kd.R_nil _ _ _ _ _ | exact Kd.N_nil _ _ _ _ _ | exact Kd.V_nil _ _ _ _ _ | exact Kd.Q_nil _ _ _ _ _ | exact Kd.S_nil _ _ _ _ _⟩, ⟨by (with_reducible repeat (first | apply Kd.S_alloc | apply Kd.S_drewN | apply Kd.S_drew)); exact Kd.S_mono HO_103001.out (fun _ hk => (by simp [Value.ownBlock]))⟩, ⟨by (with_reducible repeat (first | refine blk_drewN ?_ _ | refine blk_drew ?_ | refine blk_alloc ?_ _)); exact BK102.out⟩, ⟨by repeat (first | (with_reducible first | exact HB.out | apply below_alloc | apply pw_below_drewN | apply below_drew1 | refine below_set ?_ GE102.out) | exact HB.out)⟩⟩
     case round =>
      clear H'
      try clear c1
      try clear p2
      try clear c3
      try clear c3b0
      try clear c3b1
      try clear c8
      try clear c8b0
      try clear hcz7_0
      try clear hcz7_1
      try clear hfz7_0
      try clear hfz7_1
      try clear p2
      obtain ⟨x7_2, x8_2, rfl, HA, HK2, HO_7, HO_103001, BK102, HB⟩ := hrel
      cases gk with
      | zero => exact absurd HA.out (by simp [trishawlaw02_JamAffine.l1])
      | succ k2 =>
       have H := HA.out
       clear HA
       simp only [trishawlaw02_JamAffine.l1] at H
       by_cases c9 : x8_2 ≤ (l0.length : Int)
       ·rw [if_pos c9] at H
        have c9b0 : decide (x8_2 ≤ (l0.length : Int)) = true := decide_eq_true c9
        clear c9
        by_cases c10 : x8_2 ≤ 20
        ·rw [if_pos c10] at H
         have c10b0 : decide (x8_2 ≤ 20) = true := decide_eq_true c10
         clear c10
         by_cases c11 : 0 ≤ x6_1
         ·rw [if_pos c11] at H
          have c11b0 : decide (0 ≤ x6_1) = true := decide_eq_true c11
          clear c11
          by_cases c12 : x6_1 < (l1.length : Int)
          ·rw [if_pos c12] at H
           have c12b0 : decide (x6_1 < (l1.length : Int)) = true := decide_eq_true c12
           clear c12
           by_cases c13 : x7_2.length < 17592186044416
           ·rw [if_pos c13] at H
            have LMc13 := Aside0.mk c13
            clear c13
            obtain ⟨y105, hy105⟩ : ∃ y_ : List Int, y_ = (x7_2 ++ [wrap64 ((wrap64 (Int.tdiv (wrap64 ((rd_T57 l1 x6_1).f0)) 2)) + (wrap64 (x8_2 * (wrap64 (Int.tdiv (wrap64 ((rd_T57 l1 x6_1).f1)) 2)))))]) := ⟨_, rfl⟩
            replace H : (trishawlaw02_JamAffine.l1 k2 l0 l1 x6_1 y105 (wrap64 (x8_2 + 1)) l0 x103001_1) = some r := by first | (rw [hy105]; with_reducible exact H) | (have H2_ := (Option.bind_some _ _).symm.trans H; rw [hy105]; with_reducible exact H2_) | (have H2_ := (Option.bind_some _ _).symm.trans H; with_reducible exact H2_) | with_reducible exact H | (rw [hy105]; exact H) | exact H
            have Ny105 := Aside0.mk hy105
            clear hy105
            have H' := Aside0.mk H
            clear H
            try go_wp2
            have n0_ := Aside0.mk (Kd.R_drew HO_7.out)
            have n1_ := Aside0.mk (Kd.S_drew HO_103001.out)
            have n2_ := Aside0.mk (blk_drew BK102.out)
            have n3_ := Aside0.mk (below_drew1 HB.out)
            clear HO_7
            clear HO_103001
            clear BK102
            clear HB
            have HO_7 := n0_
            have HO_103001 := n1_
            have BK102 := n2_
            have HB := n3_
            clear n0_ n1_ n2_ n3_
            have p103 : 0 ≤ (x6_1 : Int) := of_decide_eq_true (by first | (with_reducible assumption) | assumption)
            have q103 : x6_1 < (l1.length : Int) := of_decide_eq_true (by first | (with_reducible assumption) | assumption)
            obtain ⟨ad103, e103, hx103_0, hx103_1⟩ := at_T57 HR1.out x6_1 p103 q103
            have hw103_1 := hx103_1
            have hw103_0 := hx103_0
            cases e103
            replace hx103_0 := (HB.out.cell (World.block_lt_of_cell? w _ hx103_0)).trans hx103_0
            replace hx103_1 := (HB.out.cell (World.block_lt_of_cell? w _ hx103_1)).trans hx103_1
            replace p103 := eq_true p103
            replace q103 := eq_true q103
            have p104 : 0 ≤ (x6_1 : Int) := of_decide_eq_true (by first | (with_reducible assumption) | assumption)
            have q104 : x6_1 < (l1.length : Int) := of_decide_eq_true (by first | (with_reducible assumption) | assumption)
            obtain ⟨ad104, e104, hx104_0, hx104_1⟩ := at_T57 HR1.out x6_1 p104 q104
            have hw104_1 := hx104_1
            have hw104_0 := hx104_0
            obtain rfl : ad103 = ad104 := (by injection e104)
            replace hx104_0 := (HB.out.cell (World.block_lt_of_cell? w _ hx104_0)).trans hx104_0
            replace hx104_1 := (HB.out.cell (World.block_lt_of_cell? w _ hx104_1)).trans hx104_1
            replace p104 := eq_true p104
            replace q104 := eq_true q104
            refine start_ (n := 21) (S := fun w' => w'.cell? (ad103.add ((x6_1).toNat * 2)) = some (.int .u8 ((rd_T57 l1 x6_1).f0)) ∧ w'.cell? ⟨(ad103.add ((x6_1).toNat * 2)).block, (ad103.add ((x6_1).toNat * 2)).off + 1, none⟩ = some (.int .u8 ((rd_T57 l1 x6_1).f1)) ∧ w'.cell? (ad103.add ((x6_1).toNat * 2)) = some (.int .u8 ((rd_T57 l1 x6_1).f0)) ∧ w'.cell? ⟨(ad103.add ((x6_1).toNat * 2)).block, (ad103.add ((x6_1).toNat * 2)).off + 1, none⟩ = some (.int .u8 ((rd_T57 l1 x6_1).f1))) (ds := []) #[false, false, false, false, false, false, false, false, false, false, false, false, false, false, false, false, false, false, false, false, false] (by kernel_rfl) rfl rfl ⟨((HB.out.cell (World.block_lt_of_cell? w _ hw103_0)).trans hw103_0), ((HB.out.cell (World.block_lt_of_cell? w _ hw103_1)).trans hw103_1), ((HB.out.cell (World.block_lt_of_cell? w _ hw104_0)).trans hw104_0), ((HB.out.cell (World.block_lt_of_cell? w _ hw104_1)).trans hw104_1)⟩ (fun hHeld => ?_); refine with_tabW trishawlaw02_JamAffine.tab11 trishawlaw02_JamAffine.bits11 (fun HT_ HW_ => ?_)
            generalize wr.drew = w14 at HO_7 HO_103001 BK102 HB hx103_0 hx103_1 hx104_0 hx104_1 hHeld ⊢
            refine pure_ (i := 0) (N := some 40) (v := ?_) (a' := ?_) #[true, false, false, false, false, false, false, false, false, false, false, false, false, false, false, false, false, false, false, false, false] rfl rfl (any_of HT_.out (by kernel_rfl)) (fun _ _ _ h => h) (Or.inl ⟨by rfl, ?_⟩) ?_ ?_
            rotate_left
            ·intro w'
             go_simp
             with_reducible rfl
            rotate_left
            ·simp only [Act.put, List.setIfInBounds_toArray, List.set_cons_zero, List.set_cons_succ, i64_w, i32_w]
             rfl
            refine pure_ (i := 1) (N := some 41) (v := ?_) (a' := ?_) #[true, true, false, false, false, false, false, false, false, false, false, false, false, false, false, false, false, false, false, false, false] rfl rfl (any_of HT_.out (by kernel_rfl)) (fun _ _ _ h => h) (Or.inl ⟨by rfl, ?_⟩) ?_ ?_
            rotate_left
            ·intro w'
             go_simp
             with_reducible rfl
            rotate_left
            ·simp only [Act.put, List.setIfInBounds_toArray, List.set_cons_zero, List.set_cons_succ, i64_w, i32_w]
             rfl
            refine pure_ (i := 2) (N := some 42) (v := ?_) (a' := ?_) #[true, true, true, false, false, false, false, false, false, false, false, false, false, false, false, false, false, false, false, false, false] rfl rfl (any_of HT_.out (by kernel_rfl)) (fun _ _ _ h => h) (Or.inl ⟨by rfl, ?_⟩) ?_ ?_
            rotate_left
            ·intro w'
             go_simp
             with_reducible rfl
            rotate_left
            ·simp only [Act.put, List.setIfInBounds_toArray, List.set_cons_zero, List.set_cons_succ, i64_w, i32_w]
             rfl
            refine pure_ (i := 3) (N := some 43) (v := ?_) (a' := ?_) #[true, true, true, true, false, false, false, false, false, false, false, false, false, false, false, false, false, false, false, false, false] rfl rfl (any_of HT_.out (by kernel_rfl)) (fun _ _ _ h => h) (Or.inl ⟨by rfl, ?_⟩) ?_ ?_
            rotate_left
            ·intro w'
             go_simp
             with_reducible rfl
            rotate_left
            ·simp only [Act.put, List.setIfInBounds_toArray, List.set_cons_zero, List.set_cons_succ, i64_w, i32_w]
             rfl
            refine pure_ (i := 4) (N := some 44) (v := ?_) (a' := ?_) #[true, true, true, true, true, false, false, false, false, false, false, false, false, false, false, false, false, false, false, false, false] rfl rfl (any_of HT_.out (by kernel_rfl)) (fun _ _ _ h => h) (Or.inl ⟨by rfl, ?_⟩) ?_ ?_
            rotate_left
            ·intro w'
             go_simp
             with_reducible rfl
            rotate_left
            ·simp only [Act.put, List.setIfInBounds_toArray, List.set_cons_zero, List.set_cons_succ, i64_w, i32_w]
             rfl
            refine pure_ (i := 8) (N := some 48) (v := ?_) (a' := ?_) #[true, true, true, true, true, false, false, false, true, false, false, false, false, false, false, false, false, false, false, false, false] rfl rfl (any_of HT_.out (by kernel_rfl)) (fun _ _ _ h => h) (Or.inl ⟨by rfl, ?_⟩) ?_ ?_
            rotate_left
            ·intro w'
             go_simp
             with_reducible rfl
            rotate_left
            ·simp only [Act.put, List.setIfInBounds_toArray, List.set_cons_zero, List.set_cons_succ, i64_w, i32_w]
             rfl
            refine pure_ (i := 9) (N := some 49) (v := ?_) (a' := ?_) #[true, true, true, true, true, false, false, false, true, true, false, false, false, false, false, false, false, false, false, false, false] rfl rfl (any_of HT_.out (by kernel_rfl)) (fun _ _ _ h => h) (Or.inl ⟨by rfl, ?_⟩) ?_ ?_
            rotate_left
            ·intro w'
             go_simp
             with_reducible rfl
            rotate_left
            ·simp only [Act.put, List.setIfInBounds_toArray, List.set_cons_zero, List.set_cons_succ, i64_w, i32_w]
             rfl
            refine pure_ (i := 10) (N := some 50) (v := ?_) (a' := ?_) #[true, true, true, true, true, false, false, false, true, true, true, false, false, false, false, false, false, false, false, false, false] rfl rfl (any_of HT_.out (by kernel_rfl)) (fun _ _ _ h => h) (Or.inl ⟨by rfl, ?_⟩) ?_ ?_
            rotate_left
            ·intro w'
             go_simp
             with_reducible rfl
            rotate_left
            ·simp only [Act.put, List.setIfInBounds_toArray, List.set_cons_zero, List.set_cons_succ, i64_w, i32_w]
             rfl
            refine pure_ (i := 11) (N := some 51) (v := ?_) (a' := ?_) #[true, true, true, true, true, false, false, false, true, true, true, true, false, false, false, false, false, false, false, false, false] rfl rfl (any_of HT_.out (by kernel_rfl)) (fun _ _ _ h => h) (Or.inl ⟨by rfl, ?_⟩) ?_ ?_
            rotate_left
            ·intro w'
             go_simp
             with_reducible rfl
            rotate_left
            ·simp only [Act.put, List.setIfInBounds_toArray, List.set_cons_zero, List.set_cons_succ, i64_w, i32_w]
             rfl
            refine pure_ (i := 12) (N := some 52) (v := ?_) (a' := ?_) #[true, true, true, true, true, false, false, false, true, true, true, true, true, false, false, false, false, false, false, false, false] rfl rfl (any_of HT_.out (by kernel_rfl)) (fun _ _ _ h => h) (Or.inl ⟨by rfl, ?_⟩) ?_ ?_
            rotate_left
            ·intro w'
             go_simp
             with_reducible rfl
            rotate_left
            ·simp only [Act.put, List.setIfInBounds_toArray, List.set_cons_zero, List.set_cons_succ, i64_w, i32_w]
             rfl
            refine take_ (i := 5) (N := some 45) (v := ?_) (a' := ?_) #[true, true, true, true, true, true, false, false, true, true, true, true, true, false, false, false, false, false, false, false, false] rfl rfl (take_ofW HT_.out HW_.out (by kernel_rfl)) (fun _ _ _ h => h) (Or.inl ⟨by rfl, ?_⟩) hHeld ?_ ?_
            rotate_left
            ·rintro w' ⟨s0, s1, s2, s3⟩
             go_simp
             with_reducible rfl
            rotate_left
            ·simp only [Act.put, List.setIfInBounds_toArray, List.set_cons_zero, List.set_cons_succ, i64_w, i32_w]
             rfl
            refine pure_ (i := 6) (N := some 46) (v := ?_) (a' := ?_) #[true, true, true, true, true, true, true, false, true, true, true, true, true, false, false, false, false, false, false, false, false] rfl rfl (any_of HT_.out (by kernel_rfl)) (fun _ _ _ h => h) (Or.inl ⟨by rfl, ?_⟩) ?_ ?_
            rotate_left
            ·intro w'
             go_simp
             with_reducible rfl
            rotate_left
            ·simp only [Act.put, List.setIfInBounds_toArray, List.set_cons_zero, List.set_cons_succ, i64_w, i32_w]
             rfl
            refine pure_ (i := 7) (N := some 47) (v := ?_) (a' := ?_) #[true, true, true, true, true, true, true, true, true, true, true, true, true, false, false, false, false, false, false, false, false] rfl rfl (any_of HT_.out (by kernel_rfl)) (fun _ _ _ h => h) (Or.inl ⟨by rfl, ?_⟩) ?_ ?_
            rotate_left
            ·intro w'
             go_simp
             with_reducible rfl
            rotate_left
            ·simp only [Act.put, List.setIfInBounds_toArray, List.set_cons_zero, List.set_cons_succ, i64_w, i32_w]
             rfl
            refine take_ (i := 13) (N := some 53) (v := ?_) (a' := ?_) #[true, true, true, true, true, true, true, true, true, true, true, true, true, true, false, false, false, false, false, false, false] rfl rfl (take_ofW HT_.out HW_.out (by kernel_rfl)) (fun _ _ _ h => h) (Or.inl ⟨by rfl, ?_⟩) hHeld ?_ ?_
            rotate_left
            ·rintro w' ⟨s0, s1, s2, s3⟩
             go_simp
             with_reducible rfl
            rotate_left
            ·simp only [Act.put, List.setIfInBounds_toArray, List.set_cons_zero, List.set_cons_succ, i64_w, i32_w]
             rfl
            refine pure_ (i := 14) (N := some 54) (v := ?_) (a' := ?_) #[true, true, true, true, true, true, true, true, true, true, true, true, true, true, true, false, false, false, false, false, false] rfl rfl (any_of HT_.out (by kernel_rfl)) (fun _ _ _ h => h) (Or.inl ⟨by rfl, ?_⟩) ?_ ?_
            rotate_left
            ·intro w'
             go_simp
             with_reducible rfl
            rotate_left
            ·simp only [Act.put, List.setIfInBounds_toArray, List.set_cons_zero, List.set_cons_succ, i64_w, i32_w]
             rfl
            refine pure_ (i := 15) (N := some 55) (v := ?_) (a' := ?_) #[true, true, true, true, true, true, true, true, true, true, true, true, true, true, true, true, false, false, false, false, false] rfl rfl (any_of HT_.out (by kernel_rfl)) (fun _ _ _ h => h) (Or.inl ⟨by rfl, ?_⟩) ?_ ?_
            rotate_left
            ·intro w'
             go_simp
             with_reducible rfl
            rotate_left
            ·simp only [Act.put, List.setIfInBounds_toArray, List.set_cons_zero, List.set_cons_succ, i64_w, i32_w]
             rfl
            refine pure_ (i := 16) (N := some 56) (v := ?_) (a' := ?_) #[true, true, true, true, true, true, true, true, true, true, true, true, true, true, true, true, true, false, false, false, false] rfl rfl (any_of HT_.out (by kernel_rfl)) (fun _ _ _ h => h) (Or.inl ⟨by rfl, ?_⟩) ?_ ?_
            rotate_left
            ·intro w'
             go_simp
             with_reducible rfl
            rotate_left
            ·simp only [Act.put, List.setIfInBounds_toArray, List.set_cons_zero, List.set_cons_succ, i64_w, i32_w]
             rfl
            refine pure_ (i := 17) (N := some 57) (v := ?_) (a' := ?_) #[true, true, true, true, true, true, true, true, true, true, true, true, true, true, true, true, true, true, false, false, false] rfl rfl (any_of HT_.out (by kernel_rfl)) (fun _ _ _ h => h) (Or.inl ⟨by rfl, ?_⟩) ?_ ?_
            rotate_left
            ·intro w'
             go_simp
             with_reducible rfl
            rotate_left
            ·simp only [Act.put, List.setIfInBounds_toArray, List.set_cons_zero, List.set_cons_succ, i64_w, i32_w]
             rfl
            refine one_ (i := 18) (N := some 58) #[true, true, true, true, true, true, true, true, true, true, true, true, true, true, true, true, true, true, true, false, false] rfl rfl (one_of HT_.out (by kernel_rfl)) (by decide) (fun K hK => ?_)
            refine value_ (w1 := ?_) (v := ?_) (by rfl) rfl ?_ ?_
            rotate_left 2
            ·go_simp
             constructor
             ·rfl
             ·rfl
            refine hK.out _ _ ⟨(World.cell?_alloc_lt _ _ _ (World.block_lt_of_cell? _ _ (((HB.out.cell (World.block_lt_of_cell? w _ hw103_0)).trans hw103_0)))).trans (((HB.out.cell (World.block_lt_of_cell? w _ hw103_0)).trans hw103_0)), (World.cell?_alloc_lt _ _ _ (World.block_lt_of_cell? _ _ (((HB.out.cell (World.block_lt_of_cell? w _ hw103_1)).trans hw103_1)))).trans (((HB.out.cell (World.block_lt_of_cell? w _ hw103_1)).trans hw103_1)), (World.cell?_alloc_lt _ _ _ (World.block_lt_of_cell? _ _ (((HB.out.cell (World.block_lt_of_cell? w _ hw104_0)).trans hw104_0)))).trans (((HB.out.cell (World.block_lt_of_cell? w _ hw104_0)).trans hw104_0)), (World.cell?_alloc_lt _ _ _ (World.block_lt_of_cell? _ _ (((HB.out.cell (World.block_lt_of_cell? w _ hw104_1)).trans hw104_1)))).trans (((HB.out.cell (World.block_lt_of_cell? w _ hw104_1)).trans hw104_1))⟩ (fun hHeld => ?_)
            clear hK K
            refine norm_ (a' := ?_) ?_ ?_
            rotate_left
            ·show Act.put _ (some 58) _ = _
             simp only [Act.put, List.setIfInBounds_toArray, List.set_cons_zero, List.set_cons_succ, i64_w, i32_w]
             rfl
            refine one_ (i := 19) (N := some 59) #[true, true, true, true, true, true, true, true, true, true, true, true, true, true, true, true, true, true, true, true, false] rfl rfl (one_of HT_.out (by kernel_rfl)) (by decide) (fun K hK => ?_)
            refine Kd.R_append_step (Kd.int .i64) (w0 := w) w.heap.size (by rfl) (.tmp 40) (.tmp 58) 24 3 (.int .i64 0) 8 rfl Try.underlying24 info3 rfl (by decide) (by omega) u7 x7_2 (wrap64 ((wrap64 (Int.tdiv (wrap64 ((rd_T57 l1 x6_1).f0)) 2)) + (wrap64 (x8_2 * (wrap64 (Int.tdiv (wrap64 ((rd_T57 l1 x6_1).f1)) 2)))))) [.int .i64 (wrap64 ((wrap64 (Int.tdiv (wrap64 ((rd_T57 l1 x6_1).f0)) 2)) + (wrap64 (x8_2 * (wrap64 (Int.tdiv (wrap64 ((rd_T57 l1 x6_1).f1)) 2))))))] (fun _ => True) (fun _ => False) rfl rfl ?aP (fun _ hk => hk.elim) ?aF ?aO ?aB ?aS ?aL ?_
            (case aP => exact rfl)
            (case aB => exact (by repeat (first | (with_reducible first | exact HB.out | apply below_alloc | apply pw_below_drewN | apply below_drew1 | refine below_set ?_ GE102.out) | exact HB.out)))
            (case aF => exact (fun _ _ => trivial))
            (case aO => exact (by (with_reducible repeat (first | apply Kd.R_alloc | apply Kd.R_drewN | apply Kd.R_drew)); exact HO_7.out))
            (case aS => exact (below_size (by repeat (first | (with_reducible first | exact HB.out | apply below_alloc | apply pw_below_drewN | apply below_drew1 | refine below_set ?_ GE102.out) | exact HB.out))))
            (case aL => have := LMc13.out; omega)
            intro v106 w15 ho hb hg hat
            rw [← Ny105.out] at ho
            have n0_ := Aside0.mk (Kd.S_after (ok := (fun _ => True)) (by (with_reducible repeat (first | apply Kd.S_alloc | apply Kd.S_drewN | apply Kd.S_drew)); exact Kd.S_mono HO_103001.out (fun _ hk => ⟨trivial, hk⟩)) hg hat)
            have n1_ := Aside0.mk (blk_grown (g := gb102) (o := .cells #[.slice A0 l0.length c0, u103001] 41 (0, 0)) (by (with_reducible repeat (first | refine blk_drewN ?_ _ | refine blk_drew ?_ | refine blk_alloc ?_ _)); exact BK102.out) hg (Kd.R_ne HO_7.out BK102.out (by decide)))
            have n2_ := Aside0.mk (hb)
            have n3_ := Aside0.mk (ho)
            clear HO_103001
            clear BK102
            clear HB
            clear HO_7
            have HO_103001 := n0_
            have BK102 := n1_
            have HB := n2_
            have HO107 := n3_
            clear n0_ n1_ n2_ n3_
            clear ho hb hg hat
            refine hK.out _ _ ⟨((HB.out.cell (World.block_lt_of_cell? w _ hw103_0)).trans hw103_0), ((HB.out.cell (World.block_lt_of_cell? w _ hw103_1)).trans hw103_1), ((HB.out.cell (World.block_lt_of_cell? w _ hw104_0)).trans hw104_0), ((HB.out.cell (World.block_lt_of_cell? w _ hw104_1)).trans hw104_1)⟩ (fun hHeld => ?_)
            clear hK K
            refine norm_ (a' := ?_) ?_ ?_
            rotate_left
            ·show Act.put _ (some 59) _ = _
             simp only [Act.put, List.setIfInBounds_toArray, List.set_cons_zero, List.set_cons_succ, i64_w, i32_w]
             rfl
            refine pure_ (i := 20) (N := some 7) (v := ?_) (a' := ?_) #[true, true, true, true, true, true, true, true, true, true, true, true, true, true, true, true, true, true, true, true, true] rfl rfl (any_of HT_.out (by kernel_rfl)) (fun _ _ _ h => h) (Or.inl ⟨by rfl, ?_⟩) ?_ ?_
            rotate_left
            ·intro w'
             go_simp
             with_reducible rfl
            rotate_left
            ·simp only [Act.put, List.setIfInBounds_toArray, List.set_cons_zero, List.set_cons_succ, i64_w, i32_w]
             rfl
            refine done_ (done_of HT_.out (by kernel_rfl)) ?_
            try go_wp2
            go_roundg k2
            case measure => have := HK1.out; have := HK2.out; omega
            case rel => exact ⟨(y105), (wrap64 (x8_2 + 1)), (by first | rfl | (simp; done) | (simp [*]; done)), H', ⟨by have := HK1.out; have := HK2.out; omega⟩, ⟨by (with_reducible repeat (first | apply Kd.R_alloc | apply Kd.R_drewN | apply Kd.R_drew)); exact HO107.out⟩, ⟨by (with_reducible repeat (first | apply Kd.S_alloc | apply Kd.S_drewN | apply Kd.S_drew)); exact Kd.S_mono HO_103001.out (fun _ hk => hk.2)⟩, ⟨by (with_reducible repeat (first | refine blk_drewN ?_ _ | refine blk_drew ?_ | refine blk_alloc ?_ _)); exact BK102.out⟩, ⟨by repeat (first | (with_reducible first | exact HB.out | apply below_alloc | apply pw_below_drewN | apply below_drew1 | refine below_set ?_ GE102.out) | exact HB.out)⟩⟩
           ·rw [if_neg c13] at H
            exact absurd H (by simp)
          ·rw [if_neg c12] at H
           exact absurd H (by simp)
         ·rw [if_neg c11] at H
          exact absurd H (by simp)
        ·rw [if_neg c10] at H
         have c10b0 : decide (x8_2 ≤ 20) = false := decide_eq_false c10
         clear c10
         by_cases c16 : x103001_1.length < 5864062014805
         ·rw [if_pos c16] at H
          have LMc16 := Aside0.mk c16
          clear c16
          obtain ⟨y108, hy108⟩ : ∃ y_ : List (List Int), y_ = (x103001_1 ++ [x7_2]) := ⟨_, rfl⟩
          replace H : (trishawlaw02_JamAffine.l0 k2 l0 l1 (wrap64 (x6_1 + 1)) l0 y108) = some r := by first | (rw [hy108]; with_reducible exact H) | (have H2_ := (Option.bind_some _ _).symm.trans H; rw [hy108]; with_reducible exact H2_) | (have H2_ := (Option.bind_some _ _).symm.trans H; with_reducible exact H2_) | with_reducible exact H | (rw [hy108]; exact H) | exact H
          have Ny108 := Aside0.mk hy108
          clear hy108
          have H' := Aside0.mk H
          clear H
          have hcz17_0 : wr.cell? ⟨gb102, 0, none⟩ = some (.slice A0 l0.length c0) := (blk_cell BK102.out 0).trans rfl
          have hcz17_1 : wr.cell? ⟨gb102, 1, none⟩ = some (u103001) := (blk_cell BK102.out 1).trans rfl
          have hfz17_0 := blk_frozen BK102.out 0
          have hfz17_1 := blk_frozen BK102.out 1
          obtain ⟨Ao19, co19, eo19⟩ := Kd.R_slice HO_7.out
          subst eo19
          go_wp2_with (first | ((with_reducible refine gate_builtin (b := .append) (xs := #[.tmp 61, .tmp 63]) rfl ?_); at_builtin; refine Kd.S_append (Kd.slice 3 (Kd.int .i64)) (w0 := w) w.heap.size rfl (.tmp 61) (.tmp 63) 39 24 (.slice none 0 0) 24 rfl Try.underlying39 info24 rfl (by decide) (by omega) u103001 x103001_1 x7_2 [.slice Ao19 x7_2.length co19] (fun _ => True) (fun k_ => some k_ = (.slice Ao19 x7_2.length co19 : Value).ownBlock) rfl rfl ?aP (fun k_ hk_ => ((Kd.R_mono (ok' := fun k_ => ((fun _ => True)) k_ ∧ some k_ ≠ (u103001 : Value).ownBlock) (Kd.R_apart' (HO_7.out) (Kd.S_typed HO_103001.out) (by decide)) (fun k_ hk => ⟨trivial, hk.2⟩))).1 k_ hk_.symm) ?aF ?aO ?aB ?aS ?aL ?_; (case aP => exact Kd.M_row (Kd.R_mono (Kd.R_tight rfl (Kd.R_mono (ok' := fun k_ => ((fun _ => True)) k_ ∧ some k_ ≠ (u103001 : Value).ownBlock) (Kd.R_apart' (HO_7.out) (Kd.S_typed HO_103001.out) (by decide)) (fun k_ hk => ⟨trivial, hk.2⟩))) (fun _ h_ => h_))); (case aB => exact (by repeat (first | (with_reducible first | exact HB.out | apply below_alloc | apply pw_below_drewN | apply below_drew1 | refine below_set ?_ GE102.out) | exact HB.out))); (case aF => exact (fun _ _ => trivial)); (case aO => exact (by (with_reducible repeat (first | apply Kd.S_alloc | apply Kd.S_drewN | apply Kd.S_drew)); exact Kd.S_mono HO_103001.out (fun k_ hk => ⟨trivial, fun e_ => hk e_⟩))); (case aS => exact (below_size (by repeat (first | (with_reducible first | exact HB.out | apply below_alloc | apply pw_below_drewN | apply below_drew1 | refine below_set ?_ GE102.out) | exact HB.out)))); (case aL => have := LMc16.out; omega); intro v109 w18 ho hb hg hat; rw [← Ny108.out] at ho; have n0_ := Aside0.mk (blk_grown (g := gb102) (o := .cells #[.slice A0 l0.length c0, u103001] 41 (0, 0)) (by (with_reducible repeat (first | refine blk_drewN ?_ _ | refine blk_drew ?_ | refine blk_alloc ?_ _)); exact BK102.out) hg (Kd.S_ne HO_103001.out BK102.out (by decide))); have n1_ := Aside0.mk (hb); have n2_ := Aside0.mk (ho); clear BK102; clear HB; clear HO_103001; clear HO_7; have BK102 := n0_; have HB := n1_; have HO110 := n2_; clear n0_ n1_ n2_; clear ho hb hg hat; obtain ⟨Ao20, co20, eo20⟩ := Kd.S_slice HO110.out; subst eo20; have hcz21_0 : w18.cell? ⟨gb102, 0, none⟩ = some (.slice A0 l0.length c0) := (blk_cell BK102.out 0).trans rfl; have hcz21_1 : w18.cell? ⟨gb102, 1, none⟩ = some (u103001) := (blk_cell BK102.out 1).trans rfl; have hfz21_0 := blk_frozen BK102.out 0; have hfz21_1 := blk_frozen BK102.out 1))
          go_roundg k2
          case measure => have := HK1.out; have := HK2.out; omega
          case rel => exact ⟨(wrap64 (x6_1 + 1)), (y108), (.slice Ao20 y108.length co20), (by first | rfl | (simp; done) | (simp [*]; done)), H', ⟨by have := HK1.out; have := HK2.out; omega⟩, ⟨by (with_reducible repeat (first | apply Kd.S_alloc | apply Kd.S_drewN | apply Kd.S_drew)); exact Kd.S_mono (Kd.S_far (p := ⟨gb102, 1, none⟩) (Kd.S_types HO110.out BK102.out (by decide)) (fun _ hk => hk.2) (.slice Ao20 y108.length co20)) (fun _ hk => trivial)⟩, ⟨by (with_reducible repeat (first | refine blk_drewN ?_ _ | refine blk_drew ?_ | refine blk_alloc ?_ _)); refine blk_put (cs := #[.slice A0 l0.length c0, u103001]) ?_ 1 _ rfl; (with_reducible repeat (first | refine blk_drewN ?_ _ | refine blk_drew ?_ | refine blk_alloc ?_ _)); exact BK102.out⟩, ⟨by repeat (first | (with_reducible first | exact HB.out | apply below_alloc | apply pw_below_drewN | apply below_drew1 | refine below_set ?_ GE102.out) | exact HB.out)⟩⟩
         ·rw [if_neg c16] at H
          exact absurd H (by simp)
       ·rw [if_neg c9] at H
        have c9b0 : decide (x8_2 ≤ (l0.length : Int)) = false := decide_eq_false c9
        clear c9
        by_cases c22 : x103001_1.length < 5864062014805
        ·rw [if_pos c22] at H
         have LMc22 := Aside0.mk c22
         clear c22
         obtain ⟨y111, hy111⟩ : ∃ y_ : List (List Int), y_ = (x103001_1 ++ [x7_2]) := ⟨_, rfl⟩
         replace H : (trishawlaw02_JamAffine.l0 k2 l0 l1 (wrap64 (x6_1 + 1)) l0 y111) = some r := by first | (rw [hy111]; with_reducible exact H) | (have H2_ := (Option.bind_some _ _).symm.trans H; rw [hy111]; with_reducible exact H2_) | (have H2_ := (Option.bind_some _ _).symm.trans H; with_reducible exact H2_) | with_reducible exact H | (rw [hy111]; exact H) | exact H
         have Ny111 := Aside0.mk hy111
         clear hy111
         have H' := Aside0.mk H
         clear H
         have hcz23_0 : wr.cell? ⟨gb102, 0, none⟩ = some (.slice A0 l0.length c0) := (blk_cell BK102.out 0).trans rfl
         have hcz23_1 : wr.cell? ⟨gb102, 1, none⟩ = some (u103001) := (blk_cell BK102.out 1).trans rfl
         have hfz23_0 := blk_frozen BK102.out 0
         have hfz23_1 := blk_frozen BK102.out 1
         obtain ⟨Ao25, co25, eo25⟩ := Kd.R_slice HO_7.out
         subst eo25
         go_wp2_with (first | ((with_reducible refine gate_builtin (b := .append) (xs := #[.tmp 61, .tmp 63]) rfl ?_); at_builtin; refine Kd.S_append (Kd.slice 3 (Kd.int .i64)) (w0 := w) w.heap.size rfl (.tmp 61) (.tmp 63) 39 24 (.slice none 0 0) 24 rfl Try.underlying39 info24 rfl (by decide) (by omega) u103001 x103001_1 x7_2 [.slice Ao25 x7_2.length co25] (fun _ => True) (fun k_ => some k_ = (.slice Ao25 x7_2.length co25 : Value).ownBlock) rfl rfl ?aP (fun k_ hk_ => ((Kd.R_mono (ok' := fun k_ => ((fun _ => True)) k_ ∧ some k_ ≠ (u103001 : Value).ownBlock) (Kd.R_apart' (HO_7.out) (Kd.S_typed HO_103001.out) (by decide)) (fun k_ hk => ⟨trivial, hk.2⟩))).1 k_ hk_.symm) ?aF ?aO ?aB ?aS ?aL ?_; (case aP => exact Kd.M_row (Kd.R_mono (Kd.R_tight rfl (Kd.R_mono (ok' := fun k_ => ((fun _ => True)) k_ ∧ some k_ ≠ (u103001 : Value).ownBlock) (Kd.R_apart' (HO_7.out) (Kd.S_typed HO_103001.out) (by decide)) (fun k_ hk => ⟨trivial, hk.2⟩))) (fun _ h_ => h_))); (case aB => exact (by repeat (first | (with_reducible first | exact HB.out | apply below_alloc | apply pw_below_drewN | apply below_drew1 | refine below_set ?_ GE102.out) | exact HB.out))); (case aF => exact (fun _ _ => trivial)); (case aO => exact (by (with_reducible repeat (first | apply Kd.S_alloc | apply Kd.S_drewN | apply Kd.S_drew)); exact Kd.S_mono HO_103001.out (fun k_ hk => ⟨trivial, fun e_ => hk e_⟩))); (case aS => exact (below_size (by repeat (first | (with_reducible first | exact HB.out | apply below_alloc | apply pw_below_drewN | apply below_drew1 | refine below_set ?_ GE102.out) | exact HB.out)))); (case aL => have := LMc22.out; omega); intro v112 w24 ho hb hg hat; rw [← Ny111.out] at ho; have n0_ := Aside0.mk (blk_grown (g := gb102) (o := .cells #[.slice A0 l0.length c0, u103001] 41 (0, 0)) (by (with_reducible repeat (first | refine blk_drewN ?_ _ | refine blk_drew ?_ | refine blk_alloc ?_ _)); exact BK102.out) hg (Kd.S_ne HO_103001.out BK102.out (by decide))); have n1_ := Aside0.mk (hb); have n2_ := Aside0.mk (ho); clear BK102; clear HB; clear HO_103001; clear HO_7; have BK102 := n0_; have HB := n1_; have HO113 := n2_; clear n0_ n1_ n2_; clear ho hb hg hat; obtain ⟨Ao26, co26, eo26⟩ := Kd.S_slice HO113.out; subst eo26; have hcz27_0 : w24.cell? ⟨gb102, 0, none⟩ = some (.slice A0 l0.length c0) := (blk_cell BK102.out 0).trans rfl; have hcz27_1 : w24.cell? ⟨gb102, 1, none⟩ = some (u103001) := (blk_cell BK102.out 1).trans rfl; have hfz27_0 := blk_frozen BK102.out 0; have hfz27_1 := blk_frozen BK102.out 1))
         go_roundg k2
         case measure => have := HK1.out; have := HK2.out; omega
         case rel => exact ⟨(wrap64 (x6_1 + 1)), (y111), (.slice Ao26 y111.length co26), (by first | rfl | (simp; done) | (simp [*]; done)), H', ⟨by have := HK1.out; have := HK2.out; omega⟩, ⟨by (with_reducible repeat (first | apply Kd.S_alloc | apply Kd.S_drewN | apply Kd.S_drew)); exact Kd.S_mono (Kd.S_far (p := ⟨gb102, 1, none⟩) (Kd.S_types HO113.out BK102.out (by decide)) (fun _ hk => hk.2) (.slice Ao26 y111.length co26)) (fun _ hk => trivial)⟩, ⟨by (with_reducible repeat (first | refine blk_drewN ?_ _ | refine blk_drew ?_ | refine blk_alloc ?_ _)); refine blk_put (cs := #[.slice A0 l0.length c0, u103001]) ?_ 1 _ rfl; (with_reducible repeat (first | refine blk_drewN ?_ _ | refine blk_drew ?_ | refine blk_alloc ?_ _)); exact BK102.out⟩, ⟨by repeat (first | (with_reducible first | exact HB.out | apply below_alloc | apply pw_below_drewN | apply below_drew1 | refine below_set ?_ GE102.out) | exact HB.out)⟩⟩
        ·rw [if_neg c22] at H
         exact absurd H (by simp)
    ·rw [if_neg c8] at H
     have c8b0 : decide (x6_1 < (l1.length : Int)) = false := decide_eq_false c8
     clear c8
     have HC28 := Aside0.mk H
     clear H
     go_upto_region 13 with (fail)
     go_cut [73] (fun v73 wc => ∃ (kq : Nat) (x73_27 : Bool), v73 = .bool x73_27 ∧ Aside0 (trishawlaw02_JamAffine.j2 kq x73_27 l0 x103001_1 = some r) ∧ Aside0 (kq ≤ k1) ∧ Aside0 (Kd.S (Kd.slice 3 (Kd.int .i64)) 24 wc w.heap.size (fun _ => True) u103001 x103001_1) ∧ Aside0 (wc.heap[gb102]? = some (.cells #[(.slice A0 l0.length c0), u103001] 41 (0, 0))) ∧ Aside0 (Below w.heap.size w wc))
     case first =>
      have H := HC28.out
      clear HC28
      replace H := Option.bind_eq_some_iff.mp H
      obtain ⟨t114, A290, H⟩ := H
      replace H : (if t114 = true then ((trishawref02_IsGame.f k1 l0 x103001_1).bind fun t115 => (trishawlaw02_JamAffine.j2 k1 (!t115) l0 x103001_1)) else (trishawlaw02_JamAffine.j2 k1 true l0 x103001_1)) = some r := H
      have A29 := Aside0.mk A290
      clear A290
      by_cases c30 : t114 = true
      ·subst c30
       have H1 : ((trishawref02_IsGame.f k1 l0 x103001_1).bind fun t115 => (trishawlaw02_JamAffine.j2 k1 (!t115) l0 x103001_1)) = some r := by rw [if_pos rfl] at H; exact H
       clear H
       have H := H1
       clear H1
       replace H := Option.bind_eq_some_iff.mp H
       obtain ⟨t115, A310, H⟩ := H
       replace H : (trishawlaw02_JamAffine.j2 k1 (!t115) l0 x103001_1) = some r := H
       have A31 := Aside0.mk A310
       clear A310
       have H' := Aside0.mk H
       clear H
       have hcz32_0 : wr.cell? ⟨gb102, 0, none⟩ = some (.slice A0 l0.length c0) := (blk_cell BK102.out 0).trans rfl
       have hcz32_1 : wr.cell? ⟨gb102, 1, none⟩ = some (u103001) := (blk_cell BK102.out 1).trans rfl
       have hfz32_0 := blk_frozen BK102.out 0
       have hfz32_1 := blk_frozen BK102.out 1
       obtain ⟨Ao33, co33, eo33⟩ := Kd.S_slice HO_103001.out
       subst eo33
       go_wp2_with (first | ((with_reducible refine gate_callee (f := 24) rfl ?_); refine goesL_ (some 67) rfl rfl Try.func24 (by kernel_rfl) rfl #[.agg #[.slice A0 l0.length c0, .slice Ao33 x103001_1.length co33], .slice none 0 0] rfl (by (try simp only [List.map_toArray, List.map_cons, List.map_nil]); first | done | rfl | (simp only [List.length_drop, List.length_take]; rfl)) ?_; (refine (trishawlaw02_few.calls k1 _ _ l0 _ _ x103001_1 _ _ ([] : List Int) true _ ?side1 ?side2 ?side3 ?side4 ?side5 ?side6 A29.out).mono ?_); (case side1 => repeat (first | exact (Kd.C_below HR0.out HB.out) | (with_reducible refine Kd.C_alloc ?_ _) | (with_reducible refine Kd.C_drewN ?_ _) | (with_reducible refine Kd.C_drew ?_))); (case side2 => exact HC0.out); (case side3 => repeat (first | exact (Kd.S_reads' HO_103001.out).2.2 | (with_reducible refine Kd.C_alloc ?_ _) | (with_reducible refine Kd.C_drewN ?_ _) | (with_reducible refine Kd.C_drew ?_))); (case side4 => exact (Kd.S_reads' HO_103001.out).2.1); (case side5 => exact Kd.C_nil _ _); (case side6 => exact Nat.le_refl _); rintro e w34 ⟨rfl, hb⟩; refine ⟨_, rfl, ?_⟩; have n0_ := Aside0.mk (Kd.S_below (by (with_reducible repeat (first | apply Kd.S_alloc | apply Kd.S_drewN | apply Kd.S_drew)); exact HO_103001.out) hb); have n1_ := Aside0.mk (blk_below (g := gb102) (o := .cells #[.slice A0 l0.length c0, .slice Ao33 x103001_1.length co33] 41 (0, 0)) (by (with_reducible repeat (first | refine blk_drewN ?_ _ | refine blk_drew ?_ | refine blk_alloc ?_ _)); exact BK102.out) hb); have n2_ := Aside0.mk (below_step (by repeat (first | (with_reducible first | exact HB.out | apply below_alloc | apply pw_below_drewN | apply below_drew1 | refine below_set ?_ GE102.out) | exact HB.out)) hb); clear HO_103001; clear BK102; clear HB; have HO_103001 := n0_; have BK102 := n1_; have HB := n2_; clear n0_ n1_ n2_; (try clear hb); (try clear hb2); (try clear hk); (try clear hi); have hcz35_0 : w34.cell? ⟨gb102, 0, none⟩ = some (.slice A0 l0.length c0) := (blk_cell BK102.out 0).trans rfl; have hcz35_1 : w34.cell? ⟨gb102, 1, none⟩ = some (.slice Ao33 x103001_1.length co33) := (blk_cell BK102.out 1).trans rfl; have hfz35_0 := blk_frozen BK102.out 0; have hfz35_1 := blk_frozen BK102.out 1) | (go_at_call 25; (with_reducible refine (trishawref02_IsGame.calls k1 _ _ l0 _ _ x103001_1 t115 _ ?side1 ?side2 ?side3 ?side4 A31.out).mono ?_); (case side1 => repeat (first | exact (Kd.C_below HR0.out HB.out) | (with_reducible refine Kd.C_alloc ?_ _) | (with_reducible refine Kd.C_drewN ?_ _) | (with_reducible refine Kd.C_drew ?_))); (case side2 => exact HC0.out); (case side3 => repeat (first | exact (Kd.S_reads' HO_103001.out).2.2 | (with_reducible refine Kd.C_alloc ?_ _) | (with_reducible refine Kd.C_drewN ?_ _) | (with_reducible refine Kd.C_drew ?_))); (case side4 => exact (Kd.S_reads' HO_103001.out).2.1); rintro e w36 ⟨rfl, hb⟩; have n0_ := Aside0.mk (Kd.S_below (by (with_reducible repeat (first | apply Kd.S_alloc | apply Kd.S_drewN | apply Kd.S_drew)); exact HO_103001.out) hb); have n1_ := Aside0.mk (blk_below (g := gb102) (o := .cells #[.slice A0 l0.length c0, .slice Ao33 x103001_1.length co33] 41 (0, 0)) (by (with_reducible repeat (first | refine blk_drewN ?_ _ | refine blk_drew ?_ | refine blk_alloc ?_ _)); exact BK102.out) hb); have n2_ := Aside0.mk (below_step (by repeat (first | (with_reducible first | exact HB.out | apply below_alloc | apply pw_below_drewN | apply below_drew1 | refine below_set ?_ GE102.out) | exact HB.out)) hb); clear HO_103001; clear BK102; clear HB; have HO_103001 := n0_; have BK102 := n1_; have HB := n2_; clear n0_ n1_ n2_; (try clear hb); (try clear hb2); (try clear hk); (try clear hi)))
       go_meet
       case rel => exact ⟨_, (!t115), (by first | rfl | (simp; done) | (simp [*]; done)), H', ⟨by have := HK1.out; first | omega | exact Nat.le_refl _⟩, ⟨by (with_reducible repeat (first | apply Kd.S_alloc | apply Kd.S_drewN | apply Kd.S_drew)); exact HO_103001.out⟩, ⟨by (with_reducible repeat (first | refine blk_drewN ?_ _ | refine blk_drew ?_ | refine blk_alloc ?_ _)); exact BK102.out⟩, ⟨by repeat (first | (with_reducible first | exact HB.out | apply below_alloc | apply pw_below_drewN | apply below_drew1 | refine below_set ?_ GE102.out) | exact HB.out)⟩⟩
      ·replace c30 := Bool.eq_false_iff.mpr c30
       subst c30
       have H1 : (trishawlaw02_JamAffine.j2 k1 true l0 x103001_1) = some r := by rw [if_neg (show ¬ (false = true) by decide)] at H; exact H
       clear H
       have H := H1
       clear H1
       have H' := Aside0.mk H
       clear H
       have hcz37_0 : wr.cell? ⟨gb102, 0, none⟩ = some (.slice A0 l0.length c0) := (blk_cell BK102.out 0).trans rfl
       have hcz37_1 : wr.cell? ⟨gb102, 1, none⟩ = some (u103001) := (blk_cell BK102.out 1).trans rfl
       have hfz37_0 := blk_frozen BK102.out 0
       have hfz37_1 := blk_frozen BK102.out 1
       obtain ⟨Ao38, co38, eo38⟩ := Kd.S_slice HO_103001.out
       subst eo38
       go_wp2_with (first | ((with_reducible refine gate_callee (f := 24) rfl ?_); refine goesL_ (some 67) rfl rfl Try.func24 (by kernel_rfl) rfl #[.agg #[.slice A0 l0.length c0, .slice Ao38 x103001_1.length co38], .slice none 0 0] rfl (by (try simp only [List.map_toArray, List.map_cons, List.map_nil]); first | done | rfl | (simp only [List.length_drop, List.length_take]; rfl)) ?_; (refine (trishawlaw02_few.calls k1 _ _ l0 _ _ x103001_1 _ _ ([] : List Int) false _ ?side1 ?side2 ?side3 ?side4 ?side5 ?side6 A29.out).mono ?_); (case side1 => repeat (first | exact (Kd.C_below HR0.out HB.out) | (with_reducible refine Kd.C_alloc ?_ _) | (with_reducible refine Kd.C_drewN ?_ _) | (with_reducible refine Kd.C_drew ?_))); (case side2 => exact HC0.out); (case side3 => repeat (first | exact (Kd.S_reads' HO_103001.out).2.2 | (with_reducible refine Kd.C_alloc ?_ _) | (with_reducible refine Kd.C_drewN ?_ _) | (with_reducible refine Kd.C_drew ?_))); (case side4 => exact (Kd.S_reads' HO_103001.out).2.1); (case side5 => exact Kd.C_nil _ _); (case side6 => exact Nat.le_refl _); rintro e w39 ⟨rfl, hb⟩; refine ⟨_, rfl, ?_⟩; have n0_ := Aside0.mk (Kd.S_below (by (with_reducible repeat (first | apply Kd.S_alloc | apply Kd.S_drewN | apply Kd.S_drew)); exact HO_103001.out) hb); have n1_ := Aside0.mk (blk_below (g := gb102) (o := .cells #[.slice A0 l0.length c0, .slice Ao38 x103001_1.length co38] 41 (0, 0)) (by (with_reducible repeat (first | refine blk_drewN ?_ _ | refine blk_drew ?_ | refine blk_alloc ?_ _)); exact BK102.out) hb); have n2_ := Aside0.mk (below_step (by repeat (first | (with_reducible first | exact HB.out | apply below_alloc | apply pw_below_drewN | apply below_drew1 | refine below_set ?_ GE102.out) | exact HB.out)) hb); clear HO_103001; clear BK102; clear HB; have HO_103001 := n0_; have BK102 := n1_; have HB := n2_; clear n0_ n1_ n2_; (try clear hb); (try clear hb2); (try clear hk); (try clear hi)))
       go_meet
       case rel => exact ⟨_, (true), (by first | rfl | (simp; done) | (simp [*]; done)), H', ⟨by have := HK1.out; first | omega | exact Nat.le_refl _⟩, ⟨by (with_reducible repeat (first | apply Kd.S_alloc | apply Kd.S_drewN | apply Kd.S_drew)); exact HO_103001.out⟩, ⟨by (with_reducible repeat (first | refine blk_drewN ?_ _ | refine blk_drew ?_ | refine blk_alloc ?_ _)); exact BK102.out⟩, ⟨by repeat (first | (with_reducible first | exact HB.out | apply below_alloc | apply pw_below_drewN | apply below_drew1 | refine below_set ?_ GE102.out) | exact HB.out)⟩⟩
     case rest =>
      clear HC28
      try clear c1
      try clear p1
      try clear q1
      try clear hx1
      try clear c2
      try clear p2
      try clear c3
      try clear c3b0
      try clear c3b1
      try clear p6
      try clear c8
      try clear c8b0
      try clear c9
      try clear c9b0
      try clear c10
      try clear c10b0
      try clear p10
      try clear q10
      try clear hx10
      try clear c11
      try clear c11b0
      try clear c12
      try clear c12b0
      try clear c13
      try clear c16
      try clear c22
      try clear c24
      try clear c30
      try clear hcz17_0
      try clear hcz17_1
      try clear hcz21_0
      try clear hcz21_1
      try clear hcz23_0
      try clear hcz23_1
      try clear hcz27_0
      try clear hcz27_1
      try clear hcz32_0
      try clear hcz32_1
      try clear hcz35_0
      try clear hcz35_1
      try clear hcz37_0
      try clear hcz37_1
      try clear hcz7_0
      try clear hcz7_1
      try clear hfz17_0
      try clear hfz17_1
      try clear hfz21_0
      try clear hfz21_1
      try clear hfz23_0
      try clear hfz23_1
      try clear hfz27_0
      try clear hfz27_1
      try clear hfz32_0
      try clear hfz32_1
      try clear hfz35_0
      try clear hfz35_1
      try clear hfz37_0
      try clear hfz37_1
      try clear hfz7_0
      try clear hfz7_1
      try clear hx103_0
      try clear hx103_1
      try clear hx104_0
      try clear hx104_1
      try clear p103
      try clear p104
      try clear p2
      try clear q103
      try clear q104
      obtain ⟨kq, x73_27, rfl, HA, HJ27, HO_103001, BK102, HB⟩ := hcut
      cases kq with
      | zero => exact absurd HA.out (by simp [trishawlaw02_JamAffine.j2])
      | succ kj27 =>
       have H := HA.out
       clear HA
       simp only [trishawlaw02_JamAffine.j2] at H
       by_cases c40 : x73_27 = true
       ·subst c40
        have H1 : ((trishawlaw02_alive.f kj27).bind fun t116 => (some t116)) = some r := by rw [if_pos rfl] at H; exact H
        clear H
        have H := H1
        clear H1
        replace H := Option.bind_eq_some_iff.mp H
        obtain ⟨t116, A410, H⟩ := H
        replace H : (some t116) = some r := H
        have A41 := Aside0.mk A410
        clear A410
        obtain rfl := Option.some.inj H
        go_wp2_with (first | ((with_reducible refine gate_callee (f := 16) rfl ?_); refine goesL_ (some 74) rfl rfl Try.func16 (by kernel_rfl) rfl #[] rfl (by (try simp only [List.map_toArray, List.map_cons, List.map_nil]); first | done | rfl | (simp only [List.length_drop, List.length_take]; rfl)) ?_; (with_reducible refine (trishawlaw02_alive.calls kj27  t116 _ A41.out).mono ?_); rintro e w42 ⟨rfl, hb⟩; refine ⟨_, rfl, ?_⟩; have n0_ := Aside0.mk (Kd.S_below (by (with_reducible repeat (first | apply Kd.S_alloc | apply Kd.S_drewN | apply Kd.S_drew)); exact HO_103001.out) hb); have n1_ := Aside0.mk (blk_below (g := gb102) (o := .cells #[.slice A0 l0.length c0, u103001] 41 (0, 0)) (by (with_reducible repeat (first | refine blk_drewN ?_ _ | refine blk_drew ?_ | refine blk_alloc ?_ _)); exact BK102.out) hb); have n2_ := Aside0.mk (below_step (by repeat (first | (with_reducible first | exact HB.out | apply below_alloc | apply pw_below_drewN | apply below_drew1 | refine below_set ?_ GE102.out) | exact HB.out)) hb); clear HO_103001; clear BK102; clear HB; have HO_103001 := n0_; have BK102 := n1_; have HB := n2_; clear n0_ n1_ n2_; (try clear hb); (try clear hb2); (try clear hk); (try clear hi)))
        go_ret
        exact ⟨by first | rfl | (simp [errW_none, errW_some] <;> rfl) | (simp [*, errW_none, errW_some] <;> rfl), by repeat (first | (with_reducible first | exact HB.out | apply below_alloc | apply pw_below_drewN | apply below_drew1 | refine below_set ?_ GE102.out) | exact HB.out)⟩
       ·replace c40 := Bool.eq_false_iff.mpr c40
        subst c40
        have H1 : ((jam_SettledS.f kj27 l0 x103001_1).bind fun bt117 => ((jam_Best.f kj27 l0 x103001_1).bind fun bt121 => (if bt117.2 = 0 then (if bt121.2.2 = 0 then (trishawlaw02_JamAffine.j3 kj27 bt117.1 bt121.2.1 (decide (bt121.2.1 < 0)) l0 x103001_1) else (trishawlaw02_JamAffine.j3 kj27 bt117.1 bt121.2.1 true l0 x103001_1)) else (trishawlaw02_JamAffine.j3 kj27 bt117.1 bt121.2.1 true l0 x103001_1)))) = some r := by rw [if_neg (show ¬ (false = true) by decide)] at H; exact H
        clear H
        have H := H1
        clear H1
        replace H := Option.bind_eq_some_iff.mp H
        obtain ⟨⟨t117, t120⟩, A430, H⟩ := H
        replace H : ((jam_Best.f kj27 l0 x103001_1).bind fun bt121 => (if t120 = 0 then (if bt121.2.2 = 0 then (trishawlaw02_JamAffine.j3 kj27 t117 bt121.2.1 (decide (bt121.2.1 < 0)) l0 x103001_1) else (trishawlaw02_JamAffine.j3 kj27 t117 bt121.2.1 true l0 x103001_1)) else (trishawlaw02_JamAffine.j3 kj27 t117 bt121.2.1 true l0 x103001_1))) = some r := H
        have A43 := Aside0.mk A430
        clear A430
        replace H := Option.bind_eq_some_iff.mp H
        obtain ⟨⟨t121, t124, t125⟩, A440, H⟩ := H
        replace H : (if t120 = 0 then (if t125 = 0 then (trishawlaw02_JamAffine.j3 kj27 t117 t124 (decide (t124 < 0)) l0 x103001_1) else (trishawlaw02_JamAffine.j3 kj27 t117 t124 true l0 x103001_1)) else (trishawlaw02_JamAffine.j3 kj27 t117 t124 true l0 x103001_1)) = some r := H
        have A44 := Aside0.mk A440
        clear A440
        have HC45 := Aside0.mk H
        clear H
        have hcz46_0 : wc.cell? ⟨gb102, 0, none⟩ = some (.slice A0 l0.length c0) := (blk_cell BK102.out 0).trans rfl
        have hcz46_1 : wc.cell? ⟨gb102, 1, none⟩ = some (u103001) := (blk_cell BK102.out 1).trans rfl
        have hfz46_0 := blk_frozen BK102.out 0
        have hfz46_1 := blk_frozen BK102.out 1
        obtain ⟨Ao47, co47, eo47⟩ := Kd.S_slice HO_103001.out
        subst eo47
        go_upto_region 17 with (first | ((with_reducible refine gate_callee (f := 37) rfl ?_); refine goesL_ (some 77) rfl rfl Try.func37 (by kernel_rfl) rfl #[.agg #[.slice A0 l0.length c0, .slice Ao47 x103001_1.length co47]] rfl (by (try simp only [List.map_toArray, List.map_cons, List.map_nil]); first | done | rfl | (simp only [List.length_drop, List.length_take]; rfl)) ?_; (with_reducible refine (jam_SettledS.calls kj27 _ _ l0 _ _ x103001_1 t117 t120 _ ?side1 ?side2 ?side3 ?side4 A43.out).mono ?_); (case side1 => repeat (first | exact (Kd.C_below HR0.out HB.out) | (with_reducible refine Kd.C_alloc ?_ _) | (with_reducible refine Kd.C_drewN ?_ _) | (with_reducible refine Kd.C_drew ?_))); (case side2 => exact HC0.out); (case side3 => repeat (first | exact (Kd.S_reads' HO_103001.out).2.2 | (with_reducible refine Kd.C_alloc ?_ _) | (with_reducible refine Kd.C_drewN ?_ _) | (with_reducible refine Kd.C_drew ?_))); (case side4 => exact (Kd.S_reads' HO_103001.out).2.1); rintro e w48 ⟨v118, rfl, ho0, hb⟩; refine ⟨_, rfl, ?_⟩; have n0_ := Aside0.mk (Kd.S_elder' (by (with_reducible repeat (first | apply Kd.S_alloc | apply Kd.S_drewN | apply Kd.S_drew)); exact HO_103001.out) (Kd.S_base ho0) hb); have n1_ := Aside0.mk (Kd.S_lower (Kd.S_new' ho0 (Kd.S_lt (by (with_reducible repeat (first | apply Kd.S_alloc | apply Kd.S_drewN | apply Kd.S_drew)); exact HO_103001.out))) (below_size (by repeat (first | (with_reducible first | exact HB.out | apply below_alloc | apply pw_below_drewN | apply below_drew1 | refine below_set ?_ GE102.out) | exact HB.out)))); have n2_ := Aside0.mk (blk_below (g := gb102) (o := .cells #[.slice A0 l0.length c0, .slice Ao47 x103001_1.length co47] 41 (0, 0)) (by (with_reducible repeat (first | refine blk_drewN ?_ _ | refine blk_drew ?_ | refine blk_alloc ?_ _)); exact BK102.out) hb); have n3_ := Aside0.mk (below_step (by repeat (first | (with_reducible first | exact HB.out | apply below_alloc | apply pw_below_drewN | apply below_drew1 | refine below_set ?_ GE102.out) | exact HB.out)) hb); clear HO_103001; clear BK102; clear HB; have HO_103001 := n0_; have HO119 := n1_; have BK102 := n2_; have HB := n3_; clear n0_ n1_ n2_ n3_; (try clear hb); (try clear hb2); (try clear hk); (try clear hi); (try clear ho0); have hcz49_0 : w48.cell? ⟨gb102, 0, none⟩ = some (.slice A0 l0.length c0) := (blk_cell BK102.out 0).trans rfl; have hcz49_1 : w48.cell? ⟨gb102, 1, none⟩ = some (.slice Ao47 x103001_1.length co47) := (blk_cell BK102.out 1).trans rfl; have hfz49_0 := blk_frozen BK102.out 0; have hfz49_1 := blk_frozen BK102.out 1) | ((with_reducible refine gate_callee (f := 27) rfl ?_); refine goesL_ (some 82) rfl rfl Try.func27 (by kernel_rfl) rfl #[.agg #[.slice A0 l0.length c0, .slice Ao47 x103001_1.length co47]] rfl (by (try simp only [List.map_toArray, List.map_cons, List.map_nil]); first | done | rfl | (simp only [List.length_drop, List.length_take]; rfl)) ?_; (with_reducible refine (jam_Best.calls kj27 _ _ l0 _ _ x103001_1 t121 t124 t125 _ ?side1 ?side2 ?side3 ?side4 A44.out).mono ?_); (case side1 => repeat (first | exact (Kd.C_below HR0.out HB.out) | (with_reducible refine Kd.C_alloc ?_ _) | (with_reducible refine Kd.C_drewN ?_ _) | (with_reducible refine Kd.C_drew ?_))); (case side2 => exact HC0.out); (case side3 => repeat (first | exact (Kd.S_reads' HO_103001.out).2.2 | (with_reducible refine Kd.C_alloc ?_ _) | (with_reducible refine Kd.C_drewN ?_ _) | (with_reducible refine Kd.C_drew ?_))); (case side4 => exact (Kd.S_reads' HO_103001.out).2.1); rintro e w50 ⟨v122, rfl, ho0, hb⟩; refine ⟨_, rfl, ?_⟩; have n0_ := Aside0.mk (Kd.S_elder' (by (with_reducible repeat (first | apply Kd.S_alloc | apply Kd.S_drewN | apply Kd.S_drew)); exact HO_103001.out) (Kd.R_base ho0) hb); have n1_ := Aside0.mk (Kd.S_elder' (by (with_reducible repeat (first | apply Kd.S_alloc | apply Kd.S_drewN | apply Kd.S_drew)); exact HO119.out) (Kd.R_base ho0) hb); have n2_ := Aside0.mk (Kd.R_lower ho0 (below_size (by repeat (first | (with_reducible first | exact HB.out | apply below_alloc | apply pw_below_drewN | apply below_drew1 | refine below_set ?_ GE102.out) | exact HB.out)))); have n3_ := Aside0.mk (blk_below (g := gb102) (o := .cells #[.slice A0 l0.length c0, .slice Ao47 x103001_1.length co47] 41 (0, 0)) (by (with_reducible repeat (first | refine blk_drewN ?_ _ | refine blk_drew ?_ | refine blk_alloc ?_ _)); exact BK102.out) hb); have n4_ := Aside0.mk (below_step (by repeat (first | (with_reducible first | exact HB.out | apply below_alloc | apply pw_below_drewN | apply below_drew1 | refine below_set ?_ GE102.out) | exact HB.out)) hb); clear HO_103001; clear HO119; clear BK102; clear HB; have HO_103001 := n0_; have HO119 := n1_; have HO123 := n2_; have BK102 := n3_; have HB := n4_; clear n0_ n1_ n2_ n3_ n4_; (try clear hb); (try clear hb2); (try clear hk); (try clear hi); (try clear ho0)))
        (try simp only [Act.put, List.setIfInBounds_toArray, List.set_cons_zero, List.set_cons_succ])
        go_cut [95] (fun v95 wc => ∃ (kq : Nat) (x95_44 : Bool), v95 = .bool x95_44 ∧ Aside0 (trishawlaw02_JamAffine.j3 kq t117 t124 x95_44 l0 x103001_1 = some r) ∧ Aside0 (kq ≤ kj27) ∧ Aside0 (Kd.S (Kd.slice 3 (Kd.int .i64)) 24 wc w.heap.size (fun k_ => some k_ ≠ ((.slice Ao47 x103001_1.length co47) : Value).ownBlock) v118 t117) ∧ Aside0 (Kd.S (Kd.slice 3 (Kd.int .i64)) 24 wc w.heap.size (fun k_ => some k_ ≠ (v118 : Value).ownBlock) (.slice Ao47 x103001_1.length co47) x103001_1) ∧ Aside0 (wc.heap[gb102]? = some (.cells #[(.slice A0 l0.length c0), (.slice Ao47 x103001_1.length co47)] 41 (0, 0))) ∧ Aside0 (Below w.heap.size w wc))
        case first =>
         have H := HC45.out
         clear HC45
         by_cases c51 : t120 = 0
         ·rw [if_pos c51] at H
          have c51b0 : (t120 == 0) = true := beq_iff_eq.mpr c51
          have c51b1 : (t120 != 0) = false := bne_eq_false_iff_eq.mpr c51
          clear c51
          (first | rw [c51b0] | (simp only [i64_w, i32_w]; rw [c51b0]) | skip)
          by_cases c52 : t125 = 0
          ·rw [if_pos c52] at H
           have c52b0 : (t125 == 0) = true := beq_iff_eq.mpr c52
           have c52b1 : (t125 != 0) = false := bne_eq_false_iff_eq.mpr c52
           clear c52
           have H' := Aside0.mk H
           clear H
           go_wp2
           go_meet
           case rel => exact ⟨_, (decide (t124 < 0)), (by first | rfl | (simp; done) | (simp [*]; done)), H', ⟨by have := HK1.out; have := HJ27.out; first | omega | exact Nat.le_refl _⟩, ⟨by (with_reducible repeat (first | apply Kd.S_alloc | apply Kd.S_drewN | apply Kd.S_drew)); exact Kd.S_mono HO119.out (fun _ hk => hk.1.2)⟩, ⟨by (with_reducible repeat (first | apply Kd.S_alloc | apply Kd.S_drewN | apply Kd.S_drew)); exact Kd.S_mono HO_103001.out (fun _ hk => hk.1.2)⟩, ⟨by (with_reducible repeat (first | refine blk_drewN ?_ _ | refine blk_drew ?_ | refine blk_alloc ?_ _)); exact BK102.out⟩, ⟨by repeat (first | (with_reducible first | exact HB.out | apply below_alloc | apply pw_below_drewN | apply below_drew1 | refine below_set ?_ GE102.out) | exact HB.out)⟩⟩
          ·rw [if_neg c52] at H
           have c52b0 : (t125 == 0) = false := beq_eq_false_iff_ne.mpr c52
           have c52b1 : (t125 != 0) = true := bne_iff_ne.mpr c52
           exact absurd ((trishawlaw02_JamAffine.j3_no _ _ _ _ _ _ H).symm.trans HRT.out) (by decide)
         ·rw [if_neg c51] at H
          have c51b0 : (t120 == 0) = false := beq_eq_false_iff_ne.mpr c51
          have c51b1 : (t120 != 0) = true := bne_iff_ne.mpr c51
          (first | rw [c51b0] | (simp only [i64_w, i32_w]; rw [c51b0]) | skip)
          exact absurd ((trishawlaw02_JamAffine.j3_no _ _ _ _ _ _ H).symm.trans HRT.out) (by decide)
        case rest =>
         clear HC45
         try clear c1
         try clear p1
         try clear q1
         try clear hx1
         try clear c2
         try clear p2
         try clear c3
         try clear c3b0
         try clear c3b1
         try clear c4
         try clear c5
         try clear p6
         try clear c8
         try clear c8b0
         try clear c9
         try clear c9b0
         try clear c10
         try clear c10b0
         try clear p10
         try clear q10
         try clear hx10
         try clear c11
         try clear c11b0
         try clear c12
         try clear c12b0
         try clear c13
         try clear c16
         try clear c22
         try clear c24
         try clear c27
         try clear c30
         try clear c37
         try clear c40
         try clear c51
         try clear c51b0
         try clear c51b1
         try clear c52
         try clear c52b0
         try clear c52b1
         try clear hcz17_0
         try clear hcz17_1
         try clear hcz21_0
         try clear hcz21_1
         try clear hcz23_0
         try clear hcz23_1
         try clear hcz27_0
         try clear hcz27_1
         try clear hcz32_0
         try clear hcz32_1
         try clear hcz35_0
         try clear hcz35_1
         try clear hcz37_0
         try clear hcz37_1
         try clear hcz46_0
         try clear hcz46_1
         try clear hcz49_0
         try clear hcz49_1
         try clear hcz7_0
         try clear hcz7_1
         try clear hfz17_0
         try clear hfz17_1
         try clear hfz21_0
         try clear hfz21_1
         try clear hfz23_0
         try clear hfz23_1
         try clear hfz27_0
         try clear hfz27_1
         try clear hfz32_0
         try clear hfz32_1
         try clear hfz35_0
         try clear hfz35_1
         try clear hfz37_0
         try clear hfz37_1
         try clear hfz46_0
         try clear hfz46_1
         try clear hfz49_0
         try clear hfz49_1
         try clear hfz7_0
         try clear hfz7_1
         try clear hx103_0
         try clear hx103_1
         try clear hx104_0
         try clear hx104_1
         try clear p1
         try clear p10
         try clear p103
         try clear p104
         try clear p2
         try clear p6
         try clear q1
         try clear q10
         try clear q103
         try clear q104
         obtain ⟨kq, x95_44, rfl, HA, HJ44, HO_9, HO_103001, BK102, HB⟩ := hcut
         cases kq with
         | zero => exact absurd HA.out (by simp [trishawlaw02_JamAffine.j3])
         | succ kj44 =>
          have H := HA.out
          clear HA
          simp only [trishawlaw02_JamAffine.j3] at H
          by_cases c53 : x95_44 = true
          ·subst c53
           have H1 : (some false) = some r := by rw [if_pos rfl] at H; exact H
           exact absurd ((Option.some.inj H1).trans HRT.out) (by decide)
          ·replace c53 := Bool.eq_false_iff.mpr c53
           subst c53
           have H1 : (trishawlaw02_JamAffine.l2 kj44 t117 t124 0 l0 x103001_1) = some r := by rw [if_neg (show ¬ (false = true) by decide)] at H; exact H
           clear H
           have H := H1
           clear H1
           have H' := Aside0.mk H
           clear H
           go_wp2
           go_loopg [14] kj44 (fun kq v14 w' => ∃ (x14_4 : Int), v14 = .int .i64 x14_4 ∧ Aside0 (trishawlaw02_JamAffine.l2 kq t117 t124 x14_4 l0 x103001_1 = some r) ∧ Aside0 (kq ≤ kj44) ∧ Aside0 (Kd.S (Kd.slice 3 (Kd.int .i64)) 24 w' w.heap.size (fun k_ => some k_ ≠ ((.slice Ao47 x103001_1.length co47) : Value).ownBlock) v118 t117) ∧ Aside0 (Kd.S (Kd.slice 3 (Kd.int .i64)) 24 w' w.heap.size (fun k_ => some k_ ≠ (v118 : Value).ownBlock) (.slice Ao47 x103001_1.length co47) x103001_1) ∧ Aside0 (w'.heap[gb102]? = some (.cells #[(.slice A0 l0.length c0), (.slice Ao47 x103001_1.length co47)] 41 (0, 0))) ∧ Aside0 (Below w.heap.size w w'))
           case atStart => exact ⟨(0), (by first | rfl | (simp; done) | (simp [*]; done)), H', ⟨Nat.le_refl _⟩, ⟨by (with_reducible repeat (first | apply Kd.S_alloc | apply Kd.S_drewN | apply Kd.S_drew)); exact HO_9.out⟩, ⟨by (with_reducible repeat (first | apply Kd.S_alloc | apply Kd.S_drewN | apply Kd.S_drew)); exact HO_103001.out⟩, ⟨by (with_reducible repeat (first | refine blk_drewN ?_ _ | refine blk_drew ?_ | refine blk_alloc ?_ _)); exact BK102.out⟩, ⟨by repeat (first | (with_reducible first | exact HB.out | apply below_alloc | apply pw_below_drewN | apply below_drew1 | refine below_set ?_ GE102.out) | exact HB.out)⟩⟩
           case round =>
            clear H'
            try clear c1
            try clear p1
            try clear q1
            try clear hx1
            try clear c2
            try clear p2
            try clear c3
            try clear c3b0
            try clear c3b1
            try clear c4
            try clear c5
            try clear p6
            try clear c8
            try clear c8b0
            try clear c9
            try clear c9b0
            try clear c10
            try clear c10b0
            try clear p10
            try clear q10
            try clear hx10
            try clear c11
            try clear c11b0
            try clear c12
            try clear c12b0
            try clear c13
            try clear c16
            try clear c22
            try clear c24
            try clear c27
            try clear c30
            try clear c37
            try clear c40
            try clear c51
            try clear c51b0
            try clear c51b1
            try clear c52
            try clear c52b0
            try clear c52b1
            try clear c53
            try clear hcz17_0
            try clear hcz17_1
            try clear hcz21_0
            try clear hcz21_1
            try clear hcz23_0
            try clear hcz23_1
            try clear hcz27_0
            try clear hcz27_1
            try clear hcz32_0
            try clear hcz32_1
            try clear hcz35_0
            try clear hcz35_1
            try clear hcz37_0
            try clear hcz37_1
            try clear hcz46_0
            try clear hcz46_1
            try clear hcz49_0
            try clear hcz49_1
            try clear hcz7_0
            try clear hcz7_1
            try clear hfz17_0
            try clear hfz17_1
            try clear hfz21_0
            try clear hfz21_1
            try clear hfz23_0
            try clear hfz23_1
            try clear hfz27_0
            try clear hfz27_1
            try clear hfz32_0
            try clear hfz32_1
            try clear hfz35_0
            try clear hfz35_1
            try clear hfz37_0
            try clear hfz37_1
            try clear hfz46_0
            try clear hfz46_1
            try clear hfz49_0
            try clear hfz49_1
            try clear hfz7_0
            try clear hfz7_1
            try clear hx103_0
            try clear hx103_1
            try clear hx104_0
            try clear hx104_1
            try clear p1
            try clear p10
            try clear p103
            try clear p104
            try clear p2
            try clear p6
            try clear q1
            try clear q10
            try clear q103
            try clear q104
            obtain ⟨x14_4, rfl, HA, HK4, HO_9, HO_103001, BK102, HB⟩ := hrel
            cases gk with
            | zero => exact absurd HA.out (by simp [trishawlaw02_JamAffine.l2])
            | succ k4 =>
             have H := HA.out
             clear HA
             simp only [trishawlaw02_JamAffine.l2] at H
             by_cases c54 : x14_4 < (t117.length : Int)
             ·rw [if_pos c54] at H
              have c54b0 : decide (x14_4 < (t117.length : Int)) = true := decide_eq_true c54
              clear c54
              by_cases c55 : 0 ≤ x14_4
              ·rw [if_pos c55] at H
               have c55b0 : decide (0 ≤ x14_4) = true := decide_eq_true c55
               clear c55
               replace H := Option.bind_eq_some_iff.mp H
               obtain ⟨⟨t127, t130, t131⟩, A560, H⟩ := H
               replace H : (if t131 = 0 then (if (wrap64 (2 * t130)) > (wrap64 (5 * t124)) then (some false) else (if t130 < t124 then (some false) else (trishawlaw02_JamAffine.l2 k4 t117 t124 (wrap64 (x14_4 + 1)) l0 x103001_1))) else (some false)) = some r := H
               have A56 := Aside0.mk A560
               clear A560
               by_cases c57 : t131 = 0
               ·rw [if_pos c57] at H
                have c57b0 : (t131 == 0) = true := beq_iff_eq.mpr c57
                have c57b1 : (t131 != 0) = false := bne_eq_false_iff_eq.mpr c57
                clear c57
                by_cases c58 : (wrap64 (2 * t130)) > (wrap64 (5 * t124))
                ·rw [if_pos c58] at H
                 have c58b0 : decide ((wrap64 (5 * t124)) < (wrap64 (2 * t130))) = true := decide_eq_true c58
                 clear c58
                 exact absurd ((Option.some.inj H).trans HRT.out) (by decide)
                ·rw [if_neg c58] at H
                 have c58b0 : decide ((wrap64 (5 * t124)) < (wrap64 (2 * t130))) = false := decide_eq_false c58
                 clear c58
                 by_cases c62 : t130 < t124
                 ·rw [if_pos c62] at H
                  have c62b0 : decide (t130 < t124) = true := decide_eq_true c62
                  clear c62
                  exact absurd ((Option.some.inj H).trans HRT.out) (by decide)
                 ·rw [if_neg c62] at H
                  have c62b0 : decide (t130 < t124) = false := decide_eq_false c62
                  clear c62
                  have H' := Aside0.mk H
                  clear H
                  obtain ⟨Ao66, co66, eo66⟩ := Kd.S_slice HO_9.out
                  subst eo66
                  try go_wp2
                  have n0_ := Aside0.mk (Kd.S_drew HO_9.out)
                  have n1_ := Aside0.mk (Kd.S_drew HO_103001.out)
                  have n2_ := Aside0.mk (blk_drew BK102.out)
                  have n3_ := Aside0.mk (below_drew1 HB.out)
                  clear HO_9
                  clear HO_103001
                  clear BK102
                  clear HB
                  have HO_9 := n0_
                  have HO_103001 := n1_
                  have BK102 := n2_
                  have HB := n3_
                  clear n0_ n1_ n2_ n3_
                  have p126 : 0 ≤ (x14_4 : Int) := of_decide_eq_true (by first | (with_reducible assumption) | assumption)
                  have q126 : x14_4 < (t117.length : Int) := of_decide_eq_true (by first | (with_reducible assumption) | assumption)
                  obtain ⟨ad126, A126_0, c126_0, e126, hx126_0, hl126_0, hi126_0⟩ := at_L12 (Kd.S_reads' HO_9.out).2.2 x14_4 p126 q126
                  cases e126
                  obtain ⟨ce126, hce126, hMe126, hcc126⟩ := Kd.S_get HO_9.out [] x14_4 p126 (by first | exact q126 | exact of_decide_eq_true (by first | (with_reducible assumption) | assumption) | (have e_ := (Kd.S_reads' HO_9.out).1; omega))
                  obtain ⟨ve126_0, rfl, ge126_0⟩ := hMe126
                  have hv126_0 := hcc126 0 _ rfl
                  rw [Nat.add_zero, show ((Kd.slice 3 (Kd.int .i64))).sz = 1 from rfl, Nat.mul_one] at hv126_0
                  replace hv126_0 := Option.some.inj (hv126_0.symm.trans hx126_0)
                  rw [hv126_0] at ge126_0
                  have HL126_0 := Aside0.mk (show Kd.R (Kd.int .i64) 3 _ _ _ _ (rd_L12 t117 x14_4) from ge126_0)
                  clear hv126_0 ge126_0
                  clear hcc126 hce126
                  have HR126_0 := Aside0.mk hi126_0
                  have HC126_0 := Aside0.mk hl126_0
                  clear hi126_0 hl126_0
                  replace p126 := eq_true p126
                  replace q126 := eq_true q126
                  refine start_ (n := 13) (S := fun w' => w'.cell? ⟨gb102, 0, none⟩ = some (.slice A0 l0.length c0) ∧ w'.cell? ⟨gb102, 1, none⟩ = some (.slice Ao47 x103001_1.length co47) ∧ w'.cell? (ad126.add (x14_4).toNat) = some (.slice A126_0 (rd_L12 t117 x14_4).length c126_0)) (ds := []) #[false, false, false, false, false, false, false, false, false, false, false, false, false] (by kernel_rfl) rfl rfl ⟨(blk_cell BK102.out 0).trans rfl, (blk_cell BK102.out 1).trans rfl, hx126_0⟩ (fun hHeld => ?_); refine with_tabW trishawlaw02_JamAffine.tab22 trishawlaw02_JamAffine.bits22 (fun HT_ HW_ => ?_)
                  generalize wr.drew = w67 at HO_9 HO_103001 BK102 HB HL126_0 HR126_0 hx126_0 hHeld ⊢
                  refine pure_ (i := 1) (N := some 104) (v := ?_) (a' := ?_) #[false, true, false, false, false, false, false, false, false, false, false, false, false] rfl rfl (any_of HT_.out (by kernel_rfl)) (fun _ _ _ h => h) (Or.inl ⟨by rfl, ?_⟩) ?_ ?_
                  rotate_left
                  ·intro w'
                   go_simp
                   with_reducible rfl
                  rotate_left
                  ·simp only [Act.put, List.setIfInBounds_toArray, List.set_cons_zero, List.set_cons_succ, i64_w, i32_w]
                   rfl
                  refine pure_ (i := 2) (N := some 105) (v := ?_) (a' := ?_) #[false, true, true, false, false, false, false, false, false, false, false, false, false] rfl rfl (any_of HT_.out (by kernel_rfl)) (fun _ _ _ h => h) (Or.inl ⟨by rfl, ?_⟩) ?_ ?_
                  rotate_left
                  ·intro w'
                   go_simp
                   with_reducible rfl
                  rotate_left
                  ·simp only [Act.put, List.setIfInBounds_toArray, List.set_cons_zero, List.set_cons_succ, i64_w, i32_w]
                   rfl
                  refine pure_ (i := 3) (N := some 106) (v := ?_) (a' := ?_) #[false, true, true, true, false, false, false, false, false, false, false, false, false] rfl rfl (any_of HT_.out (by kernel_rfl)) (fun _ _ _ h => h) (Or.inl ⟨by rfl, ?_⟩) ?_ ?_
                  rotate_left
                  ·intro w'
                   go_simp
                   with_reducible rfl
                  rotate_left
                  ·simp only [Act.put, List.setIfInBounds_toArray, List.set_cons_zero, List.set_cons_succ, i64_w, i32_w]
                   rfl
                  refine take_ (i := 0) (N := some 103) (v := ?_) (a' := ?_) #[true, true, true, true, false, false, false, false, false, false, false, false, false] rfl rfl (take_ofW HT_.out HW_.out (by kernel_rfl)) (fun _ _ _ h => h) (Or.inl ⟨by rfl, ?_⟩) hHeld ?_ ?_
                  rotate_left
                  ·rintro w' ⟨s0, s1, s2⟩
                   go_simp
                   with_reducible rfl
                  rotate_left
                  ·simp only [Act.put, List.setIfInBounds_toArray, List.set_cons_zero, List.set_cons_succ, i64_w, i32_w]
                   rfl
                  refine take_ (i := 4) (N := some 107) (v := ?_) (a' := ?_) #[true, true, true, true, true, false, false, false, false, false, false, false, false] rfl rfl (take_ofW HT_.out HW_.out (by kernel_rfl)) (fun _ _ _ h => h) (Or.inl ⟨by rfl, ?_⟩) hHeld ?_ ?_
                  rotate_left
                  ·rintro w' ⟨s0, s1, s2⟩
                   go_simp
                   with_reducible rfl
                  rotate_left
                  ·simp only [Act.put, List.setIfInBounds_toArray, List.set_cons_zero, List.set_cons_succ, i64_w, i32_w]
                   rfl
                  refine one_ (i := 5) (N := some 108) #[true, true, true, true, true, true, false, false, false, false, false, false, false] rfl rfl (one_of HT_.out (by kernel_rfl)) (by decide) (fun K hK => ?_)
                  refine goes_ Try.func28 (by kernel_rfl) rfl #[.agg #[.slice A0 l0.length c0, .slice Ao47 x103001_1.length co47], .slice A126_0 (rd_L12 t117 x14_4).length c126_0] (by rfl) rfl rfl (by (try simp only [List.map_toArray, List.map_cons, List.map_nil]); first | done | rfl | (simp only [List.length_drop, List.length_take]; rfl)) ?_
                  with_reducible refine (jam_Costs.calls k4 _ _ l0 _ _ x103001_1 _ _ (rd_L12 t117 x14_4) t127 t130 t131 _ ?side1 ?side2 ?side3 ?side4 ?side5 ?side6 A56.out).mono ?_
                  (case side1 => repeat (first | exact (Kd.C_below HR0.out HB.out) | (with_reducible refine Kd.C_alloc ?_ _) | (with_reducible refine Kd.C_drewN ?_ _) | (with_reducible refine Kd.C_drew ?_)))
                  (case side2 => exact HC0.out)
                  (case side3 => repeat (first | exact (Kd.S_reads' HO_103001.out).2.2 | (with_reducible refine Kd.C_alloc ?_ _) | (with_reducible refine Kd.C_drewN ?_ _) | (with_reducible refine Kd.C_drew ?_)))
                  (case side4 => exact (Kd.S_reads' HO_103001.out).2.1)
                  (case side5 => repeat (first | exact (by repeat (first | (with_reducible exact HR126_0.out) | (with_reducible refine Kd.C_alloc ?_ _) | (with_reducible refine Kd.C_drewN ?_ _) | (with_reducible refine Kd.C_drew ?_) | exact HR126_0.out)) | (with_reducible refine Kd.C_alloc ?_ _) | (with_reducible refine Kd.C_drewN ?_ _) | (with_reducible refine Kd.C_drew ?_)))
                  (case side6 => exact HC126_0.out)
                  rintro e w68 ⟨v128, rfl, ho0, hb⟩
                  have HS2_ := (hb.cell (World.block_lt_of_cell? _ _ (hHeld.2.2))).trans (hHeld.2.2)
                  refine ⟨_, rfl, ?_⟩
                  have n0_ := Aside0.mk (Kd.S_elder' (by (with_reducible repeat (first | apply Kd.S_alloc | apply Kd.S_drewN | apply Kd.S_drew)); exact HO_9.out) (Kd.R_base ho0) hb)
                  have n1_ := Aside0.mk (Kd.S_elder' (by (with_reducible repeat (first | apply Kd.S_alloc | apply Kd.S_drewN | apply Kd.S_drew)); exact HO_103001.out) (Kd.R_base ho0) hb)
                  have n2_ := Aside0.mk (Kd.R_elder' (by (with_reducible repeat (first | apply Kd.R_alloc | apply Kd.R_drewN | apply Kd.R_drew)); exact HL126_0.out) (Kd.R_base ho0) hb)
                  have n3_ := Aside0.mk (Kd.R_lower (Kd.R_new' ho0 (Kd.R_lt (by (with_reducible repeat (first | apply Kd.R_alloc | apply Kd.R_drewN | apply Kd.R_drew)); exact HL126_0.out))) (below_size (by repeat (first | (with_reducible first | exact HB.out | apply below_alloc | apply pw_below_drewN | apply below_drew1 | refine below_set ?_ GE102.out) | exact HB.out))))
                  have n4_ := Aside0.mk (blk_below (g := gb102) (o := .cells #[.slice A0 l0.length c0, .slice Ao47 x103001_1.length co47] 41 (0, 0)) (by (with_reducible repeat (first | refine blk_drewN ?_ _ | refine blk_drew ?_ | refine blk_alloc ?_ _)); exact BK102.out) hb)
                  have n5_ := Aside0.mk (Kd.C_below (by repeat (first | (with_reducible exact HR126_0.out) | (with_reducible refine Kd.C_alloc ?_ _) | (with_reducible refine Kd.C_drewN ?_ _) | (with_reducible refine Kd.C_drew ?_) | exact HR126_0.out)) hb)
                  have n6_ := Aside0.mk (below_step (by repeat (first | (with_reducible first | exact HB.out | apply below_alloc | apply pw_below_drewN | apply below_drew1 | refine below_set ?_ GE102.out) | exact HB.out)) hb)
                  clear HO_9
                  clear HO_103001
                  clear HL126_0
                  clear BK102
                  clear HR126_0
                  clear HB
                  have HO_9 := n0_
                  have HO_103001 := n1_
                  have HL126_0 := n2_
                  have HO129 := n3_
                  have BK102 := n4_
                  have HR126_0 := n5_
                  have HB := n6_
                  clear n0_ n1_ n2_ n3_ n4_ n5_ n6_
                  (try clear hb)
                  (try clear hb2)
                  (try clear hk)
                  (try clear hi)
                  (try clear ho0)
                  refine hK.out _ _ ⟨(blk_cell BK102.out 0).trans rfl, (blk_cell BK102.out 1).trans rfl, HS2_⟩ (fun hHeld => ?_)
                  clear hK K
                  refine norm_ (a' := ?_) ?_ ?_
                  rotate_left
                  ·show Act.put _ (some 108) _ = _
                   simp only [Act.put, List.setIfInBounds_toArray, List.set_cons_zero, List.set_cons_succ, i64_w, i32_w]
                   rfl
                  refine pure_ (i := 6) (N := some 102) (v := ?_) (a' := ?_) #[true, true, true, true, true, true, true, false, false, false, false, false, false] rfl rfl (any_of HT_.out (by kernel_rfl)) (fun _ _ _ h => h) (Or.inl ⟨by rfl, ?_⟩) ?_ ?_
                  rotate_left
                  ·intro w'
                   go_simp
                   with_reducible rfl
                  rotate_left
                  ·simp only [Act.put, List.setIfInBounds_toArray, List.set_cons_zero, List.set_cons_succ, i64_w, i32_w]
                   rfl
                  refine pure_ (i := 7) (N := some 109) (v := ?_) (a' := ?_) #[true, true, true, true, true, true, true, true, false, false, false, false, false] rfl rfl (any_of HT_.out (by kernel_rfl)) (fun _ _ _ h => h) (Or.inl ⟨by rfl, ?_⟩) ?_ ?_
                  rotate_left
                  ·intro w'
                   go_simp
                   with_reducible rfl
                  rotate_left
                  ·simp only [Act.put, List.setIfInBounds_toArray, List.set_cons_zero, List.set_cons_succ, i64_w, i32_w]
                   rfl
                  refine pure_ (i := 8) (N := some 110) (v := ?_) (a' := ?_) #[true, true, true, true, true, true, true, true, true, false, false, false, false] rfl rfl (any_of HT_.out (by kernel_rfl)) (fun _ _ _ h => h) (Or.inl ⟨by rfl, ?_⟩) ?_ ?_
                  rotate_left
                  ·intro w'
                   go_simp
                   with_reducible rfl
                  rotate_left
                  ·simp only [Act.put, List.setIfInBounds_toArray, List.set_cons_zero, List.set_cons_succ, i64_w, i32_w]
                   rfl
                  refine pure_ (i := 9) (N := some 111) (v := ?_) (a' := ?_) #[true, true, true, true, true, true, true, true, true, true, false, false, false] rfl rfl (any_of HT_.out (by kernel_rfl)) (fun _ _ _ h => h) (Or.inl ⟨by rfl, ?_⟩) ?_ ?_
                  rotate_left
                  ·intro w'
                   go_simp
                   with_reducible rfl
                  rotate_left
                  ·simp only [Act.put, List.setIfInBounds_toArray, List.set_cons_zero, List.set_cons_succ, i64_w, i32_w]
                   rfl
                  refine pure_ (i := 10) (N := some 15) (v := ?_) (a' := ?_) #[true, true, true, true, true, true, true, true, true, true, true, false, false] rfl rfl (any_of HT_.out (by kernel_rfl)) (fun _ _ _ h => h) (Or.inl ⟨by rfl, ?_⟩) ?_ ?_
                  rotate_left
                  ·intro w'
                   go_simp
                   with_reducible rfl
                  rotate_left
                  ·simp only [Act.put, List.setIfInBounds_toArray, List.set_cons_zero, List.set_cons_succ, i64_w, i32_w]
                   rfl
                  refine pure_ (i := 11) (N := some 16) (v := ?_) (a' := ?_) #[true, true, true, true, true, true, true, true, true, true, true, true, false] rfl rfl (any_of HT_.out (by kernel_rfl)) (fun _ _ _ h => h) (Or.inl ⟨by rfl, ?_⟩) ?_ ?_
                  rotate_left
                  ·intro w'
                   go_simp
                   with_reducible rfl
                  rotate_left
                  ·simp only [Act.put, List.setIfInBounds_toArray, List.set_cons_zero, List.set_cons_succ, i64_w, i32_w]
                   rfl
                  refine pure_ (i := 12) (N := some 17) (v := ?_) (a' := ?_) #[true, true, true, true, true, true, true, true, true, true, true, true, true] rfl rfl (any_of HT_.out (by kernel_rfl)) (fun _ _ _ h => h) (Or.inl ⟨by rfl, ?_⟩) ?_ ?_
                  rotate_left
                  ·intro w'
                   go_simp
                   with_reducible rfl
                  rotate_left
                  ·simp only [Act.put, List.setIfInBounds_toArray, List.set_cons_zero, List.set_cons_succ, i64_w, i32_w]
                   rfl
                  refine done_ (done_of HT_.out (by kernel_rfl)) ?_
                  try go_wp2
                  go_roundg k4
                  case measure => have := HK1.out; have := HJ27.out; have := HJ44.out; have := HK4.out; omega
                  case rel => exact ⟨(wrap64 (x14_4 + 1)), (by first | rfl | (simp; done) | (simp [*]; done)), H', ⟨by have := HK1.out; have := HJ27.out; have := HJ44.out; have := HK4.out; omega⟩, ⟨by (with_reducible repeat (first | apply Kd.S_alloc | apply Kd.S_drewN | apply Kd.S_drew)); exact Kd.S_mono HO_9.out (fun _ hk => hk.1)⟩, ⟨by (with_reducible repeat (first | apply Kd.S_alloc | apply Kd.S_drewN | apply Kd.S_drew)); exact Kd.S_mono HO_103001.out (fun _ hk => hk.1)⟩, ⟨by (with_reducible repeat (first | refine blk_drewN ?_ _ | refine blk_drew ?_ | refine blk_alloc ?_ _)); exact BK102.out⟩, ⟨by repeat (first | (with_reducible first | exact HB.out | apply below_alloc | apply pw_below_drewN | apply below_drew1 | refine below_set ?_ GE102.out) | exact HB.out)⟩⟩
               ·rw [if_neg c57] at H
                have c57b0 : (t131 == 0) = false := beq_eq_false_iff_ne.mpr c57
                have c57b1 : (t131 != 0) = true := bne_iff_ne.mpr c57
                exact absurd ((Option.some.inj H).trans HRT.out) (by decide)
              ·rw [if_neg c55] at H
               exact absurd H (by simp)
             ·rw [if_neg c54] at H
              have c54b0 : decide (x14_4 < (t117.length : Int)) = false := decide_eq_false c54
              clear c54
              by_cases c72 : (t117.length : Int) > 0
              ·rw [if_pos c72] at H
               have c72b0 : decide (0 < (t117.length : Int)) = true := decide_eq_true c72
               have c72b1 : decide (0 < t117.length) = true := decide_eq_true (by omega)
               clear c72
               replace H := Option.bind_eq_some_iff.mp H
               obtain ⟨t132, A730, H⟩ := H
               replace H : (some t132) = some r := H
               have A73 := Aside0.mk A730
               clear A730
               obtain rfl := Option.some.inj H
               obtain ⟨Ao74, co74, eo74⟩ := Kd.S_slice HO_9.out
               subst eo74
               go_wp2_with (first | (go_at_call 16; (with_reducible refine (trishawlaw02_alive.calls k4  t132 _ A73.out).mono ?_); rintro e w75 ⟨rfl, hb⟩; have n0_ := Aside0.mk (Kd.S_below (by (with_reducible repeat (first | apply Kd.S_alloc | apply Kd.S_drewN | apply Kd.S_drew)); exact HO_9.out) hb); have n1_ := Aside0.mk (Kd.S_below (by (with_reducible repeat (first | apply Kd.S_alloc | apply Kd.S_drewN | apply Kd.S_drew)); exact HO_103001.out) hb); have n2_ := Aside0.mk (blk_below (g := gb102) (o := .cells #[.slice A0 l0.length c0, .slice Ao47 x103001_1.length co47] 41 (0, 0)) (by (with_reducible repeat (first | refine blk_drewN ?_ _ | refine blk_drew ?_ | refine blk_alloc ?_ _)); exact BK102.out) hb); have n3_ := Aside0.mk (below_step (by repeat (first | (with_reducible first | exact HB.out | apply below_alloc | apply pw_below_drewN | apply below_drew1 | refine below_set ?_ GE102.out) | exact HB.out)) hb); clear HO_9; clear HO_103001; clear BK102; clear HB; have HO_9 := n0_; have HO_103001 := n1_; have BK102 := n2_; have HB := n3_; clear n0_ n1_ n2_ n3_; (try clear hb); (try clear hb2); (try clear hk); (try clear hi)))
               go_ret
               exact ⟨by first | rfl | (simp [errW_none, errW_some] <;> rfl) | (simp [*, errW_none, errW_some] <;> rfl), by repeat (first | (with_reducible first | exact HB.out | apply below_alloc | apply pw_below_drewN | apply below_drew1 | refine below_set ?_ GE102.out) | exact HB.out)⟩
              ·rw [if_neg c72] at H
               have c72b0 : decide (0 < (t117.length : Int)) = false := decide_eq_false c72
               have c72b1 : decide (0 < t117.length) = false := decide_eq_false (by omega)
               clear c72
               exact absurd ((Option.some.inj H).trans HRT.out) (by decide)
end Go.Proofs.Ytjgbdicbdlollaa.B
namespace Go.Proofs.Ytjgbdicbdlollaa.B
open Go.RowKit Go.ChangeShapes Go.WideShapes Go.Deep Go.Proofs.YtjgbdicbdlollaaW.PrintWords Go.Proofs.YtjgbdicbdlollaaW.PrintLast Go.Proofs.YtjgbdicbdlollaaW.PrintMore
def okI (x : Int) : Prop := (Lit.int .i64 x).wf = true
def okRow (l : List Int) : Prop := l.length ≤ maxLen ∧ ∀ x ∈ l, okI x
section
variable {H : Type} {enc : TypeId × Value → H} {w : World} {spare : Nat → Bool} {held : Bool}
theorem open_list {α : Type} [Inhabited α] (d : Kd α) (ok : α → Prop) {t e : TypeId} (ht : Try.prog.underlying t = some (.slice e)) (hsz : Try.prog.cellsOf e = d.sz)
    (ho : ∀ (fuel : Nat) (cs : List Value) (x : DataW H × List MemPlace), DataW.trod enc Try.prog w 0 spare held fuel e cs = some x → ∃ s, d.K w s cs ∧ ok s)
    {fuel : Nat} {cs : List Value} {x : DataW H × List MemPlace} (h : DataW.trod enc Try.prog w 0 spare held fuel t cs = some x) :
    ∃ (A : Option Addr) (l : List α) (c : Nat), cs = [.slice A l.length c] ∧ l.length ≤ c ∧ c ≤ maxLen ∧ Kd.C d w A l.length l ∧ ∀ x ∈ l, ok x := by
  rcases open_slice ht h with ⟨rfl, _⟩ | ⟨x, l, c, m, n, D, Pl, rfl, _, hl, hm, hmm, _, hi⟩
  · exact ⟨none, [], 0, rfl, Nat.le_refl _, by simp, Kd.C_nil d w, by simp⟩
  · have hlm : l ≤ m := by rw [hmm]; split <;> omega
    rw [hsz] at hi
    have hex : ∀ i : Nat, ∃ s : α, i < l → ok s ∧ ∃ cs', d.K w s cs' ∧ w.cells? 0 (x.add (i * d.sz)) d.sz = some cs' := by
      intro i
      by_cases h : i < l
      · obtain ⟨cs', hc, ht⟩ := hi i (by omega)
        obtain ⟨s, hs, hk⟩ := ho _ _ _ ht
        exact ⟨s, fun _ => ⟨hk, cs', hs, hc⟩⟩
      · exact ⟨default, fun h' => absurd h' h⟩
    obtain ⟨f, hf⟩ := Classical.axiomOfChoice hex
    have hll : ((List.range l).map f).length = l := by simp
    refine ⟨some x, (List.range l).map f, c, by rw [hll], by rw [hll]; exact hl, hm, ⟨rfl, by rw [hll]; simp only [maxLen] at hm; omega, fun _ => ⟨x, rfl, fun j p hj => ?_⟩⟩, fun y hy => ?_⟩
    · have hjl : j < l := by have := (List.getElem?_eq_some_iff.1 hj).1; rw [hll] at this; exact this
      rw [List.getElem?_map, List.getElem?_range hjl] at hj
      injection hj with hj
      subst hj
      obtain ⟨hs, cs', hK, hc⟩ := hf j hjl
      obtain ⟨_, hlen, hat⟩ := World.cells?_some hc
      refine ⟨cs', hlen, hK, fun i u hu => ?_⟩
      have hi2 : i < d.sz := by have := (List.getElem?_eq_some_iff.1 hu).1; omega
      rw [← Go.Deep.add_add, hat i hi2, hu]
    · obtain ⟨j, hj, rfl⟩ := List.mem_map.1 hy
      exact (hf j (List.mem_range.1 hj)).1
theorem open_int3 (fuel : Nat) (cs : List Value) (x : DataW H × List MemPlace) (h : DataW.trod enc Try.prog w 0 spare held fuel 3 cs = some x) : ∃ s : Int, (Kd.int .i64).K w s cs ∧ okI s := by
  obtain ⟨n0, e0, _, w0⟩ := DataW.trod_int Try.underlying3 h
  subst e0
  exact ⟨n0, rfl, w0⟩
theorem open_row24 {fuel : Nat} {cs : List Value} {x : DataW H × List MemPlace} (h : DataW.trod enc Try.prog w 0 spare held fuel 24 cs = some x) :
    ∃ (A : Option Addr) (l : List Int) (c : Nat), cs = [.slice A l.length c] ∧ l.length ≤ c ∧ c ≤ maxLen ∧ Kd.C (Kd.int .i64) w A l.length l ∧ ∀ x ∈ l, okI x :=
  open_list (Kd.int .i64) okI Try.underlying24 (by kernel_rfl) open_int3 h
theorem open_rows39 {fuel : Nat} {cs : List Value} {x : DataW H × List MemPlace} (h : DataW.trod enc Try.prog w 0 spare held fuel 39 cs = some x) :
    ∃ (A : Option Addr) (l : List (List Int)) (c : Nat), cs = [.slice A l.length c] ∧ l.length ≤ c ∧ c ≤ maxLen ∧ Kd.C (Kd.slice 3 (Kd.int .i64)) w A l.length l ∧ ∀ x ∈ l, okRow x := by
  refine open_list (Kd.slice 3 (Kd.int .i64)) okRow Try.underlying39 (by kernel_rfl) (fun fuel cs x h => ?_) h
  obtain ⟨A, l, c, rfl, h1, h2, h3, h4⟩ := open_row24 h
  exact ⟨l, ⟨A, c, rfl, h1, h3⟩, Nat.le_trans h1 h2, h4⟩
end
end Go.Proofs.Ytjgbdicbdlollaa.B
namespace Go.Proofs.Ytjgbdicbdlollaa.B
open Go.RowKit Go.ChangeShapes Go.WideShapes Go.Deep Go.Proofs.YtjgbdicbdlollaaW.PrintWords Go.Proofs.YtjgbdicbdlollaaW.PrintLast Go.Proofs.YtjgbdicbdlollaaW.PrintMore
def okS57 (x : S57) : Prop := (Lit.int .u8 x.f0).wf = true ∧ (Lit.int .u8 x.f1).wf = true
instance : Inhabited S57 := ⟨z57⟩
section
variable {H : Type} {enc : TypeId × Value → H} {w : World} {spare : Nat → Bool} {held : Bool}
theorem open_rows {a : Option Addr} {len cap : Nat} {d : DataW H} {p : List MemPlace} (h : DataW.Trod enc Try.prog w 0 spare held 39 (.slice a len cap) d p) :
    ∃ l : List (List Int), Kd.C (Kd.slice 3 (Kd.int .i64)) w a l.length l ∧ l.length = len ∧ len ≤ cap ∧ cap ≤ maxLen ∧ ∀ x ∈ l, okRow x := by
  obtain ⟨fuel, hf⟩ := h
  obtain ⟨A, l, c, e, h1, h2, h3, h4⟩ := open_rows39 hf
  simp only [Value.cells, List.cons.injEq, Value.slice.injEq, and_true] at e
  obtain ⟨rfl, rfl, rfl⟩ := e
  exact ⟨l, h3, rfl, h1, h2, h4⟩
theorem under57 : Try.prog.underlying 57 = some (.array 2 5) := by kernel_rfl
theorem under56 : Try.prog.underlying 56 = some (.slice 57) := by kernel_rfl
theorem under5 : Try.prog.underlying 5 = some (.int .u8) := by kernel_rfl
set_option maxRecDepth 100000 in
theorem open_line (fuel : Nat) (cs : List Value) (x : DataW H × List MemPlace) (h : DataW.trod enc Try.prog w 0 spare held fuel 57 cs = some x) : ∃ s : S57, k57.K w s cs ∧ okS57 s := by
  obtain ⟨xs, n, _, _, hlen, hxl, hf⟩ := DataW.trod_array under57 h
  have h57 : Try.prog.cellsOf 57 = 2 := by kernel_rfl
  have h5 : Try.prog.cellsOf 5 = 1 := by kernel_rfl
  rw [h57] at hlen
  match cs, hlen with
  | [c0, c1], _ =>
    match xs, hxl with
    | [y0, y1], _ =>
      have g0 : DataW.trod enc Try.prog w 0 spare held n 5 (([c0, c1].drop (0 * Try.prog.cellsOf 5)).take (Try.prog.cellsOf 5)) = some y0 := hf 0 (by decide)
      have g1 : DataW.trod enc Try.prog w 0 spare held n 5 (([c0, c1].drop (1 * Try.prog.cellsOf 5)).take (Try.prog.cellsOf 5)) = some y1 := hf 1 (by decide)
      rw [h5] at g0 g1
      obtain ⟨n0, e0, _, w0⟩ := DataW.trod_int under5 g0
      obtain ⟨n1, e1, _, w1⟩ := DataW.trod_int under5 g1
      obtain rfl : c0 = .int .u8 n0 := by injection e0
      obtain rfl : c1 = .int .u8 n1 := by injection e1
      exact ⟨⟨n0, n1⟩, k57_mk w ⟨n0, n1⟩, w0, w1⟩
theorem open_lines57 {a : Option Addr} {len cap : Nat} {d : DataW H} {p : List MemPlace} (h : DataW.Trod enc Try.prog w 0 spare held 56 (.slice a len cap) d p) :
    ∃ l : List S57, Kd.C k57 w a l.length l ∧ l.length = len ∧ len ≤ cap ∧ cap ≤ maxLen ∧ ∀ x ∈ l, okS57 x := by
  obtain ⟨fuel, hf⟩ := h
  obtain ⟨A, l, c, e, h1, h2, h3, h4⟩ := open_list k57 okS57 under56 (by kernel_rfl) open_line hf
  simp only [Value.cells, List.cons.injEq, Value.slice.injEq, and_true] at e
  obtain ⟨rfl, rfl, rfl⟩ := e
  exact ⟨l, h3, rfl, h1, h2, h4⟩
end
end Go.Proofs.Ytjgbdicbdlollaa.B
namespace Go.Proofs.Ytjgbdicbdlollaa.B
open Go.RowKit Go.Proofs.YtjgbdicbdlollaaW.PrintWords Go.Proofs.YtjgbdicbdlollaaW.PrintLast Go.Proofs.YtjgbdicbdlollaaW.PrintMore
def trishawlaw02_JamAffine.Pure : Prop := ∀ (l0 : List (List Int)) (l1 : List S57), l0.length ≤ maxLen → (∀ x ∈ l0, okRow x) → l1.length ≤ maxLen → (∀ x ∈ l1, okS57 x) → ∃ k, trishawlaw02_JamAffine.f k l0 l1 = some true
theorem trishawlaw02_JamAffine.walk (P : trishawlaw02_JamAffine.Pure) (w : World) (A0 : Option Addr) (c0 : Nat) (l0 : List (List Int)) (hr0 : Kd.C (Kd.slice 3 (Kd.int .i64)) w A0 l0.length l0) (hc0 : l0.length ≤ c0) (A1 : Option Addr) (c1 : Nat) (l1 : List S57) (hr1 : Kd.C k57 w A1 l1.length l1) (hc1 : l1.length ≤ c1) (h0_0 : l0.length ≤ maxLen) (h1_0 : (∀ x ∈ l0, okRow x)) (h2_0 : l1.length ≤ maxLen) (h3_0 : (∀ x ∈ l1, okS57 x)) :
    Calls Try.prog 10 #[.slice A0 l0.length c0, .slice A1 l1.length c1] w fun e w' => e = .returned (.bool true) ∧ Below w.heap.size w w' := by
  obtain ⟨k, h⟩ := P l0 l1 h0_0 h1_0 h2_0 h3_0
  refine (trishawlaw02_JamAffine.calls k A0 c0 l0 A1 c1 l1 true w hr0 hc0 hr1 hc1 h rfl).mono ?_
  rintro e w' ⟨rfl, hd⟩
  exact ⟨rfl, hd⟩
end Go.Proofs.Ytjgbdicbdlollaa.B
namespace Go.Proofs.Ytjgbdicbdlollaa.B
open Go.RowKit Go.Proofs.YtjgbdicbdlollaaW.PrintWords Go.Proofs.YtjgbdicbdlollaaW.PrintLast Go.Proofs.YtjgbdicbdlollaaW.PrintMore
set_option linter.unusedVariables false
set_option linter.unusedSimpArgs false
def sm (x : Int) : Prop := -4611686018427387904 ≤ x ∧ x ≤ 4611686018427387904
theorem wsm {x : Int} (h : sm x) : wrap64 x = x := by unfold sm at h; unfold wrap64; omega
theorem wrapN (i : Nat) (h : i < 1000000) : wrap64 ((i : Int) + 1) = ((i + 1 : Nat) : Int) := by unfold wrap64; omega
theorem rd_mem2 (l : List Int) (i : Nat) (h : i < l.length) : rd l (i : Int) ∈ l := by
  have : rd l (i : Int) = l[i] := by simp [rd, List.getD, List.getElem?_eq_getElem h]
  rw [this]; exact List.getElem_mem h
end Go.Proofs.Ytjgbdicbdlollaa.B
namespace Go.Proofs.Ytjgbdicbdlollaa.B
open Go.RowKit Go.Sort Go.Proofs.YtjgbdicbdlollaaW.PrintWords Go.Proofs.YtjgbdicbdlollaaW.PrintLast Go.Proofs.YtjgbdicbdlollaaW.PrintMore
set_option linter.unusedVariables false
set_option linter.unusedSimpArgs false
def okL (x : S36) : Prop := 0 ≤ x.f0 ∧ x.f0 ≤ 10 ∧ 1 ≤ x.f1 ∧ x.f1 ≤ 10
def sumL (f : S36 → Int) : List S36 → Int
  | [] => 0
  | x :: l => f x + sumL f l
theorem sumL_le {f g : S36 → Int} : ∀ {l : List S36}, (∀ x ∈ l, f x ≤ g x) → sumL f l ≤ sumL g l
  | [], _ => Int.le_refl _
  | x :: l, h => by
    have h1 := h x (by simp)
    have h2 := sumL_le (l := l) fun y hy => h y (by simp [hy])
    simp only [sumL]; omega
theorem sumL_const (c : Int) : ∀ l : List S36, sumL (fun _ => c) l = c * l.length
  | [] => by simp [sumL]
  | x :: l => by simp only [sumL, sumL_const c l, List.length_cons, Int.natCast_add, Int.mul_add]; simp; omega
theorem sumL_pos {f : S36 → Int} {l : List S36} (h : ∀ x ∈ l, 0 ≤ f x) : 0 ≤ sumL f l := by
  have := sumL_le (f := fun _ => 0) (g := f) h
  rw [sumL_const] at this; simpa using this
/-- A time num/den is good: its own set of lanes gives it. -/
def Good (w : S36 → Int) (p : Int) (l : List S36) (n d : Int) : Prop :=
  0 < d ∧ n = p + sumL (fun x => if x.f0 * d < n then x.f0 * w x else 0) l ∧ d = sumL (fun x => if x.f0 * d < n then w x else 0) l
end Go.Proofs.Ytjgbdicbdlollaa.B
namespace Go.Proofs.Ytjgbdicbdlollaa.B
open Go.RowKit Go.Sort Go.Proofs.YtjgbdicbdlollaaW.PrintWords Go.Proofs.YtjgbdicbdlollaaW.PrintLast Go.Proofs.YtjgbdicbdlollaaW.PrintMore
set_option linter.unusedVariables false
set_option linter.unusedSimpArgs false
theorem mulb {x y X Y : Int} (hx : 0 ≤ x) (hX : x ≤ X) (hy : 0 ≤ y) (hY : y ≤ Y) : 0 ≤ x * y ∧ x * y ≤ X * Y :=
  ⟨Int.mul_nonneg hx hy, Int.mul_le_mul hX hY hy (by omega)⟩
def wv (p t : Int) (x : S36) : Int := Int.tdiv p (x.f1 * t)
theorem Good.b {p t : Int} {l : List S36} {n d : Int} (hp : 0 < p) (hp2 : p ≤ 160000) (hl : l.length ≤ 4) (hw : ∀ x ∈ l, okL x ∧ 0 < wv p t x ∧ wv p t x ≤ p) (g : Good (wv p t) p l n d) : 0 ≤ n ∧ n ≤ 6560000 ∧ 0 < d ∧ d ≤ 640000 := by
  obtain ⟨h0, h1, h2⟩ := g
  have a1 : sumL (fun x => if x.f0 * d < n then x.f0 * wv p t x else 0) l ≤ sumL (fun _ => 1600000) l := sumL_le fun x hx => by
    obtain ⟨h3, h4, h5⟩ := hw x hx
    unfold okL at h3
    have := mulb (x := x.f0) (y := wv p t x) (X := 10) (Y := 160000) (by omega) (by omega) (by omega) (by omega)
    split <;> omega
  have a0 : 0 ≤ sumL (fun x => if x.f0 * d < n then x.f0 * wv p t x else 0) l := sumL_pos fun x hx => by
    obtain ⟨h3, h4, h5⟩ := hw x hx
    unfold okL at h3
    have := mulb (x := x.f0) (y := wv p t x) (X := 10) (Y := 160000) (by omega) (by omega) (by omega) (by omega)
    split <;> omega
  have a2 : sumL (fun x => if x.f0 * d < n then wv p t x else 0) l ≤ sumL (fun _ => 160000) l := sumL_le fun x hx => by
    obtain ⟨h3, h4, h5⟩ := hw x hx
    split <;> omega
  rw [sumL_const] at a1 a2
  omega
end Go.Proofs.Ytjgbdicbdlollaa.B
namespace Go.Proofs.Ytjgbdicbdlollaa.B
open Go.RowKit Go.Sort Go.Proofs.YtjgbdicbdlollaaW.PrintWords Go.Proofs.YtjgbdicbdlollaaW.PrintLast Go.Proofs.YtjgbdicbdlollaaW.PrintMore
theorem alive_ev : Ev (fun k => trishawlaw02_alive.f k) true := ⟨60, fun k hk => alive_from k hk⟩
theorem alive_ev2 : Ev (fun k => (trishawlaw02_alive.f k).bind fun t => some t) true := Ev.bind alive_ev (Ev.now true)
end Go.Proofs.Ytjgbdicbdlollaa.B
namespace Go.Proofs.Ytjgbdicbdlollaa.B
open Go.RowKit Go.Sort Go.Proofs.YtjgbdicbdlollaaW.PrintWords Go.Proofs.YtjgbdicbdlollaaW.PrintLast Go.Proofs.YtjgbdicbdlollaaW.PrintMore
set_option linter.unusedVariables false
set_option linter.unusedSimpArgs false
theorem rdN (l : List Int) (i : Nat) (h : i < l.length) : rd l (i : Int) = l[i] := by simp [rd, List.getD, List.getElem?_eq_getElem h]
theorem rdL (l : List (List Int)) (i : Nat) (h : i < l.length) : rd_L12 l (i : Int) = l[i] := by simp [rd_L12, List.getD, List.getElem?_eq_getElem h]
theorem rdL_mem (l : List (List Int)) (i : Nat) (h : i < l.length) : rd_L12 l (i : Int) ∈ l := by rw [rdL l i h]; exact List.getElem_mem h
theorem rdZ_mem (l : List Int) (z : Int) (h0 : 0 ≤ z) (h : z < l.length) : rd l z ∈ l := by
  obtain ⟨i, rfl⟩ : ∃ i : Nat, z = i := ⟨z.toNat, by omega⟩
  exact rd_mem2 l i (by omega)
def mapR (m : Nat) (f : Nat → Int) : List Int := (List.range m).map f
theorem mapR_len (m : Nat) (f : Nat → Int) : (mapR m f).length = m := by simp [mapR]
theorem mapR_rd {m : Nat} {f : Nat → Int} {k : Nat} (h : k < m) : rd (mapR m f) (k : Int) = f k := by
  rw [rdN _ k (by rw [mapR_len]; exact h)]; simp [mapR]
theorem mapR_set (m : Nat) (f : Nat → Int) (k : Nat) (v : Int) : (mapR m f).set k v = mapR m (fun j => if j = k then v else f j) := by
  apply List.ext_getElem
  · simp [mapR]
  · intro i h1 h2
    simp only [mapR, List.getElem_set, List.getElem_map, List.getElem_range]
    by_cases h : k = i
    · subst h; simp
    · rw [if_neg h, if_neg (fun e => h e.symm)]
theorem mapR_congr {m : Nat} {f g : Nat → Int} (h : ∀ k, k < m → f k = g k) : mapR m f = mapR m g :=
  List.map_congr_left fun k hk => h k (List.mem_range.1 hk)
theorem mapR_succ (m : Nat) (f : Nat → Int) : mapR m f ++ [f m] = mapR (m + 1) f := by simp [mapR, List.range_succ]
theorem mapR_zero (m : Nat) : List.replicate m (0 : Int) = mapR m (fun _ => 0) := by
  apply List.ext_getElem
  · simp [mapR]
  · intro i h1 h2; simp [mapR]
structure GameOk (R T : List (List Int)) : Prop where
  r1 : 1 ≤ R.length
  r5 : R.length ≤ 5
  t1 : 1 ≤ T.length
  t8 : T.length ≤ 8
  row : ∀ l ∈ R, 1 ≤ l.length ∧ l.length ≤ 5 ∧ ∀ x ∈ l, 1 ≤ x ∧ x < 2 ^ T.length
  toll : ∀ t ∈ T, t.length = R.length ∧ ∀ x ∈ t, 0 ≤ x ∧ x ≤ 1000
structure ChOk (R : List (List Int)) (c : List Int) : Prop where
  len : c.length = R.length
  ok : ∀ i : Nat, i < R.length → 0 ≤ rd c (i : Int) ∧ rd c (i : Int) < ((rd_L12 R (i : Int)).length : Int)
/-- The route that driver i takes. -/
def rte (R : List (List Int)) (c : List Int) (i : Nat) : Int := rd (rd_L12 R (i : Int)) (rd c (i : Int))
theorem rte_b {R T : List (List Int)} {c : List Int} (g : GameOk R T) (h : ChOk R c) {i : Nat} (hi : i < R.length) : 1 ≤ rte R c i ∧ rte R c i < 2 ^ T.length := by
  have h1 := h.ok i hi
  exact (g.row _ (rdL_mem R i hi)).2.2 _ (rdZ_mem _ _ h1.1 h1.2)
theorem pow_b {m : Nat} (h : m ≤ 8) : (2 : Int) ^ m ≤ 256 := by
  have : (2 : Nat) ^ m ≤ 2 ^ 8 := Nat.pow_le_pow_right (by omega) h
  have e : ((2 ^ m : Nat) : Int) = (2 : Int) ^ m := by simp
  omega
/-- A street of a route. -/
def bk (x : Int) (k : Nat) : Int := x / 2 ^ k % 2
theorem fin_bk : ∀ s : Fin 256, ∀ a : Fin 8, Go.bits .and .i64 (shr .i64 ((s.val : Nat) : Int) ((a.val : Nat) : Int)) 1 = bk ((s.val : Nat) : Int) a.val ∧ Int.tmod (shr .i64 ((s.val : Nat) : Int) ((a.val : Nat) : Int)) 2 = bk ((s.val : Nat) : Int) a.val ∧ (bk ((s.val : Nat) : Int) a.val = 0 ∨ bk ((s.val : Nat) : Int) a.val = 1) := by decide +kernel
theorem bk_and {x : Int} {k : Nat} (h0 : 0 ≤ x) (h1 : x < 256) (hk : k < 8) : Go.bits .and .i64 (shr .i64 x (k : Int)) 1 = bk x k ∧ Int.tmod (shr .i64 x (k : Int)) 2 = bk x k ∧ (bk x k = 0 ∨ bk x k = 1) := by
  have := fin_bk ⟨x.toNat, by omega⟩ ⟨k, hk⟩
  simp only at this
  rw [show ((x.toNat : Nat) : Int) = x by omega] at this
  exact this
/-- How many of the first m drivers are on a street. -/
def uF (R : List (List Int)) (c : List Int) : Nat → Nat → Int
  | 0, _ => 0
  | m + 1, k => uF R c m k + bk (rte R c m) k
theorem uF_b {R T : List (List Int)} {c : List Int} (g : GameOk R T) (h : ChOk R c) {k : Nat} (hk : k < T.length) : ∀ m, m ≤ R.length → 0 ≤ uF R c m k ∧ uF R c m k ≤ m
  | 0, _ => by simp [uF]
  | m + 1, hm => by
    have ih := uF_b g h hk m (by omega)
    have hb := rte_b g h (i := m) (by omega)
    have hp := pow_b g.t8
    have h8 := g.t8
    have := (bk_and (x := rte R c m) (k := k) (by omega) (by omega) (by omega)).2.2
    simp only [uF]
    omega
theorem uF_pos {R T : List (List Int)} {c : List Int} (g : GameOk R T) (h : ChOk R c) {k : Nat} (hk : k < T.length) {i : Nat} : ∀ m, m ≤ R.length → i < m → bk (rte R c i) k = 1 → 1 ≤ uF R c m k
  | m + 1, hm, hi, hb1 => by
    have ih := uF_b g h hk m (by omega)
    have hb := rte_b g h (i := m) (by omega)
    have hp := pow_b g.t8
    have h8 := g.t8
    have := (bk_and (x := rte R c m) (k := k) (by omega) (by omega) (by omega)).2.2
    simp only [uF]
    by_cases he : i = m
    · subst he; omega
    · have := uF_pos g h hk m (by omega) (by omega) hb1
      omega
section
variable {R T : List (List Int)} {c : List Int} (g : GameOk R T) (h : ChOk R c)
include g h
/-- One driver's streets. -/
theorem users_l1 (U : List Unit) (P : Int → Int → Option Int) (r : List Int) (i : Nat) (hi : i < R.length) (hn : Ev (fun k => jam_game_users.l0 k (mapR T.length (uF R c (i + 1))) c (c.length : Int) ((i + 1 : Nat) : Int) R U P) r) : ∀ (m k : Nat), k + m = T.length →
    Ev (fun n => jam_game_users.l1 n (mapR T.length (fun j => if j < k then uF R c (i + 1) j else uF R c i j)) (i : Int) (rd c (i : Int)) c (c.length : Int) (i : Int) (T.length : Int) (k : Int) R U P) r
  | 0, k, hk => by
    have h5 := g.r5
    rw [mapR_congr (g := uF R c (i + 1)) (fun j hj => if_pos (by omega))]
    refine Ev.step (fun n => ?_) hn
    simp only [jam_game_users.l1]
    rw [if_neg (by omega), wrapN i (by omega)]
  | m + 1, k, hk => by
    have h5 := g.r5
    have h8 := g.t8
    have hb := rte_b g h hi
    have hp := pow_b g.t8
    have hc := h.ok i hi
    have hbk := bk_and (x := rte R c i) (k := k) (by omega) (by omega) (by omega)
    have hu := uF_b g h (k := k) (by omega) i (by omega)
    have ih := users_l1 U P r i hi hn m (k + 1) (by omega)
    refine Ev.step (fun n => ?_) ih
    simp only [jam_game_users.l1]
    rw [if_pos (by omega), if_pos (by omega), if_pos (by rw [mapR_len]; omega), if_pos (by omega), if_pos (by omega), if_pos (by omega), if_pos hc.2, mapR_rd (by omega), if_neg (by omega), show rd (rd_L12 R (i : Int)) (rd c (i : Int)) = rte R c i from rfl, hbk.1, wsm (by unfold sm; omega), wrapN k (by omega), Int.toNat_natCast, mapR_set]
    congr 1
    refine mapR_congr fun j hj => ?_
    by_cases h1 : j = k
    · subst h1; rw [if_pos rfl, if_pos (by omega)]; rfl
    · rw [if_neg h1]
      by_cases h2 : j < k
      · rw [if_pos h2, if_pos (by omega)]
      · rw [if_neg h2, if_neg (by omega)]
theorem users_l0 (U : List Unit) (P : Int → Int → Option Int) : ∀ (m i : Nat), i + m = R.length → Ev (fun n => jam_game_users.l0 n (mapR T.length (uF R c i)) c (c.length : Int) (i : Int) R U P) (mapR T.length (uF R c R.length))
  | 0, i, hi => by
    have e : i = R.length := by omega
    subst e
    have hl := h.len
    refine Ev.step (f := fun _ => some (mapR T.length (uF R c R.length))) (fun n => ?_) (Ev.now _)
    simp only [jam_game_users.l0]
    rw [if_neg (by omega)]
  | m + 1, i, hi => by
    have hl := h.len
    have h5 := g.r5
    have ih := users_l0 U P m (i + 1) (by omega)
    have hin := users_l1 g h U P _ i (by omega) ih T.length 0 (by omega)
    rw [mapR_congr (g := uF R c i) (fun j hj => if_neg (by omega))] at hin
    refine Ev.step (fun n => ?_) hin
    simp only [jam_game_users.l0]
    rw [if_pos (by omega), if_pos (by omega), if_pos (by omega), mapR_len]
    rfl
theorem users_ev (P : Int → Int → Option Int) : Ev (fun n => jam_game_users.f n R (unitsOf T) P c) (mapR T.length (uF R c R.length)) := by
  have h8 := g.t8
  have := users_l0 g h (unitsOf T) P R.length 0 (by omega)
  rw [show mapR T.length (uF R c 0) = List.replicate T.length (0 : Int) from (mapR_zero _).symm] at this
  refine Ev.congr (fun n => ?_) this
  have e : (unitsOf T).length = T.length := by simp [unitsOf]
  unfold jam_game_users.f
  rw [e, if_pos (Int.natCast_nonneg _), Int.toNat_natCast, if_pos (by omega)]
  rfl
/-- What a driver pays on streets k .. k + m - 1. -/
def payS (R T : List (List Int)) (c : List Int) (i : Nat) : Nat → Nat → Int
  | 0, _ => 0
  | m + 1, k => (if bk (rte R c i) k = 1 then rd (rd_L12 T (k : Int)) (uF R c R.length k - 1) else 0) + payS R T c i m (k + 1)
def cst (R T : List (List Int)) (c : List Int) (i : Nat) : Int := payS R T c i T.length 0
def totF (R T : List (List Int)) (c : List Int) : Nat → Int
  | 0 => 0
  | m + 1 => totF R T c m + cst R T c m
theorem pay_b {k i : Nat} (hk : k < T.length) (hi : i < R.length) (hb : bk (rte R c i) k = 1) : payF T (k : Int) (uF R c R.length k) = some (rd (rd_L12 T (k : Int)) (uF R c R.length k - 1)) ∧ 0 ≤ rd (rd_L12 T (k : Int)) (uF R c R.length k - 1) ∧ rd (rd_L12 T (k : Int)) (uF R c R.length k - 1) ≤ 1000 := by
  have h1 := uF_pos g h hk R.length (Nat.le_refl _) hi hb
  have h2 := uF_b g h hk R.length (Nat.le_refl _)
  have h3 := g.toll _ (rdL_mem T k hk)
  refine ⟨?_, h3.2 _ (rdZ_mem _ _ (by omega) (by omega))⟩
  unfold payF
  rw [if_pos (by omega), if_pos (by omega), if_pos (by omega), if_pos (by omega)]
theorem payS_b {i : Nat} (hi : i < R.length) : ∀ (m k : Nat), k + m = T.length → 0 ≤ payS R T c i m k ∧ payS R T c i m k ≤ 1000 * m
  | 0, _, _ => by simp [payS]
  | m + 1, k, hk => by
    have ih := payS_b hi m (k + 1) (by omega)
    simp only [payS]
    split
    · rename_i hb
      have := (pay_b g h (k := k) (by omega) hi hb).2
      omega
    · omega
theorem cst_b {i : Nat} (hi : i < R.length) : 0 ≤ cst R T c i ∧ cst R T c i ≤ 8000 := by
  have := payS_b g h hi T.length 0 (by omega)
  have h8 := g.t8
  unfold cst
  omega
theorem totF_b : ∀ m, m ≤ R.length → 0 ≤ totF R T c m ∧ totF R T c m ≤ 8000 * m
  | 0, _ => by simp [totF]
  | m + 1, hm => by
    have ih := totF_b m (by omega)
    have := cst_b g h (i := m) (by omega)
    simp only [totF]
    omega
theorem costs_l1 (U : List Unit) (r : List Int × Int) (i : Nat) (hi : i < R.length) (x7 : List Int) (x8 : Int) (h7 : x7.length = i)
    (hn : Ev (fun n => jam_game_costs.l0 n (mapR T.length (uF R c R.length)) (x7 ++ [cst R T c i]) (wrap64 (x8 + cst R T c i)) c (c.length : Int) ((i + 1 : Nat) : Int) R U (payF T)) r) : ∀ (m k : Nat) (a : Int), k + m = T.length → 0 ≤ a → a ≤ 1000 * k → a + payS R T c i m k = cst R T c i →
    Ev (fun n => jam_game_costs.l1 n (mapR T.length (uF R c R.length)) x7 x8 (i : Int) (rd c (i : Int)) a c (c.length : Int) (i : Int) (mapR T.length (uF R c R.length)) (T.length : Int) (k : Int) R U (payF T)) r
  | 0, k, a, hk, a0, a1, ha => by
    have h5 := g.r5
    have e : a = cst R T c i := by simp only [payS] at ha; omega
    subst e
    refine Ev.step (fun n => ?_) hn
    simp only [jam_game_costs.l1]
    rw [if_neg (by omega), if_pos (by omega), wrapN i (by omega)]
  | m + 1, k, a, hk, a0, a1, ha => by
    have h5 := g.r5
    have h8 := g.t8
    have hb := rte_b g h hi
    have hp := pow_b g.t8
    have hc := h.ok i hi
    have hbk := bk_and (x := rte R c i) (k := k) (by omega) (by omega) (by omega)
    simp only [payS] at ha
    by_cases hb1 : bk (rte R c i) k = 1
    · rw [if_pos hb1] at ha
      have hpay := pay_b g h (k := k) (by omega) hi hb1
      have ih := costs_l1 U r i hi x7 x8 h7 hn m (k + 1) (a + rd (rd_L12 T (k : Int)) (uF R c R.length k - 1)) (by omega) (by omega) (by omega) (by omega)
      refine Ev.step (fun n => ?_) ih
      simp only [jam_game_costs.l1]
      rw [if_pos (by omega), if_pos (by omega), if_pos (by rw [mapR_len]; omega), if_pos (by omega), if_pos (by omega), if_pos (by omega), if_pos hc.2, show rd (rd_L12 R (i : Int)) (rd c (i : Int)) = rte R c i from rfl, hbk.1, if_pos hb1, mapR_rd (by omega), hpay.1, Option.bind_some, wsm (by unfold sm; omega), wrapN k (by omega)]
    · rw [if_neg hb1] at ha
      have ih := costs_l1 U r i hi x7 x8 h7 hn m (k + 1) a (by omega) (by omega) (by omega) (by omega)
      refine Ev.step (fun n => ?_) ih
      simp only [jam_game_costs.l1]
      rw [if_pos (by omega), if_pos (by omega), if_pos (by rw [mapR_len]; omega), if_pos (by omega), if_pos (by omega), if_pos (by omega), if_pos hc.2, show rd (rd_L12 R (i : Int)) (rd c (i : Int)) = rte R c i from rfl, hbk.1, if_neg hb1, wrapN k (by omega)]
theorem costs_l0 (U : List Unit) : ∀ (m i : Nat), i + m = R.length → Ev (fun n => jam_game_costs.l0 n (mapR T.length (uF R c R.length)) (mapR i (cst R T c)) (totF R T c i) c (c.length : Int) (i : Int) R U (payF T)) (mapR R.length (cst R T c), totF R T c R.length)
  | 0, i, hi => by
    have e : i = R.length := by omega
    subst e
    have hl := h.len
    refine Ev.step (f := fun _ => some (mapR R.length (cst R T c), totF R T c R.length)) (fun n => ?_) (Ev.now _)
    simp only [jam_game_costs.l0]
    rw [if_neg (by omega)]
  | m + 1, i, hi => by
    have hl := h.len
    have h5 := g.r5
    have hcb := cst_b g h (i := i) (by omega)
    have htb := totF_b g h i (by omega)
    have ih := costs_l0 U m (i + 1) (by omega)
    have hin := costs_l1 g h U _ i (by omega) (mapR i (cst R T c)) (totF R T c i) (mapR_len _ _) (by
      rw [mapR_succ, wsm (by unfold sm; omega)]; exact ih) T.length 0 0 (by omega) (by omega) (by omega) (by unfold cst; omega)
    refine Ev.step (fun n => ?_) hin
    simp only [jam_game_costs.l0]
    rw [if_pos (by omega), if_pos (by omega), if_pos (by omega), mapR_len]
    rfl
theorem costs_ev : Ev (fun n => jam_game_costs.f n R (unitsOf T) (payF T) c) (mapR R.length (cst R T c), totF R T c R.length) := by
  unfold jam_game_costs.f
  exact Ev.bind (users_ev g h (payF T)) (costs_l0 g h (unitsOf T) R.length 0 (by omega))
end
end Go.Proofs.Ytjgbdicbdlollaa.B
namespace Go.Proofs.Ytjgbdicbdlollaa.B
open Go.RowKit Go.Sort Go.Proofs.YtjgbdicbdlollaaW.PrintWords Go.Proofs.YtjgbdicbdlollaaW.PrintLast Go.Proofs.YtjgbdicbdlollaaW.PrintMore
set_option linter.unusedVariables false
set_option linter.unusedSimpArgs false
theorem allRd {l : List Int} {P : Int → Prop} : (∀ q : Nat, q < l.length → P (rd l (q : Int))) ↔ ∀ x ∈ l, P x := by
  constructor
  · intro h x hx
    obtain ⟨q, hq, rfl⟩ := List.mem_iff_getElem.1 hx
    rw [← rdN l q hq]; exact h q hq
  · intro h q hq
    exact h _ (rd_mem2 l q hq)
theorem all_rdL {l : List (List Int)} {P : List Int → Prop} : (∀ q : Nat, q < l.length → P (rd_L12 l (q : Int))) ↔ ∀ x ∈ l, P x := by
  constructor
  · intro h x hx
    obtain ⟨q, hq, rfl⟩ := List.mem_iff_getElem.1 hx
    rw [← rdL l q hq]; exact h q hq
  · intro h q hq
    exact h _ (rdL_mem l q hq)
theorem shl_pow {m : Nat} (h : m ≤ 8) : shl .i64 1 (m : Int) = 2 ^ m := by
  have : ∀ a : Fin 9, shl .i64 1 ((a.val : Nat) : Int) = 2 ^ a.val := by decide +kernel
  exact this ⟨m, by omega⟩
structure FewOk (R T : List (List Int)) (c : List Int) : Prop where
  r : R.length ≤ 20
  t : T.length ≤ 20
  rr : ∀ x ∈ R, x.length ≤ 20
  tt : ∀ x ∈ T, x.length ≤ 20
  c : c.length ≤ 20
theorem few_l1 (R T : List (List Int)) (c : List Int) : ∀ (m i : Nat), i + m = 20 → ∃ b, Ev (fun k => trishawlaw02_few.l1 k c (i : Int) R T) b ∧ (b = true ↔ (T.length ≤ 20 ∧ ∀ q : Nat, i ≤ q → q < T.length → (rd_L12 T (q : Int)).length ≤ 20) ∧ c.length ≤ 20)
  | 0, i, h => by
    by_cases hT : i < T.length
    · refine ⟨false, Ev.step (f := fun _ => some false) (fun k => ?_) (Ev.now _), by simp; intro h1; omega⟩
      simp only [trishawlaw02_few.l1]
      rw [if_pos (by omega), if_pos (by omega)]
    · refine ⟨decide ((c.length : Int) ≤ 20), Ev.step (f := fun _ => some (decide ((c.length : Int) ≤ 20))) (fun k => ?_) (Ev.now _), ?_⟩
      · simp only [trishawlaw02_few.l1]
        rw [if_neg (by omega)]
      · rw [decide_eq_true_eq]
        exact ⟨fun h1 => ⟨⟨by omega, fun q h2 h3 => by omega⟩, by omega⟩, fun h1 => by have := h1.2; omega⟩
  | m + 1, i, h => by
    by_cases hT : i < T.length
    · by_cases hl : ((rd_L12 T (i : Int)).length : Int) > 20
      · refine ⟨false, Ev.step (f := fun _ => some false) (fun k => ?_) (Ev.now _), ?_⟩
        · simp only [trishawlaw02_few.l1]
          rw [if_pos (by omega), if_neg (by omega), if_pos (by omega), if_pos hl]
        · constructor
          · intro h1; exact absurd h1 (by simp)
          · intro h1; have := h1.1.2 i (Nat.le_refl _) hT; omega
      · obtain ⟨b, hb, hi⟩ := few_l1 R T c m (i + 1) (by omega)
        refine ⟨b, Ev.step (fun k => ?_) hb, ?_⟩
        · simp only [trishawlaw02_few.l1]
          rw [if_pos (by omega), if_neg (by omega), if_pos (by omega), if_neg hl, wrapN i (by omega)]
        · rw [hi]
          refine ⟨fun h1 => ⟨⟨h1.1.1, fun q h2 h3 => ?_⟩, h1.2⟩, fun h1 => ⟨⟨h1.1.1, fun q h2 h3 => h1.1.2 q (by omega) h3⟩, h1.2⟩⟩
          by_cases he : q = i
          · subst he; omega
          · exact h1.1.2 q (by omega) h3
    · refine ⟨decide ((c.length : Int) ≤ 20), Ev.step (f := fun _ => some (decide ((c.length : Int) ≤ 20))) (fun k => ?_) (Ev.now _), ?_⟩
      · simp only [trishawlaw02_few.l1]
        rw [if_neg (by omega)]
      · rw [decide_eq_true_eq]
        exact ⟨fun h1 => ⟨⟨by omega, fun q h2 h3 => by omega⟩, by omega⟩, fun h1 => by have := h1.2; omega⟩
theorem few_l0 (R T : List (List Int)) (c : List Int) : ∀ (m i : Nat), i + m = 20 → ∃ b, Ev (fun k => trishawlaw02_few.l0 k c (i : Int) R T) b ∧ (b = true ↔ (R.length ≤ 20 ∧ ∀ q : Nat, i ≤ q → q < R.length → (rd_L12 R (q : Int)).length ≤ 20) ∧ (T.length ≤ 20 ∧ ∀ q : Nat, 0 ≤ q → q < T.length → (rd_L12 T (q : Int)).length ≤ 20) ∧ c.length ≤ 20)
  | 0, i, h => by
    by_cases hT : i < R.length
    · refine ⟨false, Ev.step (f := fun _ => some false) (fun k => ?_) (Ev.now _), by simp; intro h1; omega⟩
      simp only [trishawlaw02_few.l0]
      rw [if_pos (by omega), if_pos (by omega)]
    · obtain ⟨b, hb, hi⟩ := few_l1 R T c 20 0 rfl
      refine ⟨b, Ev.step (fun k => ?_) hb, ?_⟩
      · simp only [trishawlaw02_few.l0]
        rw [if_neg (by omega)]; rfl
      · rw [hi]
        exact ⟨fun h1 => ⟨⟨by omega, fun q h2 h3 => by omega⟩, h1⟩, fun h1 => h1.2⟩
  | m + 1, i, h => by
    by_cases hT : i < R.length
    · by_cases hl : ((rd_L12 R (i : Int)).length : Int) > 20
      · refine ⟨false, Ev.step (f := fun _ => some false) (fun k => ?_) (Ev.now _), ?_⟩
        · simp only [trishawlaw02_few.l0]
          rw [if_pos (by omega), if_neg (by omega), if_pos (by omega), if_pos hl]
        · constructor
          · intro h1; exact absurd h1 (by simp)
          · intro h1; have := h1.1.2 i (Nat.le_refl _) hT; omega
      · obtain ⟨b, hb, hi⟩ := few_l0 R T c m (i + 1) (by omega)
        refine ⟨b, Ev.step (fun k => ?_) hb, ?_⟩
        · simp only [trishawlaw02_few.l0]
          rw [if_pos (by omega), if_neg (by omega), if_pos (by omega), if_neg hl, wrapN i (by omega)]
        · rw [hi]
          refine ⟨fun h1 => ⟨⟨h1.1.1, fun q h2 h3 => ?_⟩, h1.2⟩, fun h1 => ⟨⟨h1.1.1, fun q h2 h3 => h1.1.2 q (by omega) h3⟩, h1.2⟩⟩
          by_cases he : q = i
          · subst he; omega
          · exact h1.1.2 q (by omega) h3
    · obtain ⟨b, hb, hi⟩ := few_l1 R T c 20 0 rfl
      refine ⟨b, Ev.step (fun k => ?_) hb, ?_⟩
      · simp only [trishawlaw02_few.l0]
        rw [if_neg (by omega)]; rfl
      · rw [hi]
        exact ⟨fun h1 => ⟨⟨by omega, fun q h2 h3 => by omega⟩, h1⟩, fun h1 => h1.2⟩
theorem few_ev (R T : List (List Int)) (c : List Int) : ∃ b, Ev (fun k => trishawlaw02_few.f k R T c) b ∧ (b = true ↔ FewOk R T c) := by
  obtain ⟨b, hb, hi⟩ := few_l0 R T c 20 0 rfl
  refine ⟨b, hb, hi.trans ⟨fun h => ⟨h.1.1, h.2.1.1, ?_, ?_, h.2.2⟩, fun h => ⟨⟨h.r, ?_⟩, ⟨h.t, ?_⟩, h.c⟩⟩⟩
  · exact all_rdL.1 fun q hq => h.1.2 q (Nat.zero_le _) hq
  · exact all_rdL.1 fun q hq => h.2.1.2 q (Nat.zero_le _) hq
  · exact fun q _ hq => h.rr _ (rdL_mem R q hq)
  · exact fun q _ hq => h.tt _ (rdL_mem T q hq)
section
variable (R T : List (List Int)) (h5 : R.length ≤ 5) (h8 : T.length ≤ 8)
include h5 h8
theorem ig_l3 (k : Nat) (hk : k < T.length) (hl : (rd_L12 T (k : Int)).length = R.length) (b2 : Bool) (h2 : Ev (fun n => trishawref02_IsGame.l2 n (R.length : Int) (T.length : Int) ((k + 1 : Nat) : Int) R T) b2) : ∀ (m j : Nat), j + m = R.length →
    ∃ b, Ev (fun n => trishawref02_IsGame.l3 n (R.length : Int) (T.length : Int) (k : Int) (j : Int) R T) b ∧ (b = true ↔ (∀ q : Nat, j ≤ q → q < R.length → 0 ≤ rd (rd_L12 T (k : Int)) (q : Int) ∧ rd (rd_L12 T (k : Int)) (q : Int) ≤ 1000) ∧ b2 = true)
  | 0, j, h => by
    refine ⟨b2, Ev.step (fun n => ?_) h2, ⟨fun h => ⟨fun q h1 h2 => by omega, h⟩, fun h => h.2⟩⟩
    simp only [trishawref02_IsGame.l3]
    rw [if_neg (by omega), wrapN k (by omega)]
  | m + 1, j, h => by
    by_cases hx : 0 ≤ rd (rd_L12 T (k : Int)) (j : Int) ∧ rd (rd_L12 T (k : Int)) (j : Int) ≤ 1000
    · obtain ⟨b, hb, hi⟩ := ig_l3 k hk hl b2 h2 m (j + 1) (by omega)
      refine ⟨b, Ev.step (fun n => ?_) hb, hi.trans ⟨fun h => ⟨fun q h1 h2 => ?_, h.2⟩, fun h => ⟨fun q h1 h2 => h.1 q (by omega) h2, h.2⟩⟩⟩
      · simp only [trishawref02_IsGame.l3]
        rw [if_pos (by omega), if_pos (by omega), if_pos (by omega), if_pos (by omega), if_pos (by omega), if_neg (by omega), if_neg (by omega), wrapN j (by omega)]
      · by_cases he : q = j
        · subst he; exact hx
        · exact h.1 q (by omega) h2
    · refine ⟨false, Ev.step (f := fun _ => some false) (fun n => ?_) (Ev.now _), ⟨fun h => absurd h (by simp), fun h => absurd (h.1 j (Nat.le_refl _) (by omega)) hx⟩⟩
      simp only [trishawref02_IsGame.l3]
      rw [if_pos (by omega), if_pos (by omega), if_pos (by omega), if_pos (by omega), if_pos (by omega)]
      by_cases h0 : rd (rd_L12 T (k : Int)) (j : Int) < 0
      · rw [if_pos h0]
      · rw [if_neg h0, if_pos (by omega)]
theorem ig_l2 : ∀ (m k : Nat), k + m = T.length → ∃ b, Ev (fun n => trishawref02_IsGame.l2 n (R.length : Int) (T.length : Int) (k : Int) R T) b ∧ (b = true ↔ ∀ q : Nat, k ≤ q → q < T.length → (rd_L12 T (q : Int)).length = R.length ∧ ∀ x ∈ rd_L12 T (q : Int), 0 ≤ x ∧ x ≤ 1000)
  | 0, k, h => by
    refine ⟨true, Ev.step (f := fun _ => some true) (fun n => ?_) (Ev.now _), ⟨fun _ q h1 h2 => by omega, fun _ => rfl⟩⟩
    simp only [trishawref02_IsGame.l2]
    rw [if_neg (by omega)]
  | m + 1, k, h => by
    by_cases hl : (rd_L12 T (k : Int)).length = R.length
    · obtain ⟨b2, hb2, hi2⟩ := ig_l2 m (k + 1) (by omega)
      obtain ⟨b, hb, hi⟩ := ig_l3 R T h5 h8 k (by omega) hl b2 hb2 R.length 0 (by omega)
      refine ⟨b, Ev.step (fun n => ?_) hb, hi.trans ⟨fun h q h1 h2 => ?_, fun h => ⟨fun q h1 h2 => ?_, hi2.2 fun q h1 h2 => h q (by omega) h2⟩⟩⟩
      · simp only [trishawref02_IsGame.l2]
        rw [if_pos (by omega), if_pos (by omega), if_pos (by omega), if_pos (by omega)]
        rfl
      · by_cases he : q = k
        · subst he
          exact ⟨hl, allRd.1 fun p hp => h.1 p (Nat.zero_le _) (by omega)⟩
        · exact hi2.1 h.2 q (by omega) h2
      · exact (h k (Nat.le_refl _) (by omega)).2 _ (rd_mem2 _ q (by omega))
    · refine ⟨false, Ev.step (f := fun _ => some false) (fun n => ?_) (Ev.now _), ⟨fun h => absurd h (by simp), fun h => absurd (h k (Nat.le_refl _) (by omega)).1 hl⟩⟩
      simp only [trishawref02_IsGame.l2]
      rw [if_pos (by omega), if_pos (by omega), if_pos (by omega), if_neg (by omega)]
theorem ig_l1 (i : Nat) (hi : i < R.length) (hl : (rd_L12 R (i : Int)).length ≤ 5) (b2 : Bool) (h2 : Ev (fun n => trishawref02_IsGame.l0 n (R.length : Int) (T.length : Int) ((i + 1 : Nat) : Int) R T) b2) : ∀ (m j : Nat), j + m = (rd_L12 R (i : Int)).length →
    ∃ b, Ev (fun n => trishawref02_IsGame.l1 n (R.length : Int) (T.length : Int) (i : Int) (j : Int) R T) b ∧ (b = true ↔ (∀ q : Nat, j ≤ q → q < (rd_L12 R (i : Int)).length → 1 ≤ rd (rd_L12 R (i : Int)) (q : Int) ∧ rd (rd_L12 R (i : Int)) (q : Int) < 2 ^ T.length) ∧ b2 = true)
  | 0, j, h => by
    refine ⟨b2, Ev.step (fun n => ?_) h2, ⟨fun h => ⟨fun q h1 h2 => by omega, h⟩, fun h => h.2⟩⟩
    simp only [trishawref02_IsGame.l1]
    rw [if_pos (by omega), if_pos (by omega), if_neg (by omega), wrapN i (by omega)]
  | m + 1, j, h => by
    have hs := shl_pow h8
    by_cases hx : 1 ≤ rd (rd_L12 R (i : Int)) (j : Int) ∧ rd (rd_L12 R (i : Int)) (j : Int) < 2 ^ T.length
    · obtain ⟨b, hb, hi2⟩ := ig_l1 i hi hl b2 h2 m (j + 1) (by omega)
      refine ⟨b, Ev.step (fun n => ?_) hb, hi2.trans ⟨fun h => ⟨fun q h1 h2 => ?_, h.2⟩, fun h => ⟨fun q h1 h2 => h.1 q (by omega) h2, h.2⟩⟩⟩
      · simp only [trishawref02_IsGame.l1]
        rw [if_pos (by omega), if_pos (by omega), if_pos (by omega), if_pos (by omega), if_neg (by omega), if_pos (by omega), hs, if_neg (by omega), wrapN j (by omega)]
      · by_cases he : q = j
        · subst he; exact hx
        · exact h.1 q (by omega) h2
    · refine ⟨false, Ev.step (f := fun _ => some false) (fun n => ?_) (Ev.now _), ⟨fun h => absurd h (by simp), fun h => absurd (h.1 j (Nat.le_refl _) (by omega)) hx⟩⟩
      simp only [trishawref02_IsGame.l1]
      rw [if_pos (by omega), if_pos (by omega), if_pos (by omega), if_pos (by omega)]
      by_cases h0 : rd (rd_L12 R (i : Int)) (j : Int) < 1
      · rw [if_pos h0]
      · rw [if_neg h0, if_pos (by omega), hs, if_pos (by omega)]
theorem ig_l0 : ∀ (m i : Nat), i + m = R.length → ∃ b, Ev (fun n => trishawref02_IsGame.l0 n (R.length : Int) (T.length : Int) (i : Int) R T) b ∧ (b = true ↔ (∀ q : Nat, i ≤ q → q < R.length → 1 ≤ (rd_L12 R (q : Int)).length ∧ (rd_L12 R (q : Int)).length ≤ 5 ∧ ∀ x ∈ rd_L12 R (q : Int), 1 ≤ x ∧ x < 2 ^ T.length) ∧ (∀ q : Nat, q < T.length → (rd_L12 T (q : Int)).length = R.length ∧ ∀ x ∈ rd_L12 T (q : Int), 0 ≤ x ∧ x ≤ 1000))
  | 0, i, h => by
    obtain ⟨b2, hb2, hi2⟩ := ig_l2 R T h5 h8 T.length 0 (by omega)
    refine ⟨b2, Ev.step (fun n => ?_) hb2, hi2.trans ⟨fun h => ⟨fun q h1 h2 => by omega, fun q h1 => h q (Nat.zero_le _) h1⟩, fun h q _ h1 => h.2 q h1⟩⟩
    simp only [trishawref02_IsGame.l0]
    rw [if_neg (by omega)]
    rfl
  | m + 1, i, h => by
    have hbad : ¬ (1 ≤ (rd_L12 R (i : Int)).length ∧ (rd_L12 R (i : Int)).length ≤ 5) → Ev (fun n => trishawref02_IsGame.l0 n (R.length : Int) (T.length : Int) (i : Int) R T) false := by
      intro hx
      have hj : Ev (fun n => trishawref02_IsGame.j2 n (R.length : Int) (T.length : Int) (i : Int) true R T) false := Ev.step (f := fun _ => some false) (fun n => by simp [trishawref02_IsGame.j2]) (Ev.now _)
      refine Ev.step (fun n => ?_) hj
      simp only [trishawref02_IsGame.l0]
      rw [if_pos (by omega), if_pos (by omega), if_pos (by omega)]
      by_cases h0 : ((rd_L12 R (i : Int)).length : Int) < 1
      · rw [if_pos h0]
      · rw [if_neg h0, decide_eq_true (by omega)]
    by_cases hx : 1 ≤ (rd_L12 R (i : Int)).length ∧ (rd_L12 R (i : Int)).length ≤ 5
    · obtain ⟨b2, hb2, hi2⟩ := ig_l0 m (i + 1) (by omega)
      obtain ⟨b, hb, hi3⟩ := ig_l1 R T h5 h8 i (by omega) hx.2 b2 hb2 _ 0 (Nat.zero_add _)
      have hj : Ev (fun n => trishawref02_IsGame.j2 n (R.length : Int) (T.length : Int) (i : Int) false R T) b := Ev.step (fun n => by simp only [trishawref02_IsGame.j2]; rw [if_neg (by simp)]; rfl) hb
      refine ⟨b, Ev.step (fun n => ?_) hj, hi3.trans ⟨fun h => ⟨fun q h1 h2 => ?_, (hi2.1 h.2).2⟩, fun h => ⟨fun q h1 h2 => ?_, hi2.2 ⟨fun q h1 h2 => h.1 q (by omega) h2, h.2⟩⟩⟩⟩
      · simp only [trishawref02_IsGame.l0]
        rw [if_pos (by omega), if_pos (by omega), if_pos (by omega), if_neg (by omega), decide_eq_false (by omega)]
      · by_cases he : q = i
        · subst he
          exact ⟨hx.1, hx.2, allRd.1 fun p hp => h.1 p (Nat.zero_le _) hp⟩
        · exact (hi2.1 h.2).1 q (by omega) h2
      · exact (h.1 i (Nat.le_refl _) (by omega)).2.2 _ (rd_mem2 _ q h2)
    · refine ⟨false, hbad hx, ⟨fun h => absurd h (by simp), fun h => absurd ⟨(h.1 i (Nat.le_refl _) (by omega)).1, (h.1 i (Nat.le_refl _) (by omega)).2.1⟩ hx⟩⟩
end
theorem isGame_ev (R T : List (List Int)) : ∃ b, Ev (fun k => trishawref02_IsGame.f k R T) b ∧ (b = true ↔ GameOk R T) := by
  by_cases hx : 1 ≤ R.length ∧ R.length ≤ 5 ∧ 1 ≤ T.length ∧ T.length ≤ 8
  · obtain ⟨b, hb, hi⟩ := ig_l0 R T hx.2.1 hx.2.2.2 R.length 0 (by omega)
    have hj : Ev (fun n => trishawref02_IsGame.j0 n (R.length : Int) (T.length : Int) false R T) b := Ev.step (fun n => by simp only [trishawref02_IsGame.j0]; rw [if_neg (by simp)]; rfl) hb
    refine ⟨b, Ev.congr (fun k => ?_) hj, hi.trans ⟨fun h => ⟨hx.1, hx.2.1, hx.2.2.1, hx.2.2.2, all_rdL.1 fun q hq => h.1 q (Nat.zero_le _) hq, all_rdL.1 h.2⟩, fun h => ⟨fun q _ hq => h.row _ (rdL_mem R q hq), fun q hq => h.toll _ (rdL_mem T q hq)⟩⟩⟩
    unfold trishawref02_IsGame.f
    rw [if_neg (by omega), if_neg (by omega), if_neg (by omega), decide_eq_false (by omega)]
  · have hj : Ev (fun n => trishawref02_IsGame.j0 n (R.length : Int) (T.length : Int) true R T) false := Ev.step (f := fun _ => some false) (fun n => by simp [trishawref02_IsGame.j0]) (Ev.now _)
    refine ⟨false, Ev.congr (fun k => ?_) hj, ⟨fun h => absurd h (by simp), fun h => absurd ⟨h.r1, h.r5, h.t1, h.t8⟩ hx⟩⟩
    unfold trishawref02_IsGame.f
    by_cases h1 : (R.length : Int) < 1
    · rw [if_pos h1]
    · rw [if_neg h1]
      by_cases h2 : (R.length : Int) > 5
      · rw [if_pos h2]
      · rw [if_neg h2]
        by_cases h3 : (T.length : Int) < 1
        · rw [if_pos h3]
        · rw [if_neg h3, decide_eq_true (by omega)]
theorem le_minU (l : List Int) (a : Int) : ∀ i : Nat, a ≤ minU l i ↔ ∀ q : Nat, q ≤ i → a ≤ rd l (q : Int)
  | 0 => by
    simp only [minU]
    exact ⟨fun h q hq => by obtain rfl : q = 0 := by omega
                            exact h, fun h => h 0 (Nat.le_refl _)⟩
  | i + 1 => by
    have ih := le_minU l a i
    have e : a ≤ minU l (i + 1) ↔ a ≤ minU l i ∧ a ≤ rd l ((i + 1 : Nat) : Int) := by
      simp only [minU, mn]
      split <;> omega
    rw [e, ih]
    refine ⟨fun h q hq => ?_, fun h => ⟨fun q hq => h q (by omega), h _ (Nat.le_refl _)⟩⟩
    by_cases he : q = i + 1
    · subst he; exact h.2
    · exact h.1 q (by omega)
theorem maxU_le (l : List Int) (a : Int) : ∀ i : Nat, maxU l i ≤ a ↔ ∀ q : Nat, q ≤ i → rd l (q : Int) ≤ a
  | 0 => by
    simp only [maxU]
    exact ⟨fun h q hq => by obtain rfl : q = 0 := by omega
                            exact h, fun h => h 0 (Nat.le_refl _)⟩
  | i + 1 => by
    have ih := maxU_le l a i
    have e : maxU l (i + 1) ≤ a ↔ maxU l i ≤ a ∧ rd l ((i + 1 : Nat) : Int) ≤ a := by
      simp only [maxU, mx]
      split <;> omega
    rw [e, ih]
    refine ⟨fun h q hq => ?_, fun h => ⟨fun q hq => h q (by omega), h _ (Nat.le_refl _)⟩⟩
    by_cases he : q = i + 1
    · subst he; exact h.2
    · exact h.1 q (by omega)
theorem minU_all (l : List Int) (a : Int) (h : 1 ≤ l.length) : a ≤ minU l (l.length - 1) ↔ ∀ x ∈ l, a ≤ x := by
  rw [le_minU, ← allRd]
  exact ⟨fun h1 q hq => h1 q (by omega), fun h1 q hq => h1 q (by omega)⟩
theorem maxU_all (l : List Int) (a : Int) (h : 1 ≤ l.length) : maxU l (l.length - 1) ≤ a ↔ ∀ x ∈ l, x ≤ a := by
  rw [maxU_le, ← allRd]
  exact ⟨fun h1 q hq => h1 q (by omega), fun h1 q hq => h1 q (by omega)⟩
theorem readOk_iff (R T : List (List Int)) : readOk R T = true ↔ GameOk R T := by
  unfold readOk
  simp only [Bool.and_eq_true, decide_eq_true_eq, List.all_eq_true]
  constructor
  · rintro ⟨⟨⟨⟨⟨h1, h2⟩, h3⟩, h4⟩, h5⟩, h6⟩
    refine ⟨h1, h2, h3, h4, fun l hl => ?_, fun t ht => ?_⟩
    · have := h6 l hl
      unfold routeOk at this
      simp only [Bool.and_eq_true, decide_eq_true_eq] at this
      obtain ⟨⟨⟨a1, a2⟩, a3⟩, a4⟩ := this
      rw [shl_pow h4] at a4
      refine ⟨a1, a2, fun x hx => ⟨(minU_all l 1 a1).1 a3 x hx, ?_⟩⟩
      have := (maxU_all l (2 ^ T.length - 1) a1).1 (by omega) x hx
      omega
    · have := h5 t ht
      unfold tollOk at this
      simp only [Bool.and_eq_true, decide_eq_true_eq] at this
      obtain ⟨⟨a1, a2⟩, a3⟩ := this
      exact ⟨a1, fun x hx => ⟨(minU_all t 0 (by omega)).1 a2 x hx, (maxU_all t 1000 (by omega)).1 a3 x hx⟩⟩
  · intro g
    refine ⟨⟨⟨⟨⟨g.r1, g.r5⟩, g.t1⟩, g.t8⟩, fun t ht => ?_⟩, fun l hl => ?_⟩
    · have h := g.toll t ht
      have h1 := g.r1
      unfold tollOk
      simp only [Bool.and_eq_true, decide_eq_true_eq]
      exact ⟨⟨h.1, (minU_all t 0 (by omega)).2 fun x hx => (h.2 x hx).1⟩, (maxU_all t 1000 (by omega)).2 fun x hx => (h.2 x hx).2⟩
    · have h := g.row l hl
      unfold routeOk
      simp only [Bool.and_eq_true, decide_eq_true_eq]
      refine ⟨⟨⟨h.1, h.2.1⟩, (minU_all l 1 h.1).2 fun x hx => (h.2.2 x hx).1⟩, ?_⟩
      rw [shl_pow g.t8]
      have := (maxU_all l (2 ^ T.length - 1) h.1).2 fun x hx => by have := (h.2.2 x hx).2; omega
      omega
theorem choiceOk_iff (R : List (List Int)) (c : List Int) : choiceOk R c = true ↔ ChOk R c := by
  unfold choiceOk
  simp only [Bool.and_eq_true, decide_eq_true_eq, List.all_eq_true, List.mem_range]
  exact ⟨fun h => ⟨h.1, fun i hi => h.2 i (by omega)⟩, fun h => ⟨h.len, fun i hi => h.ok i (by have := h.len; omega)⟩⟩
theorem playOk_iff (R T : List (List Int)) (c : List Int) : playOk R T c = true ↔ GameOk R T ∧ ChOk R c := by
  unfold playOk
  rw [Bool.and_eq_true, readOk_iff, choiceOk_iff]
end Go.Proofs.Ytjgbdicbdlollaa.B
namespace Go.Proofs.Ytjgbdicbdlollaa.B
open Go.RowKit Go.Sort Go.Proofs.YtjgbdicbdlollaaW.PrintWords Go.Proofs.YtjgbdicbdlollaaW.PrintLast Go.Proofs.YtjgbdicbdlollaaW.PrintMore
set_option linter.unusedVariables false
set_option linter.unusedSimpArgs false
def Agree (i : Nat) (a b : List Int) : Prop := ∀ j : Nat, j < i → rd a (j : Int) = rd b (j : Int)
def LexLe (n : Nat) (b c : List Int) : Prop := b = c ∨ ∃ j : Nat, j < n ∧ Agree j b c ∧ rd b (j : Int) < rd c (j : Int)
theorem agree_all {n : Nat} {a b : List Int} (ha : a.length = n) (hb : b.length = n) (h : Agree n a b) : a = b := by
  refine List.ext_getElem (by omega) fun i h1 h2 => ?_
  rw [← rdN a i h1, ← rdN b i h2]
  exact h i (by omega)
theorem rd_set_eq (l : List Int) (i : Nat) (v : Int) (h : i < l.length) : rd (l.set i v) (i : Int) = v := by
  rw [rdN _ i (by simpa using h)]; simp
theorem rd_set_ne (l : List Int) (i j : Nat) (v : Int) (h : j ≠ i) : rd (l.set i v) (j : Int) = rd l (j : Int) := by
  unfold rd
  simp only [Int.toNat_natCast, List.getD_eq_getElem?_getD]
  rw [List.getElem?_set_ne (fun e => h e.symm)]
abbrev tot (R T : List (List Int)) (c : List Int) : Int := totF R T c R.length
theorem visB_ev {R T : List (List Int)} {ch : List Int} (g : GameOk R T) (h : ChOk R ch) (s : List Int × Int) : Ev (fun k => visB k R T s ch) (if s.1 = [] ∨ tot R T ch < s.2 then (ch, tot R T ch) else s) := by
  have h5 := g.r5
  have hl := h.len
  unfold visB
  refine Ev.bind (costs_ev g h) ?_
  by_cases hc : s.1 = [] ∨ tot R T ch < s.2
  · rw [show (if s.1 = [] ∨ tot R T ch < s.2 then (ch, tot R T ch) else s) = (ch, tot R T ch) from if_pos hc]
    refine Ev.congr (f := fun _ => some (ch, tot R T ch)) (fun k => ?_) (Ev.now _)
    rw [if_pos hc]
    unfold slices_Clone.f
    rw [if_pos (by omega)]
    rfl
  · rw [show (if s.1 = [] ∨ tot R T ch < s.2 then (ch, tot R T ch) else s) = s from if_neg hc]
    refine Ev.congr (f := fun _ => some s) (fun k => ?_) (Ev.now _)
    rw [if_neg hc]
structure Post (R T : List (List Int)) (i : Nat) (ch : List Int) (s : List Int × Int) (ch' : List Int) (s' : List Int × Int) : Prop where
  len : ch'.length = R.length
  agr : Agree i ch' ch
  low : ∀ c', ChOk R c' → Agree i c' ch → s'.2 ≤ tot R T c' ∧ (s'.2 = tot R T c' → s' = s ∨ LexLe R.length s'.1 c')
  own : s' = s ∨ (ChOk R s'.1 ∧ tot R T s'.1 = s'.2 ∧ Agree i s'.1 ch ∧ (s.1 = [] ∨ s'.2 < s.2))
  some_ : s'.1 ≠ []
theorem chok_ne {R T : List (List Int)} (g : GameOk R T) {c : List Int} (h : ChOk R c) : c ≠ [] := by
  intro e
  have := h.len
  have := g.r1
  subst e
  simp at *
  omega
structure Inv (R T : List (List Int)) (i : Nat) (ch0 : List Int) (s0 : List Int × Int) (r : Nat) (s : List Int × Int) : Prop where
  low : ∀ c', ChOk R c' → Agree i c' ch0 → rd c' (i : Int) < r → s.2 ≤ tot R T c' ∧ (s.2 = tot R T c' → s = s0 ∨ LexLe R.length s.1 c')
  own : s = s0 ∨ (ChOk R s.1 ∧ tot R T s.1 = s.2 ∧ Agree i s.1 ch0 ∧ rd s.1 (i : Int) < r ∧ (s0.1 = [] ∨ s.2 < s0.2))
  some_ : 0 < r → s.1 ≠ []
theorem onLoop_ev {R T : List (List Int)} (g : GameOk R T) (f i : Nat) (hi : i < R.length) (ch0 : List Int) (s0 : List Int × Int)
    (IH : ∀ (ch : List Int) (s : List Int × Int), ch.length = R.length → (∀ j : Nat, j < i + 1 → 0 ≤ rd ch (j : Int) ∧ rd ch (j : Int) < ((rd_L12 R (j : Int)).length : Int)) → ∃ ch' s', Ev (fun k => onF R (visB k R T) f (i + 1) ch s) (ch', s') ∧ Post R T (i + 1) ch s ch' s')
    (h0 : ∀ j : Nat, j < i → 0 ≤ rd ch0 (j : Int) ∧ rd ch0 (j : Int) < ((rd_L12 R (j : Int)).length : Int)) :
    ∀ (m r : Nat) (ch : List Int) (s : List Int × Int), r + m = (rd_L12 R (i : Int)).length → ch.length = R.length → Agree i ch ch0 → Inv R T i ch0 s0 r s →
      ∃ ch' s', Ev (fun k => onLoop (fun c t => onF R (visB k R T) f (i + 1) c t) i m r ch s) (ch', s') ∧ Post R T i ch0 s0 ch' s'
  | 0, r, ch, s, hr, hl, ha, hv => by
    have hrow := g.row _ (rdL_mem R i hi)
    refine ⟨ch, s, Ev.now _, ⟨hl, ha, fun c' hc' hag => hv.low c' hc' hag ?_, ?_, hv.some_ (by omega)⟩⟩
    · have := hc'.ok i hi; omega
    · rcases hv.own with h | ⟨h1, h2, h3, h4, h5⟩
      · exact Or.inl h
      · exact Or.inr ⟨h1, h2, h3, h5⟩
  | m + 1, r, ch, s, hr, hl, ha, hv => by
    have hset : ∀ j : Nat, j < i → rd (ch.set i (r : Int)) (j : Int) = rd ch0 (j : Int) := fun j hj => by
      rw [rd_set_ne ch i j _ (by omega)]; exact ha j hj
    have hseti : rd (ch.set i (r : Int)) (i : Int) = r := rd_set_eq ch i _ (by omega)
    obtain ⟨ch1, s1, he, hp⟩ := IH (ch.set i (r : Int)) s (by simpa using hl) (fun j hj => by
      by_cases e : j = i
      · subst e; rw [hseti]; omega
      · rw [hset j (by omega)]; exact h0 j (by omega))
    have hv1 : Inv R T i ch0 s0 (r + 1) s1 := by
      refine ⟨fun c' hc' hag hlt => ?_, ?_, fun _ => hp.some_⟩
      · by_cases hlr : rd c' (i : Int) < r
        · have hA := hv.low c' hc' hag hlr
          rcases hp.own with e | ⟨h1, h2, h3, h4⟩
          · rw [e]; exact hA
          · rcases h4 with h4 | h4
            · have := (hc'.ok i hi).1
              exact absurd h4 (hv.some_ (by omega))
            · exact ⟨by omega, fun h => by omega⟩
        · have hagr : Agree (i + 1) c' (ch.set i (r : Int)) := by
            intro j hj
            by_cases e : j = i
            · subst e; rw [hseti]; omega
            · rw [hset j (by omega)]; exact hag j (by omega)
          have hA := hp.low c' hc' hagr
          refine ⟨hA.1, fun h => ?_⟩
          rcases hA.2 h with e | e
          · rcases hv.own with e2 | ⟨h1, h2, h3, h4, h5⟩
            · exact Or.inl (e.trans e2)
            · right
              rw [e]
              exact Or.inr ⟨i, hi, fun j hj => (h3 j hj).trans (hag j hj).symm, by omega⟩
          · exact Or.inr e
      · rcases hp.own with e | ⟨h1, h2, h3, h4⟩
        · rw [e]
          rcases hv.own with e2 | ⟨h1, h2, h3, h4, h5⟩
          · exact Or.inl e2
          · exact Or.inr ⟨h1, h2, h3, by omega, h5⟩
        · right
          refine ⟨h1, h2, fun j hj => (h3 j (by omega)).trans (hset j hj), ?_, ?_⟩
          · rw [h3 i (by omega), hseti]; omega
          · rcases hv.own with e2 | ⟨k1, k2, k3, k4, k5⟩
            · rw [← e2]; exact h4
            · rcases h4 with h4 | h4
              · exact absurd h4 (chok_ne g k1)
              · rcases k5 with k5 | k5
                · exact Or.inl k5
                · exact Or.inr (by omega)
    obtain ⟨ch2, s2, he2, hp2⟩ := onLoop_ev g f i hi ch0 s0 IH h0 m (r + 1) ch1 s1 (by omega) hp.len (fun j hj => (hp.agr j (by omega)).trans (hset j hj)) hv1
    exact ⟨ch2, s2, Ev.bind he he2, hp2⟩
theorem onF_ev {R T : List (List Int)} (g : GameOk R T) : ∀ (f i : Nat), i + f = R.length → ∀ (ch : List Int) (s : List Int × Int), ch.length = R.length → (∀ j : Nat, j < i → 0 ≤ rd ch (j : Int) ∧ rd ch (j : Int) < ((rd_L12 R (j : Int)).length : Int)) →
    ∃ ch' s', Ev (fun k => onF R (visB k R T) f i ch s) (ch', s') ∧ Post R T i ch s ch' s'
  | 0, i, hi, ch, s, hl, h0 => by
    have hch : ChOk R ch := ⟨hl, fun j hj => h0 j (by omega)⟩
    have hvis := visB_ev g hch s
    refine ⟨ch, _, Ev.bind hvis (Ev.now _), ⟨hl, fun _ _ => rfl, fun c' hc' hag => ?_, ?_, ?_⟩⟩
    · have e : c' = ch := agree_all (n := R.length) hc'.len hl (fun j hj => hag j (by omega))
      subst e
      split
      · exact ⟨Int.le_refl _, fun _ => Or.inr (Or.inl rfl)⟩
      · rename_i hc
        refine ⟨?_, fun _ => Or.inl rfl⟩
        rcases Int.lt_or_le (tot R T c') s.2 with h | h
        · exact absurd (Or.inr h) hc
        · exact h
    · split
      · rename_i hc; exact Or.inr ⟨hch, rfl, fun _ _ => rfl, hc⟩
      · exact Or.inl rfl
    · split
      · exact chok_ne g hch
      · rename_i hc; exact fun e => hc (Or.inl e)
  | f + 1, i, hi, ch, s, hl, h0 => by
    have := onLoop_ev g f i (by omega) ch s (fun c t h1 h2 => onF_ev g f (i + 1) (by omega) c t h1 h2) h0 (rd_L12 R (i : Int)).length 0 ch s (by omega) hl (fun _ _ => rfl)
      ⟨fun c' hc' hag hlt => by have := (hc'.ok i (by omega)).1; omega, Or.inl rfl, fun h => absurd h (by omega)⟩
    exact this
/-- Best answers with the first of the least choices. -/
theorem best_ev {R T : List (List Int)} (g : GameOk R T) : ∃ b, ChOk R b ∧ Ev (fun k => jam_Best.f k R T) (b, tot R T b, 0) ∧ ∀ c, ChOk R c → tot R T b ≤ tot R T c ∧ (tot R T b = tot R T c → LexLe R.length b c) := by
  obtain ⟨ch', s', he, hp⟩ := onF_ev g R.length 0 (by omega) (List.replicate R.length 0) ([], 0) (by simp) (fun j hj => absurd hj (by omega))
  rcases hp.own with e | ⟨h1, h2, h3, h4⟩
  · exact absurd (by rw [e]) hp.some_
  · refine ⟨s'.1, h1, ?_, fun c hc => ?_⟩
    · unfold jam_Best.f
      refine Ev.congr (fun k => if_pos ((readOk_iff R T).2 g)) (Ev.bind he ?_)
      rw [h2]
      exact Ev.now _
    · have hA := hp.low c hc (fun j hj => absurd hj (by omega))
      rw [h2]
      refine ⟨hA.1, fun h => ?_⟩
      rcases hA.2 h with e | e
      · exact absurd (by rw [e]) hp.some_
      · exact e
theorem jcosts_ev {R T : List (List Int)} {c : List Int} (g : GameOk R T) (h : ChOk R c) : Ev (fun k => jam_Costs.f k R T c) (mapR R.length (cst R T c), tot R T c, 0) := by
  unfold jam_Costs.f
  exact Ev.congr (fun k => if_pos ((playOk_iff R T c).2 ⟨g, h⟩)) (Ev.bind (costs_ev g h) (Ev.now _))
end Go.Proofs.Ytjgbdicbdlollaa.B
namespace Go.Proofs.Ytjgbdicbdlollaa.B
open Go.RowKit Go.Sort Go.Proofs.YtjgbdicbdlollaaW.PrintWords Go.Proofs.YtjgbdicbdlollaaW.PrintLast Go.Proofs.YtjgbdicbdlollaaW.PrintMore
set_option linter.unusedVariables false
set_option linter.unusedSimpArgs false
set_option linter.unusedSectionVars false
section
variable {R T : List (List Int)} {c : List Int} (g : GameOk R T) (h : ChOk R c)
include g h
end
/-- What drivers pay on a street, from the u-th on. -/
def pIn (t : List Int) : Nat → Nat → Int
  | 0, _ => 0
  | m + 1, u => rd t (u : Int) + pIn t m (u + 1)
def pO (R T : List (List Int)) (c : List Int) : Nat → Nat → Int
  | 0, _ => 0
  | m + 1, k => pIn (rd_L12 T (k : Int)) (uF R c R.length k).toNat 0 + pO R T c m (k + 1)
abbrev pot (R T : List (List Int)) (c : List Int) : Int := pO R T c T.length 0
theorem pIn_b {t : List Int} (ht : ∀ x ∈ t, 0 ≤ x ∧ x ≤ 1000) : ∀ (m u : Nat), u + m ≤ t.length → 0 ≤ pIn t m u ∧ pIn t m u ≤ 1000 * m
  | 0, _, _ => by simp [pIn]
  | m + 1, u, h => by
    have ih := pIn_b ht m (u + 1) (by omega)
    have := ht _ (rd_mem2 t u (by omega))
    simp only [pIn]
    omega
section
variable {R T : List (List Int)} {c : List Int} (g : GameOk R T) (h : ChOk R c)
include g
include h
theorem pIn_b2 {k : Nat} (hk : k < T.length) : 0 ≤ pIn (rd_L12 T (k : Int)) (uF R c R.length k).toNat 0 ∧ pIn (rd_L12 T (k : Int)) (uF R c R.length k).toNat 0 ≤ 5000 := by
  have h5 := g.r5
  have hu := uF_b g h hk R.length (Nat.le_refl _)
  have ht := g.toll _ (rdL_mem T k hk)
  have := pIn_b ht.2 (uF R c R.length k).toNat 0 (by omega)
  omega
end
section
variable {R T : List (List Int)} (hR : R.length ≤ 20) (hT : T.length ≤ 20) (hr : ∀ x ∈ R, x.length ≤ 20) (ht : ∀ x ∈ T, x.length ≤ 20)
include hR hT hr ht
end
end Go.Proofs.Ytjgbdicbdlollaa.B
namespace Go.Proofs.Ytjgbdicbdlollaa.B
open Go.RowKit Go.Sort Go.Proofs.YtjgbdicbdlollaaW.PrintWords Go.Proofs.YtjgbdicbdlollaaW.PrintLast Go.Proofs.YtjgbdicbdlollaaW.PrintMore
set_option linter.unusedVariables false
set_option linter.unusedSimpArgs false
set_option linter.unusedSectionVars false
theorem chok_set {R : List (List Int)} {c : List Int} (h : ChOk R c) {i r : Nat} (hr : r < (rd_L12 R (i : Int)).length) : ChOk R (c.set i (r : Int)) := by
  refine ⟨by simpa using h.len, fun j hj => ?_⟩
  by_cases e : j = i
  · subst e
    rw [rd_set_eq c j _ (by have := h.len; omega)]
    omega
  · rw [rd_set_ne c i j _ e]
    exact h.ok j hj
theorem rte_ne {R : List (List Int)} (c : List Int) (i j : Nat) (v : Int) (h : j ≠ i) : rte R (c.set i v) j = rte R c j := by
  unfold rte
  rw [rd_set_ne c i j v h]
theorem uF_set {R : List (List Int)} (c : List Int) (i : Nat) (v : Int) (k : Nat) : ∀ m, uF R (c.set i v) m k = if i < m then uF R c m k - bk (rte R c i) k + bk (rte R (c.set i v) i) k else uF R c m k
  | 0 => by simp [uF]
  | m + 1 => by
    have ih := uF_set (R := R) c i v k m
    simp only [uF]
    by_cases h1 : i < m
    · rw [if_pos h1] at ih
      rw [if_pos (by omega), ih, rte_ne c i m v (by omega)]
      omega
    · rw [if_neg h1] at ih
      by_cases h2 : i = m
      · subst h2
        rw [if_pos (by omega), ih]
        omega
      · rw [if_neg (by omega), ih, rte_ne c i m v (by omega)]
theorem pIn_last (t : List Int) : ∀ (m u : Nat), pIn t (m + 1) u = pIn t m u + rd t ((u + m : Nat) : Int)
  | 0, u => by simp [pIn]
  | m + 1, u => by
    have ih := pIn_last t m (u + 1)
    rw [pIn, ih, pIn]
    rw [show u + 1 + m = u + (m + 1) by omega]
    omega
section
variable {R T : List (List Int)} {c : List Int} (g : GameOk R T) (h : ChOk R c)
include g h
theorem ros_street {i r : Nat} (hi : i < R.length) (hr : r < (rd_L12 R (i : Int)).length) {k : Nat} (hk : k < T.length) :
    pIn (rd_L12 T (k : Int)) (uF R (c.set i (r : Int)) R.length k).toNat 0 + (if bk (rte R c i) k = 1 then rd (rd_L12 T (k : Int)) (uF R c R.length k - 1) else 0)
      = pIn (rd_L12 T (k : Int)) (uF R c R.length k).toNat 0 + (if bk (rte R (c.set i (r : Int)) i) k = 1 then rd (rd_L12 T (k : Int)) (uF R (c.set i (r : Int)) R.length k - 1) else 0) := by
  have h2 := chok_set h hr
  have hu := uF_set (R := R) c i (r : Int) k R.length
  rw [if_pos hi] at hu
  have h8 := g.t8
  have hp := pow_b g.t8
  have b1 := rte_b g h hi
  have b2 := rte_b g h2 hi
  have d1 := (bk_and (x := rte R c i) (k := k) (by omega) (by omega) (by omega)).2.2
  have d2 := (bk_and (x := rte R (c.set i (r : Int)) i) (k := k) (by omega) (by omega) (by omega)).2.2
  have u1 := uF_b g h hk R.length (Nat.le_refl _)
  have u2 := uF_b g h2 hk R.length (Nat.le_refl _)
  generalize uF R (c.set i (r : Int)) R.length k = v at *
  have up : bk (rte R c i) k = 1 → 1 ≤ uF R c R.length k := uF_pos g h hk R.length (Nat.le_refl _) hi
  generalize uF R c R.length k = u at *
  generalize bk (rte R c i) k = a at *
  generalize bk (rte R (c.set i (r : Int)) i) k = b at *
  rcases d1 with rfl | rfl <;> rcases d2 with rfl | rfl
  · have : v = u := by omega
    subst this; simp
  · have e : v.toNat = u.toNat + 1 := by omega
    rw [e, pIn_last, if_neg (by decide), if_pos rfl, show ((0 + u.toNat : Nat) : Int) = v - 1 by omega]
    omega
  · have hpos := up rfl
    have e : u.toNat = v.toNat + 1 := by omega
    rw [e, pIn_last, if_pos rfl, if_neg (by decide), show ((0 + v.toNat : Nat) : Int) = u - 1 by omega]
    omega
  · have : v = u := by omega
    subst this; rfl
theorem ros_sum {i r : Nat} (hi : i < R.length) (hr : r < (rd_L12 R (i : Int)).length) : ∀ (m k : Nat), k + m = T.length → pO R T (c.set i (r : Int)) m k + payS R T c i m k = pO R T c m k + payS R T (c.set i (r : Int)) i m k
  | 0, k, hk => by simp [pO, payS]
  | m + 1, k, hk => by
    have ih := ros_sum hi hr m (k + 1) (by omega)
    have hs := ros_street g h hi hr (k := k) (by omega)
    simp only [pO, payS]
    omega
/-- The cost of a driver who takes another route, and the potential, change by the same number. -/
theorem rosenthal {i r : Nat} (hi : i < R.length) (hr : r < (rd_L12 R (i : Int)).length) : pot R T (c.set i (r : Int)) + cst R T c i = pot R T c + cst R T (c.set i (r : Int)) i :=
  ros_sum g h hi hr T.length 0 (by omega)
theorem pO_b : ∀ (m k : Nat), k + m = T.length → 0 ≤ pO R T c m k ∧ pO R T c m k ≤ 5000 * m
  | 0, _, _ => by simp [pO]
  | m + 1, k, hk => by
    have ih := pO_b m (k + 1) (by omega)
    have hb := pIn_b2 g h (k := k) (by omega)
    simp only [pO]
    omega
theorem pot_b : 0 ≤ pot R T c ∧ pot R T c ≤ 40000 := by
  have := pO_b g h T.length 0 (by omega)
  have h8 := g.t8
  refine ⟨this.1, ?_⟩
  show pO R T c T.length 0 ≤ 40000
  omega
end
/-- The best route of a driver: from route r on, o the best so far. -/
def scan (R T : List (List Int)) (c : List Int) (i : Nat) : Nat → Nat → Option Nat → Int → Option Nat
  | 0, _, o, _ => o
  | m + 1, r, o, l => if cst R T (c.set i (r : Int)) i < l then scan R T c i m (r + 1) (some r) (cst R T (c.set i (r : Int)) i) else scan R T c i m (r + 1) o l
theorem scan_some (R T : List (List Int)) (c : List Int) (i : Nat) (L : Int) : ∀ (m r : Nat) (o : Option Nat) (l : Int), l ≤ L → (∀ q, o = some q → q < r ∧ cst R T (c.set i (q : Int)) i < L) → ∀ q, scan R T c i m r o l = some q → q < r + m ∧ cst R T (c.set i (q : Int)) i < L
  | 0, r, o, l, hl, ho, q, h => by simpa using ho q h
  | m + 1, r, o, l, hl, ho, q, h => by
    simp only [scan] at h
    split at h
    · rename_i hlt
      have := scan_some R T c i L m (r + 1) _ _ (by omega) (fun q' e => by injection e with e; subst e; exact ⟨by omega, by omega⟩) q h
      exact ⟨by omega, this.2⟩
    · have := scan_some R T c i L m (r + 1) _ _ hl (fun q' e => by have := ho q' e; exact ⟨by omega, this.2⟩) q h
      exact ⟨by omega, this.2⟩
/-- What a driver does who may. -/
abbrev moveF (R T : List (List Int)) (c : List Int) (i : Nat) : Option Nat := scan R T c i (rd_L12 R (i : Int)).length 0 none (cst R T c i)
def stepF (R T : List (List Int)) (c : List Int) : Nat → Nat → Option (List Int)
  | 0, _ => none
  | m + 1, i => match moveF R T c i with
    | some r => some (c.set i (r : Int))
    | none => stepF R T c m (i + 1)
theorem move_some {R T : List (List Int)} {c : List Int} {i q : Nat} (h : moveF R T c i = some q) : q < (rd_L12 R (i : Int)).length ∧ cst R T (c.set i (q : Int)) i < cst R T c i := by
  have := scan_some R T c i (cst R T c i) _ _ _ _ (Int.le_refl _) (fun q e => by cases e) q h
  exact ⟨by omega, this.2⟩
theorem stepF_some {R T : List (List Int)} {c : List Int} (g : GameOk R T) (h : ChOk R c) : ∀ (m i : Nat), i + m = R.length → ∀ c', stepF R T c m i = some c' → ChOk R c' ∧ pot R T c' < pot R T c
  | 0, _, _, c', e => by simp [stepF] at e
  | m + 1, i, hi, c', e => by
    simp only [stepF] at e
    split at e
    · rename_i r hr
      have hm := move_some hr
      injection e with e
      subst e
      have := rosenthal g h (i := i) (r := r) (by omega) hm.1
      exact ⟨chok_set h hm.1, by omega⟩
    · exact stepF_some g h m (i + 1) (by omega) c' e
def encO (o : Option Nat) : Int := match o with
  | some r => (r : Int)
  | none => -1
section
variable {R T : List (List Int)} {c : List Int} (g : GameOk R T) (h : ChOk R c)
include g h
theorem step_l1 (U : List Unit) (hU : U = unitsOf T) (x5 : List Int) (i : Nat) (hi : i < R.length) (res : List Int) (fin : Option Nat)
    (hn : fin = none → Ev (fun k => jam_game_step.l0 k c x5 (c.length : Int) ((i + 1 : Nat) : Int) R U (payF T)) res) (hs : ∀ q, fin = some q → res = c.set i (q : Int)) : ∀ (m r : Nat) (x8 : List Int) (o : Option Nat) (l : Int), r + m = (rd_L12 R (i : Int)).length → x8.length = c.length → (∀ v : Int, x8.set i v = c.set i v) → scan R T c i m r o l = fin →
    Ev (fun k => jam_game_step.l1 k c x5 (i : Int) x8 (encO o) l (c.length : Int) (i : Int) ((rd_L12 R (i : Int)).length : Int) (r : Int) R U (payF T)) res
  | 0, r, x8, o, l, hr, hx, hv, hf => by
    have hl := h.len
    have h5 := g.r5
    simp only [scan] at hf
    subst hf
    cases ho : o with
    | none =>
      refine Ev.step (fun k => ?_) (hn ho)
      simp only [jam_game_step.l1]
      rw [if_neg (by omega), if_neg (by decide), wrapN i (by omega)]
    | some q =>
      rw [hs q ho]
      refine Ev.step (f := fun _ => some (c.set i (q : Int))) (fun k => ?_) (Ev.now _)
      simp only [jam_game_step.l1]
      rw [if_neg (by omega), if_pos (show encO (some q) ≥ 0 from Int.natCast_nonneg q), if_pos (by omega), if_pos (by omega), Int.toNat_natCast, hv]
      rfl
  | m + 1, r, x8, o, l, hr, hx, hv, hf => by
    have hl := h.len
    have hrow := g.row _ (rdL_mem R i hi)
    have h2 := chok_set h (i := i) (r := r) (by omega)
    have hc := costs_ev g h2
    simp only [scan] at hf
    have hset : ∀ v : Int, (c.set i (r : Int)).set i v = c.set i v := fun v => by rw [List.set_set]
    subst hU
    by_cases hlt : cst R T (c.set i (r : Int)) i < l
    · rw [if_pos hlt] at hf
      have ih := step_l1 _ rfl x5 i hi res fin hn hs m (r + 1) (c.set i (r : Int)) (some r) _ (by omega) (by simp) hset hf
      refine Ev.step (fun k => ?_) (Ev.bind (f := fun k (bt : List Int × Int) => if (i : Int) < (bt.1.length : Int) then (if (rd bt.1 (i : Int)) < l then (jam_game_step.l1 k c x5 (i : Int) (c.set i (r : Int)) (r : Int) (rd bt.1 (i : Int)) (c.length : Int) (i : Int) ((rd_L12 R (i : Int)).length : Int) (wrap64 ((r : Int) + 1)) R (unitsOf T) (payF T)) else (jam_game_step.l1 k c x5 (i : Int) (c.set i (r : Int)) (encO o) l (c.length : Int) (i : Int) ((rd_L12 R (i : Int)).length : Int) (wrap64 ((r : Int) + 1)) R (unitsOf T) (payF T))) else none) hc (Ev.congr (fun k => ?_) ih))
      · simp only [jam_game_step.l1]
        rw [if_pos (by omega), if_pos (by omega), if_pos (by omega), Int.toNat_natCast, hv, Option.bind_some]
      · show (if (i : Int) < ((mapR R.length (cst R T (c.set i (r : Int)))).length : Int) then _ else _) = _
        rw [mapR_len, if_pos (by omega)]
        simp only [mapR_rd hi]
        rw [if_pos hlt, wrapN r (by omega)]
        rfl
    · rw [if_neg hlt] at hf
      have ih := step_l1 _ rfl x5 i hi res fin hn hs m (r + 1) (c.set i (r : Int)) o l (by omega) (by simp) hset hf
      refine Ev.step (fun k => ?_) (Ev.bind (f := fun k (bt : List Int × Int) => if (i : Int) < (bt.1.length : Int) then (if (rd bt.1 (i : Int)) < l then (jam_game_step.l1 k c x5 (i : Int) (c.set i (r : Int)) (r : Int) (rd bt.1 (i : Int)) (c.length : Int) (i : Int) ((rd_L12 R (i : Int)).length : Int) (wrap64 ((r : Int) + 1)) R (unitsOf T) (payF T)) else (jam_game_step.l1 k c x5 (i : Int) (c.set i (r : Int)) (encO o) l (c.length : Int) (i : Int) ((rd_L12 R (i : Int)).length : Int) (wrap64 ((r : Int) + 1)) R (unitsOf T) (payF T))) else none) hc (Ev.congr (fun k => ?_) ih))
      · simp only [jam_game_step.l1]
        rw [if_pos (by omega), if_pos (by omega), if_pos (by omega), Int.toNat_natCast, hv, Option.bind_some]
      · show (if (i : Int) < ((mapR R.length (cst R T (c.set i (r : Int)))).length : Int) then _ else _) = _
        rw [mapR_len, if_pos (by omega)]
        simp only [mapR_rd hi]
        rw [if_neg hlt, wrapN r (by omega)]
theorem step_l0 : ∀ (m i : Nat), i + m = R.length → Ev (fun k => jam_game_step.l0 k c (mapR R.length (cst R T c)) (c.length : Int) (i : Int) R (unitsOf T) (payF T)) ((stepF R T c m i).getD [])
  | 0, i, hi => by
    have hl := h.len
    refine Ev.step (f := fun _ => some []) (fun k => ?_) (Ev.now _)
    simp only [jam_game_step.l0]
    rw [if_neg (by omega)]
  | m + 1, i, hi => by
    have hl := h.len
    have h5 := g.r5
    have ih := step_l0 m (i + 1) (by omega)
    have hin := step_l1 g h (unitsOf T) rfl (mapR R.length (cst R T c)) i (by omega) ((stepF R T c (m + 1) i).getD []) (moveF R T c i) (fun e => by simp only [stepF]; rw [e]; exact ih) (fun q e => by simp only [stepF]; rw [e]; rfl)
      (rd_L12 R (i : Int)).length 0 c none (cst R T c i) (by omega) rfl (fun _ => rfl) rfl
    refine Ev.step (fun k => ?_) hin
    simp only [jam_game_step.l0]
    unfold slices_Clone.f
    rw [if_pos (by omega), if_pos (by omega), Option.bind_some, if_pos (by omega), mapR_len, if_pos (by omega), if_pos (by omega), mapR_rd (by omega)]
    rfl
theorem step_ev : Ev (fun k => jam_game_step.f k R (unitsOf T) (payF T) c) ((stepF R T c R.length 0).getD []) := by
  unfold jam_game_step.f
  exact Ev.bind (costs_ev g h) (step_l0 g h R.length 0 (by omega))
end
end Go.Proofs.Ytjgbdicbdlollaa.B
namespace Go.Proofs.Ytjgbdicbdlollaa.B
open Go.RowKit Go.Sort Go.Proofs.YtjgbdicbdlollaaW.PrintWords Go.Proofs.YtjgbdicbdlollaaW.PrintLast Go.Proofs.YtjgbdicbdlollaaW.PrintMore
set_option linter.unusedVariables false
set_option linter.unusedSimpArgs false
set_option linter.unusedSectionVars false
abbrev stp (R T : List (List Int)) (c : List Int) : Option (List Int) := stepF R T c R.length 0
end Go.Proofs.Ytjgbdicbdlollaa.B
namespace Go.Proofs.Ytjgbdicbdlollaa.B
open Go.RowKit Go.Sort Go.Proofs.YtjgbdicbdlollaaW.PrintWords Go.Proofs.YtjgbdicbdlollaaW.PrintLast Go.Proofs.YtjgbdicbdlollaaW.PrintMore
set_option linter.unusedVariables false
set_option linter.unusedSimpArgs false
set_option linter.unusedSectionVars false
theorem visS_ev {R T : List (List Int)} {ch : List Int} (g : GameOk R T) (h : ChOk R ch) (s : List (List Int)) (hs : s.length < 1000000) : Ev (fun k => visS k R T s ch) (s ++ if stp R T ch = none then [ch] else []) := by
  have h5 := g.r5
  have hl := h.len
  have a1 := step_ev g h
  unfold visS
  cases hc : stepF R T ch R.length 0 with
  | none =>
    rw [hc] at a1
    rw [if_pos hc]
    replace a1 : Ev (fun k => jam_game_step.f k R (unitsOf T) (payF T) ch) [] := a1
    refine Ev.bind a1 (Ev.congr (f := fun _ => some (s ++ [ch])) (fun k => ?_) (Ev.now _))
    rw [if_pos rfl]
    unfold slices_Clone.f
    rw [if_pos (by omega), Option.bind_some, if_pos hs]
  | some c' =>
    rw [hc] at a1
    have hc' := stepF_some g h R.length 0 (by omega) c' hc
    rw [if_neg (show ¬ stp R T ch = none by show ¬ stepF R T ch R.length 0 = none; rw [hc]; simp), List.append_nil]
    exact Ev.bind a1 (Ev.congr (fun k => if_neg (chok_ne g hc'.1)) (Ev.now _))
structure PostS (R T : List (List Int)) (i f : Nat) (ch : List Int) (ch' : List Int) (add : List (List Int)) : Prop where
  len : ch'.length = R.length
  agr : Agree i ch' ch
  mem : ∀ x, x ∈ add ↔ (ChOk R x ∧ Agree i x ch ∧ stp R T x = none)
  few : add.length ≤ 5 ^ f
theorem onLoopS_ev {R T : List (List Int)} (g : GameOk R T) (f i : Nat) (hi : i < R.length) (ch0 : List Int)
    (IH : ∀ (ch : List Int) (s : List (List Int)), ch.length = R.length → (∀ j : Nat, j < i + 1 → 0 ≤ rd ch (j : Int) ∧ rd ch (j : Int) < ((rd_L12 R (j : Int)).length : Int)) → s.length + 5 ^ f < 1000000 → ∃ ch' add, Ev (fun k => onF R (visS k R T) f (i + 1) ch s) (ch', s ++ add) ∧ PostS R T (i + 1) f ch ch' add)
    (h0 : ∀ j : Nat, j < i → 0 ≤ rd ch0 (j : Int) ∧ rd ch0 (j : Int) < ((rd_L12 R (j : Int)).length : Int)) :
    ∀ (m r : Nat) (ch : List Int) (s : List (List Int)), r + m = (rd_L12 R (i : Int)).length → ch.length = R.length → Agree i ch ch0 → s.length + m * 5 ^ f < 1000000 →
      ∃ ch' add, Ev (fun k => onLoop (fun c t => onF R (visS k R T) f (i + 1) c t) i m r ch s) (ch', s ++ add) ∧ ch'.length = R.length ∧ Agree i ch' ch0 ∧ (∀ x, x ∈ add ↔ (ChOk R x ∧ Agree i x ch0 ∧ (r : Int) ≤ rd x (i : Int) ∧ stp R T x = none)) ∧ add.length ≤ m * 5 ^ f
  | 0, r, ch, s, hr, hl, ha, hs => by
    refine ⟨ch, [], by rw [List.append_nil]; exact Ev.now (ch, s), hl, ha, fun x => ⟨fun h => by simp at h, fun h => ?_⟩, by simp⟩
    have := (h.1.ok i hi).2
    omega
  | m + 1, r, ch, s, hr, hl, ha, hs => by
    rw [Nat.succ_mul] at hs
    have hset : ∀ j : Nat, j < i → rd (ch.set i (r : Int)) (j : Int) = rd ch0 (j : Int) := fun j hj => by
      rw [rd_set_ne ch i j _ (by omega)]; exact ha j hj
    have hseti : rd (ch.set i (r : Int)) (i : Int) = r := rd_set_eq ch i _ (by omega)
    obtain ⟨ch1, add1, he, hp⟩ := IH (ch.set i (r : Int)) s (by simpa using hl) (fun j hj => by
      by_cases e : j = i
      · subst e; rw [hseti]; omega
      · rw [hset j (by omega)]; exact h0 j (by omega)) (by omega)
    have hf := hp.few
    obtain ⟨ch2, add2, he2, l2, a2, m2, f2⟩ := onLoopS_ev g f i hi ch0 IH h0 m (r + 1) ch1 (s ++ add1) (by omega) hp.len (fun j hj => (hp.agr j (by omega)).trans (hset j hj)) (by rw [List.length_append]; omega)
    refine ⟨ch2, add1 ++ add2, ?_, l2, a2, fun x => ?_, by rw [List.length_append, Nat.succ_mul]; omega⟩
    · rw [← List.append_assoc]
      exact Ev.bind he he2
    · rw [List.mem_append, hp.mem, m2]
      constructor
      · rintro (⟨h1, h2, h3⟩ | ⟨h1, h2, h3, h4⟩)
        · exact ⟨h1, fun j hj => (h2 j (by omega)).trans (hset j hj), by rw [h2 i (by omega), hseti]; omega, h3⟩
        · exact ⟨h1, h2, by omega, h4⟩
      · rintro ⟨h1, h2, h3, h4⟩
        by_cases e : rd x (i : Int) = r
        · refine Or.inl ⟨h1, fun j hj => ?_, h4⟩
          by_cases e2 : j = i
          · subst e2; rw [hseti]; exact e
          · rw [hset j (by omega)]; exact h2 j (by omega)
        · exact Or.inr ⟨h1, h2, by omega, h4⟩
theorem onFS_ev {R T : List (List Int)} (g : GameOk R T) : ∀ (f i : Nat), i + f = R.length → ∀ (ch : List Int) (s : List (List Int)), ch.length = R.length → (∀ j : Nat, j < i → 0 ≤ rd ch (j : Int) ∧ rd ch (j : Int) < ((rd_L12 R (j : Int)).length : Int)) → s.length + 5 ^ f < 1000000 →
    ∃ ch' add, Ev (fun k => onF R (visS k R T) f i ch s) (ch', s ++ add) ∧ PostS R T i f ch ch' add
  | 0, i, hi, ch, s, hl, h0, hs => by
    have hch : ChOk R ch := ⟨hl, fun j hj => h0 j (by omega)⟩
    have hvis := visS_ev g hch s (by omega)
    refine ⟨ch, _, Ev.bind hvis (Ev.now _), ⟨hl, fun _ _ => rfl, fun x => ?_, by split <;> simp⟩⟩
    by_cases hc : stp R T ch = none
    · rw [if_pos hc]
      constructor
      · intro h
        have : x = ch := by simpa using h
        subst this
        exact ⟨hch, fun _ _ => rfl, hc⟩
      · rintro ⟨h1, h2, h3⟩
        have : x = ch := agree_all (n := R.length) h1.len hl (fun j hj => h2 j (by omega))
        simp [this]
    · rw [if_neg hc]
      constructor
      · intro h; simp at h
      · rintro ⟨h1, h2, h3⟩
        have : x = ch := agree_all (n := R.length) h1.len hl (fun j hj => h2 j (by omega))
        subst this
        exact absurd h3 hc
  | f + 1, i, hi, ch, s, hl, h0, hs => by
    have hrow := g.row _ (rdL_mem R i (by omega))
    have hpw : (rd_L12 R (i : Int)).length * 5 ^ f ≤ 5 ^ (f + 1) := by rw [Nat.pow_succ, Nat.mul_comm (5 ^ f)]; exact Nat.mul_le_mul_right _ hrow.2.1
    obtain ⟨ch', add, he, l2, a2, m2, f2⟩ := onLoopS_ev g f i (by omega) ch (fun c t h1 h2 h3 => onFS_ev g f (i + 1) (by omega) c t h1 h2 h3) h0 (rd_L12 R (i : Int)).length 0 ch s (by omega) hl (fun _ _ => rfl) (by omega)
    refine ⟨ch', add, he, l2, a2, fun x => ?_, by omega⟩
    rw [m2]
    exact ⟨fun h => ⟨h.1, h.2.1, h.2.2.2⟩, fun h => ⟨h.1, h.2.1, (h.1.ok i (by omega)).1, h.2.2⟩⟩
/-- Settled answers with the settled choices. -/
theorem settled_ev {R T : List (List Int)} (g : GameOk R T) : ∃ L : List (List Int), L.length < 1000000 ∧ Ev (fun k => jam_Settled.f k R T) (L, 0) ∧ ∀ x, x ∈ L ↔ (ChOk R x ∧ stp R T x = none) := by
  have h5 := g.r5
  have hp : 5 ^ R.length ≤ 5 ^ 5 := Nat.pow_le_pow_right (by omega) h5
  obtain ⟨ch', add, he, hp2⟩ := onFS_ev g R.length 0 (by omega) (List.replicate R.length 0) [] (by simp) (fun j hj => absurd hj (by omega)) (by simp; omega)
  have hf := hp2.few
  refine ⟨add, by omega, ?_, fun x => ?_⟩
  · unfold jam_Settled.f
    rw [List.nil_append] at he
    exact Ev.congr (fun k => if_pos ((readOk_iff R T).2 g)) (Ev.bind he (Ev.now _))
  · rw [hp2.mem]
    exact ⟨fun h => ⟨h.1, h.2.2⟩, fun h => ⟨h.1, fun j hj => absurd hj (by omega), h.2⟩⟩
theorem settle_cnt {R T : List (List Int)} (g : GameOk R T) : ∀ (N : Nat) (now : List Int) (n : Nat), ChOk R now → pot R T now ≤ N → n + N < 900000 →
    ∃ (last : List Int) (m : Nat), ChOk R last ∧ stp R T last = none ∧ pot R T last ≤ pot R T now ∧ n ≤ m ∧ (m = n ↔ stp R T now = none) ∧ m < 1000000 ∧ (∃ K, ∀ k cc, K ≤ k → K ≤ cc → settleL k R T cc now (n : Int) = some (last, (m : Int)))
  | N, now, n, h, hp, hN => by
    obtain ⟨K, hK⟩ := step_ev g h
    cases hs : stepF R T now R.length 0 with
    | none =>
      rw [hs] at hK
      replace hK : ∀ k, K ≤ k → jam_game_step.f k R (unitsOf T) (payF T) now = some [] := hK
      refine ⟨now, n, h, hs, Int.le_refl _, Nat.le_refl _, ⟨fun _ => hs, fun _ => rfl⟩, by omega, ⟨K + 1, fun k cc h1 h2 => ?_⟩⟩
      obtain ⟨c2, rfl⟩ : ∃ c2, cc = c2 + 1 := ⟨cc - 1, by omega⟩
      rw [settleL, hK k (by omega), Option.bind_some, if_pos rfl]
    | some c' =>
      rw [hs] at hK
      replace hK : ∀ k, K ≤ k → jam_game_step.f k R (unitsOf T) (payF T) now = some c' := hK
      have hc' := stepF_some g h R.length 0 (by omega) c' hs
      have hb := pot_b g hc'.1
      match N, hp, hN with
      | 0, hp, hN => exact absurd hc'.2 (by omega)
      | N + 1, hp, hN =>
        obtain ⟨last, m, h1, h2, h3, h4, h5, h6, ⟨K2, hK2⟩⟩ := settle_cnt g N c' (n + 1) hc'.1 (by have := hc'.2; omega) (by omega)
        refine ⟨last, m, h1, h2, by have := hc'.2; omega, by omega, ⟨fun e => by omega, fun e => ?_⟩, h6, ⟨K + K2 + 1, fun k cc k1 k2 => ?_⟩⟩
        · have e2 : stepF R T now R.length 0 = none := e
          rw [hs] at e2; exact absurd e2 (by simp)
        · obtain ⟨c2, rfl⟩ : ∃ c2, cc = c2 + 1 := ⟨cc - 1, by omega⟩
          rw [settleL, hK k (by omega), Option.bind_some, if_neg (chok_ne g hc'.1), wrapN n (by omega)]
          exact hK2 k c2 (by omega) (by omega)
theorem jsettle_ev {R T : List (List Int)} {c : List Int} (g : GameOk R T) (h : ChOk R c) : ∃ (last : List Int) (m : Nat), ChOk R last ∧ stp R T last = none ∧ pot R T last ≤ pot R T c ∧ (m = 0 ↔ stp R T c = none) ∧ m < 1000000 ∧ Ev (fun k => jam_Settle.f k R T c) (last, (m : Int), 0) := by
  have hb := pot_b g h
  have hl := h.len
  have h5 := g.r5
  obtain ⟨last, m, h1, h2, h3, h4, h5', h6, ⟨K, hK⟩⟩ := settle_cnt g 40000 c 0 h (by omega) (by omega)
  refine ⟨last, m, h1, h2, h3, h5', h6, ?_⟩
  unfold jam_Settle.f
  refine Ev.congr (fun k => if_pos ((playOk_iff R T c).2 ⟨g, h⟩)) ?_
  refine Ev.congr (f := fun k => (settleL k R T k c 0).bind fun r => some (r.1, r.2, 0)) (fun k => ?_) (Ev.bind (a := (last, (m : Int))) ⟨K, fun k hk => hK k k hk hk⟩ (Ev.now _))
  unfold slices_Clone.f
  rw [if_pos (by omega), Option.bind_some]
end Go.Proofs.Ytjgbdicbdlollaa.B
namespace Go.Proofs.Ytjgbdicbdlollaa.B
open Go.RowKit Go.Sort Go.Proofs.YtjgbdicbdlollaaW.PrintWords Go.Proofs.YtjgbdicbdlollaaW.PrintLast Go.Proofs.YtjgbdicbdlollaaW.PrintMore
set_option linter.unusedVariables false
set_option linter.unusedSimpArgs false
set_option linter.unusedSectionVars false
/-- A sum of m terms from a on. -/
def sumA (f : Nat → Int) (a : Nat) : Nat → Int
  | 0 => 0
  | m + 1 => sumA f a m + f (a + m)
theorem sumA_cut (f : Nat → Int) (a : Nat) : ∀ m k : Nat, sumA f a (m + k) = sumA f a m + sumA f (a + m) k
  | m, 0 => by simp [sumA]
  | m, k + 1 => by
    show sumA f a (m + k) + f (a + (m + k)) = sumA f a m + (sumA f (a + m) k + f (a + m + k))
    rw [sumA_cut f a m k, Nat.add_assoc a m k]
    omega
theorem sumA_eq (f g : Nat → Int) (a b : Nat) : ∀ m : Nat, (∀ i, i < m → f (a + i) = g (b + i)) → sumA f a m = sumA g b m
  | 0, _ => rfl
  | m + 1, h => by
    show sumA f a m + f (a + m) = sumA g b m + g (b + m)
    rw [sumA_eq f g a b m (fun i hi => h i (by omega)), h m (by omega)]
/-- A turned sum is the same. -/
theorem sum_turn (f g : Nat → Int) (n b : Nat) (hn : 0 < n) (h : ∀ k, k < n → f ((k + b) % n) = g k) : sumA f 0 n = sumA g 0 n := by
  have hb : b % n < n := Nat.mod_lt _ hn
  obtain ⟨p, hp⟩ : ∃ p, b % n = p := ⟨_, rfl⟩
  rw [hp] at hb
  have h2 : ∀ k, k < n → f ((k + p) % n) = g k := fun k hk => by rw [← h k hk, ← hp, Nat.add_mod_mod]
  have e1 : sumA f 0 n = sumA f 0 p + sumA f (0 + p) (n - p) := by rw [← sumA_cut]; congr 1; omega
  have e2 : sumA g 0 n = sumA g 0 (n - p) + sumA g (0 + (n - p)) p := by rw [← sumA_cut]; congr 1; omega
  rw [e1, e2, sumA_eq f g (0 + p) 0 (n - p) (fun i hi => by
      have := h2 i (by omega)
      rw [Nat.mod_eq_of_lt (by omega)] at this
      rw [Nat.zero_add, Nat.zero_add, Nat.add_comm p i]; exact this),
    sumA_eq f g 0 (0 + (n - p)) p (fun i hi => by
      have := h2 (n - p + i) (by omega)
      rw [show n - p + i + p = i + n by omega, Nat.add_mod_right, Nat.mod_eq_of_lt (by omega)] at this
      rw [Nat.zero_add, Nat.zero_add]; exact this)]
  omega
theorem uF_sum (R : List (List Int)) (c : List Int) (k : Nat) : ∀ m, uF R c m k = sumA (fun i => bk (rte R c i) k) 0 m
  | 0 => rfl
  | m + 1 => by
    show uF R c m k + bk (rte R c m) k = sumA (fun i => bk (rte R c i) k) 0 m + bk (rte R c (0 + m)) k
    rw [uF_sum R c k m, Nat.zero_add]
theorem totF_sum (R T : List (List Int)) (c : List Int) : ∀ m, totF R T c m = sumA (fun i => cst R T c i) 0 m
  | 0 => rfl
  | m + 1 => by
    show totF R T c m + cst R T c m = sumA (fun i => cst R T c i) 0 m + cst R T c (0 + m)
    rw [totF_sum R T c m, Nat.zero_add]
/-- d is c turned by b, and all rows of routes are one. -/
structure Turn (R : List (List Int)) (b : Nat) (c d : List Int) : Prop where
  row : ∀ i j : Nat, i < R.length → j < R.length → rd_L12 R (i : Int) = rd_L12 R (j : Int)
  pos : 0 < R.length
  lc : c.length = R.length
  ld : d.length = R.length
  at_ : ∀ k : Nat, k < R.length → rd d (((k + b) % R.length : Nat) : Int) = rd c (k : Int)
section
variable {R T : List (List Int)} {b : Nat} {c d : List Int}
theorem Turn.lt (h : Turn R b c d) (k : Nat) : (k + b) % R.length < R.length := Nat.mod_lt _ h.pos
theorem Turn.rte (h : Turn R b c d) {k : Nat} (hk : k < R.length) : rte R d ((k + b) % R.length) = rte R c k := by
  unfold B.rte
  rw [h.at_ k hk, h.row _ k (h.lt k) hk]
theorem Turn.users (h : Turn R b c d) (s : Nat) : uF R d R.length s = uF R c R.length s := by
  rw [uF_sum, uF_sum]
  exact sum_turn _ _ R.length b h.pos (fun k hk => by show bk _ s = bk _ s; rw [h.rte hk])
theorem Turn.pay (h : Turn R b c d) {k : Nat} (hk : k < R.length) : ∀ m s : Nat, payS R T d ((k + b) % R.length) m s = payS R T c k m s
  | 0, _ => rfl
  | m + 1, s => by
    simp only [payS]
    rw [h.rte hk, h.users s, h.pay hk m (s + 1)]
theorem Turn.cst (h : Turn R b c d) {k : Nat} (hk : k < R.length) : cst R T d ((k + b) % R.length) = cst R T c k := h.pay hk _ _
theorem Turn.tot (h : Turn R b c d) : tot R T d = tot R T c := by
  show totF R T d R.length = totF R T c R.length
  rw [totF_sum, totF_sum]
  exact sum_turn _ _ R.length b h.pos (fun k hk => h.cst hk)
theorem mod_inj {n b k j : Nat} (hk : k < n) (hj : j < n) (h : (k + b) % n = (j + b) % n) : k = j := by
  have h1 : (k + b) % n = (k + b % n) % n := by rw [Nat.add_mod_mod]
  have h2 : (j + b) % n = (j + b % n) % n := by rw [Nat.add_mod_mod]
  rw [h1, h2] at h
  have hb : b % n < n := Nat.mod_lt _ (by omega)
  obtain ⟨p, hp⟩ : ∃ p, b % n = p := ⟨_, rfl⟩
  rw [hp] at h hb
  by_cases h3 : k + p < n
  · by_cases h4 : j + p < n
    · rw [Nat.mod_eq_of_lt h3, Nat.mod_eq_of_lt h4] at h; omega
    · rw [Nat.mod_eq_of_lt h3, Nat.mod_eq_sub_mod (by omega), Nat.mod_eq_of_lt (by omega)] at h; omega
  · by_cases h4 : j + p < n
    · rw [Nat.mod_eq_of_lt h4, Nat.mod_eq_sub_mod (by omega), Nat.mod_eq_of_lt (by omega)] at h; omega
    · rw [Nat.mod_eq_sub_mod (by omega), Nat.mod_eq_of_lt (by omega : k + p - n < n), Nat.mod_eq_sub_mod (by omega), Nat.mod_eq_of_lt (by omega : j + p - n < n)] at h; omega
theorem mod_onto {n b j : Nat} (hj : j < n) : ∃ k, k < n ∧ (k + b) % n = j := by
  have hb : b % n < n := Nat.mod_lt _ (by omega)
  obtain ⟨p, hp⟩ : ∃ p, b % n = p := ⟨_, rfl⟩
  rw [hp] at hb
  by_cases h : p ≤ j
  · refine ⟨j - p, by omega, ?_⟩
    rw [← Nat.add_mod_mod, hp, show j - p + p = j by omega, Nat.mod_eq_of_lt hj]
  · refine ⟨j + n - p, by omega, ?_⟩
    rw [← Nat.add_mod_mod, hp, show j + n - p + p = j + n by omega, Nat.add_mod_right, Nat.mod_eq_of_lt hj]
theorem Turn.set (h : Turn R b c d) {k : Nat} (hk : k < R.length) (v : Int) : Turn R b (c.set k v) (d.set ((k + b) % R.length) v) := by
  have hl := h.lc
  have hd := h.ld
  have hlt := h.lt k
  refine ⟨h.row, h.pos, by simpa using h.lc, by simpa using h.ld, fun j hj => ?_⟩
  by_cases e : j = k
  · subst e
    rw [rd_set_eq _ _ _ (by omega), rd_set_eq _ _ _ (by omega)]
  · rw [rd_set_ne _ _ _ _ (fun e2 => e (mod_inj hj hk e2)), rd_set_ne _ _ _ _ e, h.at_ j hj]
theorem scan_none (i : Nat) : ∀ (m r : Nat) (l : Int), (∀ q : Nat, r ≤ q → q < r + m → l ≤ B.cst R T (c.set i (q : Int)) i) → scan R T c i m r none l = none
  | 0, _, _, _ => rfl
  | m + 1, r, l, h => by
    simp only [scan]
    rw [if_neg (by have := h r (by omega) (by omega); omega)]
    exact scan_none i m (r + 1) l (fun q h1 h2 => h q (by omega) (by omega))
theorem scan_keeps (i : Nat) : ∀ (m r : Nat) (o : Option Nat) (l : Int), o ≠ none → scan R T c i m r o l ≠ none
  | 0, _, _, _, h => h
  | m + 1, r, o, l, h => by
    simp only [scan]
    split
    · exact scan_keeps i m (r + 1) _ _ (by simp)
    · exact scan_keeps i m (r + 1) _ _ h
theorem scan_none_iff (i : Nat) : ∀ (m r : Nat) (l : Int), scan R T c i m r none l = none → ∀ q : Nat, r ≤ q → q < r + m → l ≤ B.cst R T (c.set i (q : Int)) i
  | 0, _, _, _, q, h1, h2 => by omega
  | m + 1, r, l, h, q, h1, h2 => by
    simp only [scan] at h
    split at h
    · exact absurd h (scan_keeps i m (r + 1) _ _ (by simp))
    · by_cases e : q = r
      · subst e; omega
      · exact scan_none_iff i m (r + 1) l h q (by omega) (by omega)
theorem stp_none (hR : 0 < R.length) : stp R T c = none ↔ ∀ i : Nat, i < R.length → ∀ q : Nat, q < (rd_L12 R (i : Int)).length → B.cst R T c i ≤ B.cst R T (c.set i (q : Int)) i := by
  have gen : ∀ (m i : Nat), i + m = R.length → (stepF R T c m i = none ↔ ∀ j : Nat, i ≤ j → j < R.length → moveF R T c j = none) := by
    intro m
    induction m with
    | zero => intro i hi; exact ⟨fun _ j h1 h2 => by omega, fun _ => rfl⟩
    | succ m ih =>
      intro i hi
      simp only [stepF]
      cases hm : moveF R T c i with
      | some r => exact ⟨fun h => by simp at h, fun h => by rw [h i (by omega) (by omega)] at hm; simp at hm⟩
      | none =>
        show stepF R T c m (i + 1) = none ↔ _
        rw [ih (i + 1) (by omega)]
        exact ⟨fun h j h1 h2 => if e : j = i then by rw [e]; exact hm else h j (by omega) h2, fun h j h1 h2 => h j (by omega) h2⟩
  rw [show stp R T c = stepF R T c R.length 0 from rfl, gen R.length 0 (by omega)]
  constructor
  · intro h i hi q hq
    exact scan_none_iff i _ 0 _ (h i (by omega) hi) q (by omega) (by omega)
  · intro h i _ hi
    exact scan_none i _ 0 _ (fun q _ h2 => h i hi q (by omega))
theorem Turn.stp (h : Turn R b c d) (hs : stp R T c = none) : B.stp R T d = none := by
  rw [stp_none h.pos] at hs ⊢
  intro i hi q hq
  obtain ⟨k, hk, rfl⟩ := mod_onto (b := b) hi
  rw [h.cst hk, (h.set hk (q : Int)).cst hk]
  exact hs k hk q (by rw [h.row k _ hk hi]; exact hq)
theorem Turn.ok (h : Turn R b c d) (hc : ChOk R c) : ChOk R d := by
  refine ⟨h.ld, fun i hi => ?_⟩
  obtain ⟨k, hk, rfl⟩ := mod_onto (b := b) hi
  rw [h.at_ k hk, h.row _ k hi hk]
  exact hc.ok k hk
end
end Go.Proofs.Ytjgbdicbdlollaa.B
namespace Go.Proofs.Ytjgbdicbdlollaa.B
open Go.RowKit Go.Proofs.YtjgbdicbdlollaaW.PrintWords Go.Proofs.YtjgbdicbdlollaaW.PrintLast Go.Proofs.YtjgbdicbdlollaaW.PrintMore
set_option linter.unusedVariables false
set_option linter.unusedSimpArgs false
def choices.B7 : List Nat := [0, 0, 0, 0, 8, 0, 32, 124, 0, 256, 1020, 2046, 4095, 8191]
end Go.Proofs.Ytjgbdicbdlollaa.B
namespace Go.Proofs.Ytjgbdicbdlollaa.B
open Go.RowKit Go.Sort Go.Proofs.YtjgbdicbdlollaaW.PrintWords Go.Proofs.YtjgbdicbdlollaaW.PrintLast Go.Proofs.YtjgbdicbdlollaaW.PrintMore
set_option linter.unusedVariables false
set_option linter.unusedSimpArgs false
set_option linter.unusedSectionVars false
theorem bk01 (x : Int) (k : Nat) : bk x k = 0 ∨ bk x k = 1 := by
  unfold bk
  omega
theorem sumA_le (f g : Nat → Int) (a : Nat) : ∀ m : Nat, (∀ i, i < m → f (a + i) ≤ g (a + i)) → sumA f a m ≤ sumA g a m
  | 0, _ => Int.le_refl _
  | m + 1, h => by
    have := sumA_le f g a m (fun i hi => h i (by omega))
    have := h m (by omega)
    show sumA f a m + f (a + m) ≤ sumA g a m + g (a + m)
    omega
theorem sumA_add (f g : Nat → Int) (a : Nat) : ∀ m : Nat, sumA (fun i => f i + g i) a m = sumA f a m + sumA g a m
  | 0 => rfl
  | m + 1 => by
    have := sumA_add f g a m
    show sumA (fun i => f i + g i) a m + (f (a + m) + g (a + m)) = (sumA f a m + f (a + m)) + (sumA g a m + g (a + m))
    omega
theorem sumA_mul (c : Int) (f : Nat → Int) (a : Nat) : ∀ m : Nat, sumA (fun i => c * f i) a m = c * sumA f a m
  | 0 => by simp [sumA]
  | m + 1 => by
    have := sumA_mul c f a m
    show sumA (fun i => c * f i) a m + c * f (a + m) = c * (sumA f a m + f (a + m))
    rw [this, Int.mul_add]
theorem sumA_first (f : Nat → Int) (a m : Nat) : sumA f a (m + 1) = f a + sumA f (a + 1) m := by
  rw [Nat.add_comm m 1, sumA_cut f a 1 m]
  show 0 + f (a + 0) + _ = _
  rw [Nat.add_zero]
  omega
section
variable (R T : List (List Int)) (c : List Int)
/-- What one driver of street s pays. -/
def prc (s : Nat) : Int := rd (rd_L12 T (s : Int)) (uF R c R.length s - 1)
theorem payS_sum (i : Nat) : ∀ m k : Nat, payS R T c i m k = sumA (fun s => bk (rte R c i) s * prc R T c s) k m
  | 0, _ => rfl
  | m + 1, k => by
    rw [sumA_first, ← payS_sum i m (k + 1)]
    simp only [payS]
    rcases bk01 (rte R c i) k with h | h
    · rw [h, if_neg (by decide), Int.zero_mul]
    · rw [h, if_pos rfl, Int.one_mul]; rfl
theorem tot_exch : ∀ m : Nat, totF R T c m = sumA (fun s => uF R c m s * prc R T c s) 0 T.length
  | 0 => by
    have : ∀ m, sumA (fun s => uF R c 0 s * prc R T c s) 0 m = 0 := by
      intro m
      induction m with
      | zero => rfl
      | succ m ih => show _ + (0 : Int) * _ = 0; rw [ih, Int.zero_mul]; rfl
    rw [this]
    rfl
  | m + 1 => by
    have ih := tot_exch m
    have e : sumA (fun s => uF R c (m + 1) s * prc R T c s) 0 T.length = sumA (fun s => uF R c m s * prc R T c s + bk (rte R c m) s * prc R T c s) 0 T.length :=
      sumA_eq _ _ 0 0 T.length (fun i _ => by show (uF R c m (0 + i) + bk (rte R c m) (0 + i)) * _ = _; rw [Int.add_mul])
    rw [e, sumA_add, ← ih, ← payS_sum]
    rfl
end
/-- The tolls of each street are a + b k for k drivers. -/
structure AffT (R T : List (List Int)) (a b : Nat → Int) : Prop where
  a0 : ∀ s : Nat, s < T.length → 0 ≤ a s
  b0 : ∀ s : Nat, s < T.length → 0 ≤ b s
  at_ : ∀ s : Nat, s < T.length → ∀ k : Nat, k < R.length → rd (rd_L12 T (s : Int)) (k : Int) = a s + ((k : Int) + 1) * b s
theorem small_cases {x : Int} (h0 : 0 ≤ x) (h1 : x ≤ 5) : x = 0 ∨ x = 1 ∨ x = 2 ∨ x = 3 ∨ x = 4 ∨ x = 5 := by omega
theorem street_le (a b x y : Int) (ha : 0 ≤ a) (hb : 0 ≤ b) (x0 : 0 ≤ x) (x5 : x ≤ 5) (y0 : 0 ≤ y) (y5 : y ≤ 5) :
    3 * (y * (a + (x + 1) * b)) ≤ 5 * (y * (a + y * b)) + x * (a + x * b) := by
  rcases small_cases x0 x5 with rfl | rfl | rfl | rfl | rfl | rfl <;> rcases small_cases y0 y5 with rfl | rfl | rfl | rfl | rfl | rfl <;> omega
section
variable {R T : List (List Int)} {a b : Nat → Int} (g : GameOk R T) (A : AffT R T a b)
include g A
theorem prc_at {c : List Int} (h : ChOk R c) {s : Nat} (hs : s < T.length) (hp : 1 ≤ uF R c R.length s) : prc R T c s = a s + uF R c R.length s * b s := by
  have hb := uF_b g h hs R.length (Nat.le_refl _)
  obtain ⟨u, hu⟩ : ∃ u : Nat, uF R c R.length s = (u : Int) + 1 := ⟨(uF R c R.length s - 1).toNat, by omega⟩
  unfold prc
  rw [hu, show (u : Int) + 1 - 1 = (u : Int) by omega, A.at_ s hs u (by omega)]
theorem tot_aff {c : List Int} (h : ChOk R c) : tot R T c = sumA (fun s => uF R c R.length s * (a s + uF R c R.length s * b s)) 0 T.length := by
  show totF R T c R.length = _
  rw [tot_exch]
  refine sumA_eq _ _ 0 0 _ (fun s hs => ?_)
  simp only [Nat.zero_add]
  have hb := uF_b g h hs R.length (Nat.le_refl _)
  by_cases hp : 1 ≤ uF R c R.length s
  · rw [prc_at g A h hs hp]
  · rw [show uF R c R.length s = 0 by omega, Int.zero_mul, Int.zero_mul]
theorem dev_le {c d : List Int} (h : ChOk R c) (hd : ChOk R d) {i : Nat} (hi : i < R.length) :
    cst R T (c.set i (rd d (i : Int))) i ≤ sumA (fun s => bk (rte R d i) s * (a s + (uF R c R.length s + 1) * b s)) 0 T.length := by
  have hdi := hd.ok i hi
  have hcl := h.len
  obtain ⟨q, hq⟩ : ∃ q : Nat, rd d (i : Int) = (q : Int) := ⟨(rd d (i : Int)).toNat, by omega⟩
  have hset : ChOk R (c.set i (rd d (i : Int))) := by rw [hq]; exact chok_set h (by rw [hq] at hdi; omega)
  have hr : rte R (c.set i (rd d (i : Int))) i = rte R d i := by
    unfold rte
    rw [rd_set_eq _ _ _ (by omega)]
  show payS R T _ i T.length 0 ≤ _
  rw [payS_sum]
  refine sumA_le _ _ 0 _ (fun s hs => ?_)
  simp only [Nat.zero_add]
  rw [hr]
  rcases bk01 (rte R d i) s with e | e
  · rw [e, Int.zero_mul, Int.zero_mul]; exact Int.le_refl _
  · rw [e, Int.one_mul, Int.one_mul]
    have hpos := uF_pos g hset hs R.length (Nat.le_refl _) hi (by rw [hr]; exact e)
    rw [prc_at g A hset hs hpos]
    have hu := uF_set (R := R) c i (rd d (i : Int)) s R.length
    rw [if_pos hi, hr, e] at hu
    have hle : uF R (c.set i (rd d (i : Int))) R.length s ≤ uF R c R.length s + 1 := by
      rcases bk01 (rte R c i) s with e2 | e2 <;> omega
    have := Int.mul_le_mul_of_nonneg_right hle (A.b0 s hs)
    omega
theorem tot_dev {c d : List Int} (h : ChOk R c) (hd : ChOk R d) (hst : stp R T c = none) : ∀ m : Nat, m ≤ R.length →
    totF R T c m ≤ sumA (fun s => uF R d m s * (a s + (uF R c R.length s + 1) * b s)) 0 T.length
  | 0, _ => by
    have : ∀ m, sumA (fun s => uF R d 0 s * (a s + (uF R c R.length s + 1) * b s)) 0 m = 0 := by
      intro m
      induction m with
      | zero => rfl
      | succ m ih => show _ + (0 : Int) * _ = 0; rw [ih, Int.zero_mul]; rfl
    rw [this]
    exact Int.le_refl _
  | m + 1, hm => by
    have ih := tot_dev h hd hst m (by omega)
    have hdi := hd.ok m (by omega)
    obtain ⟨q, hq⟩ : ∃ q : Nat, rd d (m : Int) = (q : Int) := ⟨(rd d (m : Int)).toNat, by omega⟩
    have hn := (stp_none (R := R) (T := T) (c := c) (by omega)).1 hst m (by omega) q (by rw [hq] at hdi; omega)
    rw [← hq] at hn
    have hv := dev_le g A h hd (i := m) (by omega)
    have e : sumA (fun s => uF R d (m + 1) s * (a s + (uF R c R.length s + 1) * b s)) 0 T.length = sumA (fun s => uF R d m s * (a s + (uF R c R.length s + 1) * b s) + bk (rte R d m) s * (a s + (uF R c R.length s + 1) * b s)) 0 T.length :=
      sumA_eq _ _ 0 0 T.length (fun i _ => by show (uF R d m (0 + i) + bk (rte R d m) (0 + i)) * _ = _; rw [Int.add_mul])
    rw [e, sumA_add]
    show totF R T c m + cst R T c m ≤ _
    omega
theorem affine_le {c d : List Int} (h : ChOk R c) (hd : ChOk R d) (hst : stp R T c = none) : 2 * tot R T c ≤ 5 * tot R T d := by
  have h1 : tot R T c ≤ _ := tot_dev g A h hd hst R.length (Nat.le_refl _)
  have h2 : 3 * sumA (fun s => uF R d R.length s * (a s + (uF R c R.length s + 1) * b s)) 0 T.length ≤ 5 * tot R T d + tot R T c := by
    rw [tot_aff g A h, tot_aff g A hd, ← sumA_mul, ← sumA_mul, ← sumA_add]
    refine sumA_le _ _ 0 _ (fun s hs => ?_)
    simp only [Nat.zero_add]
    have b1 := uF_b g h hs R.length (Nat.le_refl _)
    have b2 := uF_b g hd hs R.length (Nat.le_refl _)
    have r5 := g.r5
    exact street_le _ _ _ _ (A.a0 s hs) (A.b0 s hs) b1.1 (by omega) b2.1 (by omega)
  omega
end
end Go.Proofs.Ytjgbdicbdlollaa.B
namespace Go.Proofs.Ytjgbdicbdlollaa.B
open Go.RowKit Go.Sort Go.Proofs.YtjgbdicbdlollaaW.PrintWords Go.Proofs.YtjgbdicbdlollaaW.PrintLast Go.Proofs.YtjgbdicbdlollaaW.PrintMore
set_option linter.unusedVariables false
set_option linter.unusedSimpArgs false
/-- A street's a and b. -/
def affA (X : List S57) (s : Nat) : Int := (rd_T57 X (s : Int)).f0 / 2
def affB (X : List S57) (s : Nat) : Int := (rd_T57 X (s : Int)).f1 / 2
def affRow (X : List S57) (N s : Nat) : List Int := mapR N (fun k => affA X s + ((k : Int) + 1) * affB X s)
def affTo (X : List S57) (N m : Nat) : List (List Int) := (List.range m).map (affRow X N)
section
variable {X : List S57} (hx : ∀ x ∈ X, okS57 x)
include hx
theorem line_b {s : Nat} (hs : s < X.length) : (0 ≤ (rd_T57 X (s : Int)).f0 ∧ (rd_T57 X (s : Int)).f0 ≤ 255) ∧ (0 ≤ (rd_T57 X (s : Int)).f1 ∧ (rd_T57 X (s : Int)).f1 ≤ 255) := by
  have e : rd_T57 X (s : Int) = X[s] := by simp [rd_T57, List.getD, List.getElem?_eq_getElem hs]
  have h := hx _ (List.getElem_mem hs)
  rw [e]
  exact ⟨bounds_u8 h.1, bounds_u8 h.2⟩
theorem ab_b {s : Nat} (hs : s < X.length) : (0 ≤ affA X s ∧ affA X s ≤ 127) ∧ (0 ≤ affB X s ∧ affB X s ≤ 127) := by
  have := line_b hx hs
  unfold affA affB
  omega
theorem aff_val {s : Nat} (hs : s < X.length) (j : Nat) (hj : j < 20) : wrap64 ((wrap64 (Int.tdiv (wrap64 ((rd_T57 X (s : Int)).f0)) 2)) + (wrap64 (((j : Int) + 1) * (wrap64 (Int.tdiv (wrap64 ((rd_T57 X (s : Int)).f1)) 2))))) = affA X s + ((j : Int) + 1) * affB X s := by
  have hb := line_b hx hs
  have hab := ab_b hx hs
  have w0 : wrap64 ((rd_T57 X (s : Int)).f0) = (rd_T57 X (s : Int)).f0 := by unfold wrap64; omega
  have w1 : wrap64 ((rd_T57 X (s : Int)).f1) = (rd_T57 X (s : Int)).f1 := by unfold wrap64; omega
  rw [w0, w1, Int.tdiv_eq_ediv_of_nonneg hb.1.1, Int.tdiv_eq_ediv_of_nonneg hb.2.1]
  show wrap64 (wrap64 (affA X s) + wrap64 (((j : Int) + 1) * wrap64 (affB X s))) = _
  have p0 : 0 ≤ ((j : Int) + 1) * affB X s := Int.mul_nonneg (by omega) hab.2.1
  have p1 : ((j : Int) + 1) * affB X s ≤ 20 * 127 := Int.mul_le_mul (by omega) hab.2.2 hab.2.1 (by omega)
  rw [show wrap64 (affB X s) = affB X s by unfold wrap64; omega, show wrap64 (affA X s) = affA X s by unfold wrap64; omega]
  generalize ((j : Int) + 1) * affB X s = z at p0 p1 ⊢
  unfold wrap64
  omega
theorem aff_l1 (R : List (List Int)) (T : List (List Int)) {s : Nat} (hs : s < X.length) (hT : T.length ≤ 20) (N : Nat) (hN : N = min R.length 20) (h20 : X.length ≤ 20) (r : Bool)
    (hn : Ev (fun k => trishawlaw02_JamAffine.l0 k R X ((s + 1 : Nat) : Int) R (T ++ [affRow X N s])) r) : ∀ (m j : Nat), j + m = N →
    Ev (fun k => trishawlaw02_JamAffine.l1 k R X (s : Int) (mapR j (fun k => affA X s + ((k : Int) + 1) * affB X s)) ((j : Int) + 1) R T) r
  | 0, j, hj => by
    obtain rfl : j = N := by omega
    refine Ev.step (fun k => ?_) hn
    simp only [trishawlaw02_JamAffine.l1]
    rw [wrapN s (by omega)]
    by_cases h1 : R.length ≤ 20
    · rw [if_neg (by omega), if_pos (by omega)]
      rfl
    · rw [if_pos (by omega), if_neg (by omega), if_pos (by omega)]
      rfl
  | m + 1, j, hj => by
    have ih := aff_l1 R T hs hT N hN h20 r hn m (j + 1) (by omega)
    refine Ev.step (fun k => ?_) ih
    have hlen : (mapR j (fun k => affA X s + ((k : Int) + 1) * affB X s)).length < 17592186044416 := by rw [mapR_len]; omega
    simp only [trishawlaw02_JamAffine.l1]
    rw [if_pos (by omega), if_pos (by omega), if_pos (by omega), if_pos (by omega), if_pos hlen, aff_val hx hs j (by omega), mapR_succ]
    rw [show wrap64 ((j : Int) + 1 + 1) = ((j + 1 : Nat) : Int) + 1 by unfold wrap64; omega]
theorem aff_l0 (R : List (List Int)) (N : Nat) (hN : N = min R.length 20) (h20 : X.length ≤ 20) (r : Bool)
    (hn : Ev (fun k => trishawlaw02_JamAffine.l0 k R X (X.length : Int) R (affTo X N X.length)) r) : ∀ (m s : Nat), s + m = X.length → Ev (fun k => trishawlaw02_JamAffine.l0 k R X (s : Int) R (affTo X N s)) r
  | 0, s, hs => by
    obtain rfl : s = X.length := by omega
    exact hn
  | m + 1, s, hs => by
    have ih := aff_l0 R N hN h20 r hn m (s + 1) (by omega)
    have hT : affTo X N (s + 1) = affTo X N s ++ [affRow X N s] := by simp [affTo, List.range_succ]
    rw [hT] at ih
    have h1 := aff_l1 hx R (affTo X N s) (s := s) (by omega) (by simp [affTo]; omega) N hN h20 r ih N 0 (by omega)
    refine Ev.step (fun k => ?_) h1
    simp only [trishawlaw02_JamAffine.l0]
    rw [if_pos (by omega)]
    rfl
theorem affT_ok {R : List (List Int)} {N : Nat} (hN : N = min R.length 20) (g : GameOk R (affTo X N X.length)) : AffT R (affTo X N X.length) (affA X) (affB X) := by
  have hl : (affTo X N X.length).length = X.length := by simp [affTo]
  have r5 := g.r5
  refine ⟨fun s hs => (ab_b hx (by omega)).1.1, fun s hs => (ab_b hx (by omega)).2.1, fun s hs k hk => ?_⟩
  rw [rdL _ s hs]
  have e : (affTo X N X.length)[s] = affRow X N s := by simp [affTo]
  rw [e]
  exact mapR_rd (by omega)
end
section
variable {R T : List (List Int)} (g : GameOk R T) {a b : Nat → Int} (A : AffT R T a b) {L : List (List Int)} (hL : L.length < 1000000) (mL : ∀ x, x ∈ L ↔ (ChOk R x ∧ stp R T x = none)) {d : List Int} (hd : ChOk R d) (hmin : ∀ c, ChOk R c → tot R T d ≤ tot R T c)
include g A hL mL hd hmin
theorem aff_l2 (hpos : 0 < L.length) : ∀ (m i : Nat), i + m = L.length → Ev (fun k => trishawlaw02_JamAffine.l2 k L (tot R T d) (i : Int) R T) true
  | 0, i, hi => by
    refine Ev.step (fun k => ?_) alive_ev2
    simp only [trishawlaw02_JamAffine.l2]
    rw [if_neg (by omega), if_pos (by omega)]
  | m + 1, i, hi => by
    have ih := aff_l2 hpos m (i + 1) (by omega)
    have hx := (mL _).1 (rdL_mem L i (by omega))
    have hc := jcosts_ev g hx.1
    have h1 := affine_le g A hx.1 hd hx.2
    have h2 := hmin _ hx.1
    have b1 : 0 ≤ tot R T (rd_L12 L (i : Int)) ∧ tot R T (rd_L12 L (i : Int)) ≤ 8000 * (R.length : Int) := totF_b g hx.1 R.length (Nat.le_refl _)
    have b2 : 0 ≤ tot R T d ∧ tot R T d ≤ 8000 * (R.length : Int) := totF_b g hd R.length (Nat.le_refl _)
    have r5 := g.r5
    refine Ev.step (fun k => by simp only [trishawlaw02_JamAffine.l2]; rw [if_pos (by omega), if_pos (by omega)]) (Ev.bind hc (Ev.congr (fun k => ?_) ih))
    have e1 : wrap64 (2 * tot R T (rd_L12 L (i : Int))) = 2 * tot R T (rd_L12 L (i : Int)) := by unfold wrap64; omega
    have e2 : wrap64 (5 * tot R T d) = 5 * tot R T d := by unfold wrap64; omega
    simp only
    rw [if_pos trivial, e1, e2, if_neg (by omega), if_neg (by omega), wrapN i (by omega)]
end
theorem aff_game {R T : List (List Int)} (g : GameOk R T) {a b : Nat → Int} (A : AffT R T a b) : Ev (fun k => trishawlaw02_JamAffine.j2 k false R T) true := by
  obtain ⟨L, hL, eL, mL⟩ := settled_ev g
  obtain ⟨d, hd, eB, hmin⟩ := best_ev g
  obtain ⟨last, n, h1, h2, _⟩ := jsettle_ev g hd
  have hpos : 0 < L.length := List.length_pos_of_mem ((mL last).2 ⟨h1, h2⟩)
  have b2 : 0 ≤ tot R T d ∧ tot R T d ≤ 8000 * (R.length : Int) := totF_b g hd R.length (Nat.le_refl _)
  have h3 := aff_l2 g A hL mL hd (fun c hc => (hmin c hc).1) hpos L.length 0 (by omega)
  have hj3 : Ev (fun k => trishawlaw02_JamAffine.j3 k L (tot R T d) false R T) true := by
    refine Ev.step (fun k => ?_) h3
    simp only [trishawlaw02_JamAffine.j3]
    rw [if_neg (by simp)]
    rfl
  have eL2 : Ev (fun k => jam_SettledS.f k R T) (L, 0) := eL
  refine Ev.step (fun k => by simp only [trishawlaw02_JamAffine.j2]; rw [if_neg (by simp)]) (Ev.bind eL2 (Ev.bind eB (Ev.congr (fun k => ?_) hj3)))
  simp only
  rw [if_pos trivial, if_pos trivial, decide_eq_false (by omega)]
theorem aff_all (R : List (List Int)) (X : List S57) (hx : ∀ x ∈ X, okS57 x) : Ev (fun k => trishawlaw02_JamAffine.f k R X) true := by
  by_cases h20 : X.length ≤ 20
  · obtain ⟨N, hN⟩ : ∃ N, N = min R.length 20 := ⟨_, rfl⟩
    have hj : ∀ T, Ev (fun k => trishawlaw02_JamAffine.j2 k true R T) true := fun T => by
      refine Ev.step (fun k => ?_) alive_ev2
      simp only [trishawlaw02_JamAffine.j2]
      rw [if_pos trivial]
    have hend : Ev (fun k => trishawlaw02_JamAffine.l0 k R X (X.length : Int) R (affTo X N X.length)) true := by
      obtain ⟨f, ef, _⟩ := few_ev R (affTo X N X.length) []
      obtain ⟨b, eb, hb⟩ := isGame_ev R (affTo X N X.length)
      refine Ev.step (fun k => by simp only [trishawlaw02_JamAffine.l0]; rw [if_neg (by omega)]) (Ev.bind ef ?_)
      cases f with
      | false => exact Ev.congr (fun k => if_neg (by simp)) (hj _)
      | true =>
        refine Ev.congr (fun k => if_pos rfl) (Ev.bind eb ?_)
        cases b with
        | false => exact hj _
        | true => exact aff_game (hb.1 rfl) (affT_ok hx hN (hb.1 rfl))
    have h0 := aff_l0 hx R N hN h20 true hend X.length 0 (by omega)
    refine Ev.congr (fun k => ?_) h0
    unfold trishawlaw02_JamAffine.f
    rw [if_neg (by omega)]
    rfl
  · refine Ev.congr (fun k => ?_) alive_ev2
    unfold trishawlaw02_JamAffine.f
    rw [if_pos (by omega)]
end Go.Proofs.Ytjgbdicbdlollaa.B
namespace Go.Proofs.Ytjgbdicbdlollaa.Pure
open Go.RowKit Go.Proofs.Ytjgbdicbdlollaa.B Go.Proofs.YtjgbdicbdlollaaW.PrintWords Go.Proofs.YtjgbdicbdlollaaW.PrintLast Go.Proofs.YtjgbdicbdlollaaW.PrintMore
theorem JamAffine : trishawlaw02_JamAffine.Pure := fun R X _ _ _ hx => (aff_all R X hx).rounds
end Go.Proofs.Ytjgbdicbdlollaa.Pure
