/- Texts behind the row of JamStreams, part 4. -/
import Derived.Below
import Derived.Deep.Draws
import Derived.Deep.AppendLies
import Derived.Maps.AppendAt
import Derived.OwnWalk
import Derived.Laws.BytesArg
import Derived.Laws.MakeOwn
import Derived.Laws.OwnMore
import Derived.Deep.OwnRows
import Derived.Tactics
import Derived.Lib.ConvBytes
import Derived.Laws.Slices
import Derived.WalkKit
import Derived.KernelRfl
import Derived.RowKit3
import Derived.Deep.LoopGhost
import Derived.Deep.QuietTactic
import Derived.BigQuiet
import Derived.WideLaws
import Derived.Deep.DeepCutAuto
import Derived.Deep.CutBlock
import Derived.Deep.RegionHeld3
import Derived.Laws.Rows
import Derived.Lib.AppendStr
import Derived.ArgAppend
import Derived.Laws.IdiomCopy
import Derived.RowKit
import Derived.OrdersHeld
import Derived.Laws.BitsLemmas
import Derived.Laws.StructEq
import Derived.Test.YtjgbdicbdlollaaProg
import Derived.WalkSpells
import Derived.MapKept
import Derived.Maps.RangeWalk
import Derived.Shelf.SlSortCmp.SmallK
import Derived.Ground.SlsfProg
import Derived.Test.YtjgbdicbdlollaaCM1
import Derived.Test.YtjgbdicbdlollaaCM2
import Derived.Test.YtjgbdicbdlollaaCM3
namespace Go.Proofs.Ytjgbdicbdlollaa.B
open Go.RowKit Go.Proofs.YtjgbdicbdlollaaW.PrintWords Go.Proofs.YtjgbdicbdlollaaW.PrintLast Go.Proofs.YtjgbdicbdlollaaW.PrintMore
attribute [local go_sem] max2_int min2_int max_two min_two max_three min_three max_four min_four   -- for this text's walks alone
set_option linter.unusedVariables false
set_option linter.unusedSimpArgs false
mutual
def rTr.j1 : Nat → List Int → Int → Option (List Int)
  | 0, _, _ => none
  | k + 1, x0, x3 => rTr.l1 k x0 x3 ([] : List Int) 0
def rTr.l1 : Nat → List Int → Int → List Int → Int → Option (List Int)
  | 0, _, _, _, _ => none
  | k + 1, x0, x3, x4, x5 => if x5 < x3 then (if 0 ≤ x5 then (if x5 < (x0.length : Int) then (if x4.length < 17592186044416 then (rTr.l1 k x0 x3 (x4 ++ [rd x0 x5]) (wrap64 (x5 + 1))) else (none)) else (none)) else (none)) else (some x4)
def rTr.l0 : Nat → List Int → Int → Option (List Int)
  | 0, _, _ => none
  | k + 1, x0, x3 => if x3 > 0 then (if 0 ≤ (wrap64 (x3 - 1)) then (if (wrap64 (x3 - 1)) < (x0.length : Int) then (if (rd x0 (wrap64 (x3 - 1))) = 0 then (rTr.l0 k x0 (wrap64 (x3 - 1))) else (rTr.j1 k x0 x3)) else (none)) else (none)) else (rTr.j1 k x0 x3)
end
def rTr.f (k : Nat) (l0 : List Int) : Option (List Int) := rTr.l0 k l0 (l0.length : Int)
set_option maxHeartbeats 8000000 in
set_option maxRecDepth 100000 in
theorem rTr.calls (k : Nat) (A0 : Option Addr) (c0 : Nat) (l0 : List Int) (r : List Int) (w : World) (hr0 : Kd.C (Kd.int .i64) w A0 l0.length l0) (hc0 : l0.length ≤ c0) (h : rTr.f k l0 = some r) :
  Calls Try.prog 116 #[.slice A0 l0.length c0] w fun e w' => ∃ v0_ : Value, e = .returned (v0_) ∧ Kd.R (Kd.int .i64) 3 w' w.heap.size (fun _ => True) v0_ r ∧ Below w.heap.size w w' := by
 have HR0 := Az0.mk hr0
 have HC0 := Az0.mk hc0
 clear hr0 hc0
 have HB := Az0.mk (Below.refl w.heap.size w)
 have H : (rTr.l0 k l0 (l0.length : Int)) = some r := h
 clear h
 have HC2 := Az0.mk H
 clear H
 go_enter Try.func116, Try.ntmps116
 go_upto_block 0 with (fail)
 go_cut [3] (fun v3 wc => ∃ (kq : Nat) (x3_1 : Int), v3 = .int .i64 x3_1 ∧ Az0 (rTr.j1 kq l0 x3_1 = some r) ∧ Az0 (kq ≤ k) ∧ Az0 (Below w.heap.size w wc))
 case first =>
  have H := HC2.out
  clear HC2
  have H' := Az0.mk H
  clear H
  go_wp2
  go_loopg [3] k (fun kq v3 w' => ∃ (x3_1 : Int), v3 = .int .i64 x3_1 ∧ Az0 (rTr.l0 kq l0 x3_1 = some r) ∧ Az0 (kq ≤ k) ∧ Az0 (Below w.heap.size w w'))
  case atStart => exact ⟨((l0.length : Int)), (by first | rfl | (simp; done) | (simp [*]; done)), H', ⟨Nat.le_refl _⟩, ⟨by exact Ups.w HB.out⟩⟩
  case round =>
   clear H'
   try clear c1
   try clear p2
   obtain ⟨x3_1, rfl, HA, HK1, HB⟩ := hrel
   cases gk with
   | zero => exact absurd HA.out (by simp [rTr.l0])
   | succ k1 =>
    have H := HA.out
    clear HA
    simp only [rTr.l0] at H
    by_cases c3 : x3_1 > 0
    ·rw [if_pos c3] at H
     have c3b0 : decide (0 < x3_1) = true := decide_eq_true c3
     clear c3
     (first | rw [c3b0] | (simp only [i64_w, i32_w]; rw [c3b0]) | skip)
     obtain ⟨ji4, hji4⟩ : ∃ j_ : Int, (wrap64 (x3_1 - 1)) = j_ := ⟨_, rfl⟩
     replace H : (if 0 ≤ (ji4) then (if (ji4) < (l0.length : Int) then (if (rd l0 (ji4)) = 0 then (rTr.l0 k1 l0 ji4) else (rTr.j1 k1 l0 x3_1)) else (none)) else (none)) = some r := by first | (rw [hji4] at H; exact H) | (simp only [hji4] at H ⊢; exact H)
     have hji4w : (IntKind.i64.wrap (x3_1 - 1)) = ji4 := (i64_w _).trans hji4
     by_cases c5 : 0 ≤ (ji4)
     ·rw [if_pos c5] at H
      have c5b0 : decide (0 ≤ (ji4)) = true := decide_eq_true c5
      clear c5
      by_cases c6 : (ji4) < (l0.length : Int)
      ·rw [if_pos c6] at H
       have c6b0 : decide ((ji4) < (l0.length : Int)) = true := decide_eq_true c6
       clear c6
       by_cases c7 : (rd l0 (ji4)) = 0
       ·rw [if_pos c7] at H
        have c7b0 : ((rd l0 (ji4)) == 0) = true := beq_iff_eq.mpr c7
        have c7b1 : ((rd l0 (ji4)) != 0) = false := bne_eq_false_iff_eq.mpr c7
        clear c7
        have H' := Az0.mk H
        clear H
        have p101 : 0 ≤ ((ji4) : Int) := of_decide_eq_true (by first | (with_reducible assumption) | assumption)
        have q101 : (ji4) < (l0.length : Int) := of_decide_eq_true (by first | (with_reducible assumption) | assumption)
        obtain ⟨ad101, e101, hx101_0⟩ := Kd.at_int HR0.out (ji4) p101 q101
        cases e101
        replace hx101_0 := (HB.out.cell (World.block_lt_of_cell? w _ hx101_0)).trans hx101_0
        replace p101 := eq_true p101
        replace q101 := eq_true q101
        go_wp2
        go_roundg k1
        case measure => have := HK1.out; omega
        case rel => exact ⟨(ji4), (by first | rfl | (simp; done) | (simp only [← hji4] <;> (first | rfl | simp)) | (simp [*]; done)), H', ⟨by have := HK1.out; omega⟩, ⟨by exact Ups.w HB.out⟩⟩
       rw [if_neg c7] at H
       have c7b0 : ((rd l0 (ji4)) == 0) = false := beq_eq_false_iff_ne.mpr c7
       have c7b1 : ((rd l0 (ji4)) != 0) = true := bne_iff_ne.mpr c7
       have H' := Az0.mk H
       clear H
       have p101 : 0 ≤ ((ji4) : Int) := of_decide_eq_true (by first | (with_reducible assumption) | assumption)
       have q101 : (ji4) < (l0.length : Int) := of_decide_eq_true (by first | (with_reducible assumption) | assumption)
       obtain ⟨ad101, e101, hx101_0⟩ := Kd.at_int HR0.out (ji4) p101 q101
       cases e101
       replace hx101_0 := (HB.out.cell (World.block_lt_of_cell? w _ hx101_0)).trans hx101_0
       replace p101 := eq_true p101
       replace q101 := eq_true q101
       go_wp2
       go_meet
       case rel => exact ⟨_, (x3_1), (by first | rfl | (simp; done) | (simp [*]; done)), H', ⟨by have := HK1.out; first | omega | exact Nat.le_refl _⟩, ⟨by exact Ups.w HB.out⟩⟩
      rw [if_neg c6] at H
      exact absurd H (by simp)
     rw [if_neg c5] at H
     exact absurd H (by simp)
    rw [if_neg c3] at H
    have c3b0 : decide (0 < x3_1) = false := decide_eq_false c3
    clear c3
    (first | rw [c3b0] | (simp only [i64_w, i32_w]; rw [c3b0]) | skip)
    have H' := Az0.mk H
    clear H
    go_wp2
    go_meet
    case rel => exact ⟨_, (x3_1), (by first | rfl | (simp; done) | (simp [*]; done)), H', ⟨by have := HK1.out; first | omega | exact Nat.le_refl _⟩, ⟨by exact Ups.w HB.out⟩⟩
 case rest =>
  clear HC2
  try clear c1
  try clear p1
  try clear q1
  try clear hx1
  try clear p2
  try clear c3
  try clear c3b0
  try clear c5
  try clear c5b0
  try clear c6
  try clear c6b0
  try clear p6
  try clear c7
  try clear c7b0
  try clear c7b1
  try clear hx101_0
  try clear p101
  try clear p2
  try clear q101
  obtain ⟨kq, x3_1, rfl, HA, HJ1, HB⟩ := hcut
  cases kq with
  | zero => exact absurd HA.out (by simp [rTr.j1])
  | succ kj1 =>
   have H := HA.out
   clear HA
   simp only [rTr.j1] at H
   have H' := Az0.mk H
   clear H
   go_wp2
   go_loopg [4, 5] kj1 (fun kq v4 v5 w' => ∃ (x4_2 : List Int) (x5_2 : Int), v5 = .int .i64 x5_2 ∧ Az0 (rTr.l1 kq l0 x3_1 x4_2 x5_2 = some r) ∧ Az0 (kq ≤ kj1) ∧ Az0 (Kd.R (Kd.int .i64) 3 w' w.heap.size (fun _ => True) v4 x4_2) ∧ Az0 (Below w.heap.size w w'))
   case atStart => exact ⟨(([] : List Int)), (0), (by first | rfl | (simp; done) | (simp [*]; done)), H', ⟨Nat.le_refl _⟩, ⟨by first | exact Kd.R_nil _ _ _ _ _ | exact Kd.N_nil _ _ _ _ _ | exact Kd.V_nil _ _ _ _ _ | exact Kd.Q_nil _ _ _ _ _ | exact Kd.S_nil _ _ _ _ _⟩, ⟨by exact Ups.w HB.out⟩⟩
   case round =>
    clear H'
    try clear c1
    try clear p1
    try clear q1
    try clear hx1
    try clear p2
    try clear c3
    try clear c3b0
    try clear c5
    try clear c5b0
    try clear c6
    try clear c6b0
    try clear p6
    try clear c7
    try clear c7b0
    try clear c7b1
    try clear hx101_0
    try clear p1
    try clear p101
    try clear p2
    try clear p6
    try clear q1
    try clear q101
    obtain ⟨x4_2, x5_2, rfl, HA, HK2, HO_4, HB⟩ := hrel
    cases gk with
    | zero => exact absurd HA.out (by simp [rTr.l1])
    | succ k2 =>
     have H := HA.out
     clear HA
     simp only [rTr.l1] at H
     by_cases c8 : x5_2 < x3_1
     ·rw [if_pos c8] at H
      have c8b0 : decide (x5_2 < x3_1) = true := decide_eq_true c8
      clear c8
      by_cases c9 : 0 ≤ x5_2
      ·rw [if_pos c9] at H
       have c9b0 : decide (0 ≤ x5_2) = true := decide_eq_true c9
       clear c9
       by_cases c10 : x5_2 < (l0.length : Int)
       ·rw [if_pos c10] at H
        have c10b0 : decide (x5_2 < (l0.length : Int)) = true := decide_eq_true c10
        clear c10
        by_cases c11 : x4_2.length < 17592186044416
        ·rw [if_pos c11] at H
         have LMc11 := Az0.mk c11
         clear c11
         obtain ⟨y103, hy103⟩ : ∃ y_ : List Int, y_ = (x4_2 ++ [rd l0 x5_2]) := ⟨_, rfl⟩
         replace H : (rTr.l1 k2 l0 x3_1 y103 (wrap64 (x5_2 + 1))) = some r := by first | (rw [hy103]; with_reducible exact H) | (have H2_ := (Option.bind_some _ _).symm.trans H; rw [hy103]; with_reducible exact H2_) | (have H2_ := (Option.bind_some _ _).symm.trans H; with_reducible exact H2_) | with_reducible exact H | (rw [hy103]; exact H) | exact H
         have Ny103 := Az0.mk hy103
         clear hy103
         have H' := Az0.mk H
         clear H
         have p102 : 0 ≤ (x5_2 : Int) := of_decide_eq_true (by first | (with_reducible assumption) | assumption)
         have q102 : x5_2 < (l0.length : Int) := of_decide_eq_true (by first | (with_reducible assumption) | assumption)
         obtain ⟨ad102, e102, hx102_0⟩ := Kd.at_int HR0.out x5_2 p102 q102
         cases e102
         replace hx102_0 := (HB.out.cell (World.block_lt_of_cell? w _ hx102_0)).trans hx102_0
         replace p102 := eq_true p102
         replace q102 := eq_true q102
         go_wp2_with (first | ((with_reducible refine gate_builtin (b := .append) (xs := #[.tmp 25, .tmp 30]) rfl ?_); at_builtin; refine Kd.R_append (Kd.int .i64) (w0 := w) w.heap.size rfl (.tmp 25) (.tmp 30) 24 3 (.int .i64 0) 8 rfl Try.underlying24 info3 rfl (by decide) (by omega) u4 x4_2 (rd l0 x5_2) [.int .i64 (rd l0 x5_2)] (fun _ => True) (fun _ => False) rfl rfl ?aP (fun _ hk => hk.elim) ?aF ?aO ?aB ?aS ?aL ?_; (case aP => exact rfl); (case aB => exact (by exact Ups.w HB.out)); (case aF => exact (fun _ _ => trivial)); (case aO => exact (by (repeat refine Up1.r ?_); exact HO_4.out)); (case aS => exact (bZ_ (by exact Ups.w HB.out))); (case aL => have := LMc11.out; omega); intro v104 w12 ho hb hg hat; rw [← Ny103.out] at ho; have n0_ := Az0.mk (hb); have n1_ := Az0.mk (ho); clear HB; clear HO_4; have HB := n0_; have HO105 := n1_; clear n0_ n1_; clear ho hb hg hat))
         go_roundg k2
         case measure => have := HJ1.out; have := HK2.out; omega
         case rel => exact ⟨(y103), (wrap64 (x5_2 + 1)), (by first | rfl | (simp; done) | (simp [*]; done)), H', ⟨by have := HJ1.out; have := HK2.out; omega⟩, ⟨by (repeat refine Up1.r ?_); exact HO105.out⟩, ⟨by exact Ups.w HB.out⟩⟩
        rw [if_neg c11] at H
        exact absurd H (by simp)
       rw [if_neg c10] at H
       exact absurd H (by simp)
      rw [if_neg c9] at H
      exact absurd H (by simp)
     rw [if_neg c8] at H
     have c8b0 : decide (x5_2 < x3_1) = false := decide_eq_false c8
     clear c8
     obtain rfl := Option.some.inj H
     go_wp2
     go_ret
     exact ⟨_, by first | rfl | (simp [errW_none, errW_some] <;> rfl) | (simp [*, errW_none, errW_some] <;> rfl), by (repeat refine Up1.r ?_); exact HO_4.out, by exact Ups.w HB.out⟩
def rWh.f (k : Nat) (a0 : Bool) (l1 : List Int) : Option (Bool × List Int) := (rTr.f k l1).bind fun t107 => (if a0 = true then (some (decide ((t107.length : Int) > 0), t107)) else (some (false, t107)))
set_option maxHeartbeats 8000000 in
set_option maxRecDepth 100000 in
theorem rWh.calls (k : Nat) (a0 : Bool) (A1 : Option Addr) (c1 : Nat) (l1 : List Int) (r1 : Bool) (r2 : List Int) (w : World) (hr1 : Kd.C (Kd.int .i64) w A1 l1.length l1) (hc1 : l1.length ≤ c1) (h : rWh.f k a0 l1 = some (r1, r2)) :
  Calls Try.prog 101 #[.bool a0, .slice A1 l1.length c1] w fun e w' => ∃ v1_ : Value, e = .returned (.agg #[.bool r1, v1_]) ∧ Kd.R (Kd.int .i64) 3 w' w.heap.size (fun _ => True) v1_ r2 ∧ Below w.heap.size w w' := by
 have hu75 := Try.underlying75
 have HR1 := Az0.mk hr1
 have HC1 := Az0.mk hc1
 clear hr1 hc1
 have HB := Az0.mk (Below.refl w.heap.size w)
 have H : ((rTr.f k l1).bind fun t107 => (if a0 = true then (some (decide ((t107.length : Int) > 0), t107)) else (some (false, t107)))) = some (r1, r2) := h
 clear h
 replace H := Option.bind_eq_some_iff.mp H
 obtain ⟨t107, A30, H⟩ := H
 try dsimp only at H
 have A3 := Az0.mk A30
 clear A30
 by_cases c4 : a0 = true
 ·subst c4
  have H1 : (some (decide ((t107.length : Int) > 0), t107)) = some (r1, r2) := by rw [if_pos rfl] at H; exact H
  clear H
  have H := H1
  clear H1
  simp only [Option.some.injEq, Prod.mk.injEq] at H
  rw [show (decide ((t107.length : Int) > 0)) = decide (0 < t107.length) from decide_eq_decide.2 (by omega)] at H
  obtain ⟨rfl, rfl⟩ := H
  go_enter Try.func101, Try.ntmps101
  go_wp2_with (first | ((with_reducible refine gD_ (N := 4) rfl ?_); (try (refine gate_guard (by rfl) ?_; dsimp only)); refine bE_ ?hg (N := 4) ?hd (cs := #[.bool false, .slice none 0 0]) (t := 75) ?hr ?_; (case hd => rfl); (case hg => rfl); (case hr => first | (go_simp; done) | (go_simp; rfl)); intro gb106 hg w5 hbox hb; have n0_ := Az0.mk (bP_ (by exact Ups.w HB.out) hb); have n1_ := Az0.mk (hbox); have n2_ := Az0.mk ((by rw [hg]; exact (bZ_ (by exact Ups.w HB.out)) : w.heap.size ≤ gb106)); have n3_ := Az0.mk ((by rw [hg]; exact (bZ_ (by exact Ups.w HB.out)) : w.heap.size ≤ gb106)); clear HB; have HB := n0_; have BK106 := n1_; have GW106 := n2_; have GE106 := n3_; clear n0_ n1_ n2_ n3_; clear hb hbox hg) | ((with_reducible refine gate_callee (f := 116) rfl ?_); refine goesL_ (some 7) rfl rfl Try.func116 (by kernel_rfl) rfl #[.slice A1 l1.length c1] rfl (by (try simp only [List.map_toArray, List.map_cons, List.map_nil]); first | done | rfl | (simp only [List.length_drop, List.length_take]; rfl)) ?_; (with_reducible refine (rTr.calls k _ _ l1 t107 _ ?side1 ?side2 A3.out).mono ?_); (case side1 => repeat (first | exact (Kd.C_below HR1.out HB.out) | refine Up1.c ?_)); (case side2 => exact HC1.out); rintro e w6 ⟨v108, rfl, ho0, hb⟩; refine ⟨_, rfl, ?_⟩; have n0_ := Az0.mk (Kd.R_lower ho0 (bZ_ (by repeat first|exact HB.out | refine Up1.w ?_ | refine bS_ ?_ GE106.out))); have n1_ := Az0.mk (bB_ (Ups.b BK106.out) hb); have n2_ := Az0.mk (bP_ (by repeat first|exact HB.out | refine Up1.w ?_ | refine bS_ ?_ GE106.out) hb); clear BK106; clear HB; have HO109 := n0_; have BK106 := n1_; have HB := n2_; clear n0_ n1_ n2_; (try clear hb); (try clear hb2); (try clear hk); (try clear hi); (try clear ho0); obtain ⟨Ao7, co7, eo7⟩ := Kd.R_slice HO109.out; subst eo7; have hcz8_0 : w6.cell? ⟨gb106, 0, none⟩ = some (.bool false) := (bkC BK106.out 0).trans rfl; have hcz8_1 : w6.cell? ⟨gb106, 1, none⟩ = some (.slice none 0 0) := (bkC BK106.out 1).trans rfl; have hfz8_0 := bF_ BK106.out 0; have hfz8_1 := bF_ BK106.out 1))
  refine bodyPost_ret (results_cell_row rfl _ _ gb106 75 #[.bool (decide (0 < t107.length)), .slice Ao7 t107.length co7] (0, 0) _ rfl (by refine Ups.b ?_; refine blk_put (cs := #[.bool (decide (0 < t107.length)), .slice none 0 0]) ?_ 1 _ rfl; refine Ups.b ?_; refine blk_put (cs := #[.bool false, .slice none 0 0]) ?_ 0 _ rfl; refine Ups.b ?_; exact BK106.out) Try.underlying75 rfl (by kernel_rfl)) rfl ?_
  exact ⟨_, by first | rfl | (simp [errW_none, errW_some] <;> rfl) | (simp [*, errW_none, errW_some] <;> rfl), by (repeat refine Up1.r ?_); exact Kd.rM_ (Kd.rF_ (p := ⟨gb106, 1, none⟩) (Kd.rF_ (p := ⟨gb106, 0, none⟩) (Kd.rY_ HO109.out BK106.out (by decide)) (fun _ hk => hk.2) (.bool (decide (0 < t107.length)))) (fun _ hk => hk.2) (.slice Ao7 t107.length co7)) (fun _ hk => trivial), by repeat first|exact HB.out | refine Up1.w ?_ | refine bS_ ?_ GE106.out⟩
 replace c4 := Bool.eq_false_iff.mpr c4
 subst c4
 have H1 : (some (false, t107)) = some (r1, r2) := by rw [if_neg (show ¬ (false = true) by decide)] at H; exact H
 clear H
 have H := H1
 clear H1
 simp only [Option.some.injEq, Prod.mk.injEq] at H
 obtain ⟨rfl, rfl⟩ := H
 go_enter Try.func101, Try.ntmps101
 go_wp2_with (first | ((with_reducible refine gD_ (N := 4) rfl ?_); (try (refine gate_guard (by rfl) ?_; dsimp only)); refine bE_ ?hg (N := 4) ?hd (cs := #[.bool false, .slice none 0 0]) (t := 75) ?hr ?_; (case hd => rfl); (case hg => rfl); (case hr => first | (go_simp; done) | (go_simp; rfl)); intro gb106 hg w9 hbox hb; have n0_ := Az0.mk (bP_ (by exact Ups.w HB.out) hb); have n1_ := Az0.mk (hbox); have n2_ := Az0.mk ((by rw [hg]; exact (bZ_ (by exact Ups.w HB.out)) : w.heap.size ≤ gb106)); have n3_ := Az0.mk ((by rw [hg]; exact (bZ_ (by exact Ups.w HB.out)) : w.heap.size ≤ gb106)); clear HB; have HB := n0_; have BK106 := n1_; have GW106 := n2_; have GE106 := n3_; clear n0_ n1_ n2_ n3_; clear hb hbox hg) | ((with_reducible refine gate_callee (f := 116) rfl ?_); refine goesL_ (some 7) rfl rfl Try.func116 (by kernel_rfl) rfl #[.slice A1 l1.length c1] rfl (by (try simp only [List.map_toArray, List.map_cons, List.map_nil]); first | done | rfl | (simp only [List.length_drop, List.length_take]; rfl)) ?_; (with_reducible refine (rTr.calls k _ _ l1 t107 _ ?side1 ?side2 A3.out).mono ?_); (case side1 => repeat (first | exact (Kd.C_below HR1.out HB.out) | refine Up1.c ?_)); (case side2 => exact HC1.out); rintro e w10 ⟨v108, rfl, ho0, hb⟩; refine ⟨_, rfl, ?_⟩; have n0_ := Az0.mk (Kd.R_lower ho0 (bZ_ (by repeat first|exact HB.out | refine Up1.w ?_ | refine bS_ ?_ GE106.out))); have n1_ := Az0.mk (bB_ (Ups.b BK106.out) hb); have n2_ := Az0.mk (bP_ (by repeat first|exact HB.out | refine Up1.w ?_ | refine bS_ ?_ GE106.out) hb); clear BK106; clear HB; have HO109 := n0_; have BK106 := n1_; have HB := n2_; clear n0_ n1_ n2_; (try clear hb); (try clear hb2); (try clear hk); (try clear hi); (try clear ho0); obtain ⟨Ao11, co11, eo11⟩ := Kd.R_slice HO109.out; subst eo11; have hcz12_0 : w10.cell? ⟨gb106, 0, none⟩ = some (.bool false) := (bkC BK106.out 0).trans rfl; have hcz12_1 : w10.cell? ⟨gb106, 1, none⟩ = some (.slice none 0 0) := (bkC BK106.out 1).trans rfl; have hfz12_0 := bF_ BK106.out 0; have hfz12_1 := bF_ BK106.out 1))
 refine bodyPost_ret (results_cell_row rfl _ _ gb106 75 #[.bool false, .slice Ao11 t107.length co11] (0, 0) _ rfl (by refine Ups.b ?_; refine blk_put (cs := #[.bool false, .slice none 0 0]) ?_ 1 _ rfl; refine Ups.b ?_; refine blk_put (cs := #[.bool false, .slice none 0 0]) ?_ 0 _ rfl; refine Ups.b ?_; exact BK106.out) Try.underlying75 rfl (by kernel_rfl)) rfl ?_
 exact ⟨_, by first | rfl | (simp [errW_none, errW_some] <;> rfl) | (simp [*, errW_none, errW_some] <;> rfl), by (repeat refine Up1.r ?_); exact Kd.rM_ (Kd.rF_ (p := ⟨gb106, 1, none⟩) (Kd.rF_ (p := ⟨gb106, 0, none⟩) (Kd.rY_ HO109.out BK106.out (by decide)) (fun _ hk => hk.2) (.bool false)) (fun _ hk => hk.2) (.slice Ao11 t107.length co11)) (fun _ hk => trivial), by repeat first|exact HB.out | refine Up1.w ?_ | refine bS_ ?_ GE106.out⟩
mutual
def rMl.l0 : Nat → List Int → List Int → List Int → Int → Option (List Int)
  | 0, _, _, _, _ => none
  | k + 1, x0, x1, x5, x6 => if x6 < (x0.length : Int) then (rMl.l1 k x0 x1 x5 x6 0 0) else ((rTr.f k x5).bind fun t113 => (some t113))
def rMl.l1 : Nat → List Int → List Int → List Int → Int → Int → Int → Option (List Int)
  | 0, _, _, _, _, _, _ => none
  | k + 1, x0, x1, x5, x6, x7, x8 => if x8 < (x1.length : Int) then (if 0 ≤ (wrap64 (x6 + x8)) then (if (wrap64 (x6 + x8)) < (x5.length : Int) then (if 0 ≤ x6 then (if x6 < (x0.length : Int) then (if 0 ≤ x8 then (rMl.l1 k x0 x1 (x5.set ((wrap64 (x6 + x8)) : Int).toNat (Int.tmod (wrap64 ((wrap64 ((rd x5 (wrap64 (x6 + x8))) + (wrap64 ((rd x0 x6) * (rd x1 x8))))) + x7)) 10000)) x6 (wrap64 (Int.tdiv (wrap64 ((wrap64 ((rd x5 (wrap64 (x6 + x8))) + (wrap64 ((rd x0 x6) * (rd x1 x8))))) + x7)) 10000)) (wrap64 (x8 + 1))) else (none)) else (none)) else (none)) else (none)) else (none)) else (if 0 ≤ (wrap64 (x6 + (x1.length : Int))) then (if (wrap64 (x6 + (x1.length : Int))) < (x5.length : Int) then (rMl.l0 k x0 x1 (x5.set ((wrap64 (x6 + (x1.length : Int))) : Int).toNat x7) (wrap64 (x6 + 1))) else (none)) else (none))
end
def rMl.f (k : Nat) (l0 : List Int) (l1 : List Int) : Option (List Int) := if 0 ≤ (wrap64 ((l0.length : Int) + (l1.length : Int))) then (if (wrap64 ((l0.length : Int) + (l1.length : Int)) : Int).toNat ≤ 35184372088832 then (rMl.l0 k l0 l1 (List.replicate (wrap64 ((l0.length : Int) + (l1.length : Int)) : Int).toNat 0) 0) else (none)) else (none)
set_option maxHeartbeats 8000000 in
set_option maxRecDepth 100000 in
theorem rMl.calls (k : Nat) (A0 : Option Addr) (c0 : Nat) (l0 : List Int) (A1 : Option Addr) (c1 : Nat) (l1 : List Int) (r : List Int) (w : World) (hr0 : Kd.C (Kd.int .i64) w A0 l0.length l0) (hc0 : l0.length ≤ c0) (hr1 : Kd.C (Kd.int .i64) w A1 l1.length l1) (hc1 : l1.length ≤ c1) (h : rMl.f k l0 l1 = some r) :
  Calls Try.prog 104 #[.slice A0 l0.length c0, .slice A1 l1.length c1] w fun e w' => ∃ v0_ : Value, e = .returned (v0_) ∧ Kd.R (Kd.int .i64) 3 w' w.heap.size (fun _ => True) v0_ r ∧ Below w.heap.size w w' := by
 have HR0 := Az0.mk hr0
 have HC0 := Az0.mk hc0
 clear hr0 hc0
 have HR1 := Az0.mk hr1
 have HC1 := Az0.mk hc1
 clear hr1 hc1
 have HB := Az0.mk (Below.refl w.heap.size w)
 have H : (if 0 ≤ (wrap64 ((l0.length : Int) + (l1.length : Int))) then (if (wrap64 ((l0.length : Int) + (l1.length : Int)) : Int).toNat ≤ 35184372088832 then (rMl.l0 k l0 l1 (List.replicate (wrap64 ((l0.length : Int) + (l1.length : Int)) : Int).toNat 0) 0) else (none)) else (none)) = some r := h
 clear h
 obtain ⟨ji3, hji3⟩ : ∃ j_ : Int, (wrap64 ((l0.length : Int) + (l1.length : Int))) = j_ := ⟨_, rfl⟩
 replace H : (if 0 ≤ (ji3) then (if (ji3 : Int).toNat ≤ 35184372088832 then (rMl.l0 k l0 l1 (List.replicate (ji3 : Int).toNat 0) 0) else (none)) else (none)) = some r := by first | (rw [hji3] at H; exact H) | (simp only [hji3] at H ⊢; exact H)
 have hji3w : (IntKind.i64.wrap ((l0.length : Int) + (l1.length : Int))) = ji3 := (i64_w _).trans hji3
 by_cases c4 : 0 ≤ (ji3)
 ·rw [if_pos c4] at H
  have c4b0 := eq_true c4
  have c4b1 : decide (0 ≤ (ji3)) = true := decide_eq_true c4
  clear c4
  by_cases c5 : (ji3 : Int).toNat ≤ 35184372088832
  ·rw [if_pos c5] at H
   have c5b0 := eq_true c5
   have c5b1 : decide ((ji3 : Int).toNat ≤ 35184372088832) = true := decide_eq_true c5
   clear c5
   obtain ⟨y110, hy110⟩ : ∃ y_ : List Int, y_ = (List.replicate (ji3 : Int).toNat 0) := ⟨_, rfl⟩
   replace H : (rMl.l0 k l0 l1 y110 0) = some r := by first | (rw [hy110]; with_reducible exact H) | (have H2_ := (Option.bind_some _ _).symm.trans H; rw [hy110]; with_reducible exact H2_) | (have H2_ := (Option.bind_some _ _).symm.trans H; with_reducible exact H2_) | with_reducible exact H | (rw [hy110]; exact H) | exact H
   have Ny110 := Az0.mk hy110
   clear hy110
   have H' := Az0.mk H
   clear H
   go_enter Try.func104, Try.ntmps104
   go_wp2_with (first | ((with_reducible refine gD_ (N := 15) rfl ?_); refine Kd.R_make (Kd.int .i64) _ 3 rfl (N := 15) rfl 24 _ _ rfl ji3 rfl rfl Try.underlying24 (.int .i64 0) 8 info3 rfl (by decide) (by omega) 0 (ok := fun _ => True) (okp := fun _ => True) rfl (fun _ hk => hk) trivial (of_decide_eq_true (by first | (with_reducible assumption) | assumption)) (Nat.le_trans (Nat.mul_le_mul_right _ (of_decide_eq_true (by first | (with_reducible assumption) | assumption) : ji3.toNat ≤ 35184372088832)) (by omega)) (Below.refl _ _) (Nat.le_refl _) ?_; intro v111 w6 ho7 hb hg_ hnew_; clear hg_ hnew_; (first | rw [← Ny110.out] at ho7 | (simp only [Int.reduceToNat] at ho7; rw [← Ny110.out] at ho7)); have n0_ := Az0.mk (Kd.R_lower ho7 (bZ_ (by exact Ups.w HB.out))); have n1_ := Az0.mk (bP_ (by exact Ups.w HB.out) hb); clear HB; have HO112 := n0_; have HB := n1_; clear n0_ n1_; clear hb ho7))
   repeat (go_quiet (first | ((with_reducible refine gD_ (N := 15) rfl ?_); refine Kd.R_make (Kd.int .i64) _ 3 rfl (N := 15) rfl 24 _ _ rfl ji3 rfl rfl Try.underlying24 (.int .i64 0) 8 info3 rfl (by decide) (by omega) 0 (ok := fun _ => True) (okp := fun _ => True) rfl (fun _ hk => hk) trivial (of_decide_eq_true (by first | (with_reducible assumption) | assumption)) (Nat.le_trans (Nat.mul_le_mul_right _ (of_decide_eq_true (by first | (with_reducible assumption) | assumption) : ji3.toNat ≤ 35184372088832)) (by omega)) (Below.refl _ _) (Nat.le_refl _) ?_; intro v111 w6 ho7 hb hg_ hnew_; clear hg_ hnew_; (first | rw [← Ny110.out] at ho7 | (simp only [Int.reduceToNat] at ho7; rw [← Ny110.out] at ho7)); have n0_ := Az0.mk (Kd.R_lower ho7 (bZ_ (by exact Ups.w HB.out))); have n1_ := Az0.mk (bP_ (by exact Ups.w HB.out) hb); clear HB; have HO112 := n0_; have HB := n1_; clear n0_ n1_; clear hb ho7)); try go_wp2_with (first | ((with_reducible refine gD_ (N := 15) rfl ?_); refine Kd.R_make (Kd.int .i64) _ 3 rfl (N := 15) rfl 24 _ _ rfl ji3 rfl rfl Try.underlying24 (.int .i64 0) 8 info3 rfl (by decide) (by omega) 0 (ok := fun _ => True) (okp := fun _ => True) rfl (fun _ hk => hk) trivial (of_decide_eq_true (by first | (with_reducible assumption) | assumption)) (Nat.le_trans (Nat.mul_le_mul_right _ (of_decide_eq_true (by first | (with_reducible assumption) | assumption) : ji3.toNat ≤ 35184372088832)) (by omega)) (Below.refl _ _) (Nat.le_refl _) ?_; intro v111 w6 ho7 hb hg_ hnew_; clear hg_ hnew_; (first | rw [← Ny110.out] at ho7 | (simp only [Int.reduceToNat] at ho7; rw [← Ny110.out] at ho7)); have n0_ := Az0.mk (Kd.R_lower ho7 (bZ_ (by exact Ups.w HB.out))); have n1_ := Az0.mk (bP_ (by exact Ups.w HB.out) hb); clear HB; have HO112 := n0_; have HB := n1_; clear n0_ n1_; clear hb ho7)))
   go_loopg [6] k (fun kq v6 w' => ∃ (x5_1 : List Int) (x6_1 : Int), v6 = .int .i64 x6_1 ∧ Az0 (rMl.l0 kq l0 l1 x5_1 x6_1 = some r) ∧ Az0 (kq ≤ k) ∧ Az0 (Kd.R (Kd.int .i64) 3 w' w.heap.size (fun _ => True) v111 x5_1) ∧ Az0 (Below w.heap.size w w'))
   case atStart => exact ⟨(y110), (0), (by first | rfl | (simp; done) | (simp [*]; done)), H', ⟨Nat.le_refl _⟩, ⟨by (repeat refine Up1.r ?_); exact HO112.out⟩, ⟨by exact Ups.w HB.out⟩⟩
   case round =>
    clear H'
    try clear c1
    try clear p2
    try clear c4
    try clear c4b0
    try clear c4b1
    try clear c5
    try clear c5b0
    try clear c5b1
    try clear p6
    obtain ⟨x5_1, x6_1, rfl, HA, HK1, HO_5, HB⟩ := hrel
    cases gk with
    | zero => exact absurd HA.out (by simp [rMl.l0])
    | succ k1 =>
     have H := HA.out
     clear HA
     simp only [rMl.l0] at H
     by_cases c8 : x6_1 < (l0.length : Int)
     ·rw [if_pos c8] at H
      have c8b0 : decide (x6_1 < (l0.length : Int)) = true := decide_eq_true c8
      clear c8
      have H' := Az0.mk H
      clear H
      go_wp2
      repeat (go_quiet (fail); try go_wp2)
      go_loopg [7, 8] k1 (fun kq v7 v8 w' => ∃ (x5_2 : List Int) (x7_2 : Int) (x8_2 : Int), v7 = .int .i64 x7_2 ∧ v8 = .int .i64 x8_2 ∧ Az0 (rMl.l1 kq l0 l1 x5_2 x6_1 x7_2 x8_2 = some r) ∧ Az0 (kq ≤ k1) ∧ Az0 (Kd.R (Kd.int .i64) 3 w' w.heap.size (fun _ => True) v111 x5_2) ∧ Az0 (Below w.heap.size w w'))
      case atStart => exact ⟨(x5_1), (0), (0), (by first | rfl | (simp; done) | (simp [*]; done)), (by first | rfl | (simp; done) | (simp [*]; done)), H', ⟨Nat.le_refl _⟩, ⟨by (repeat refine Up1.r ?_); exact HO_5.out⟩, ⟨by exact Ups.w HB.out⟩⟩
      case round =>
       clear H'
       try clear c1
       try clear p2
       try clear c4
       try clear c4b0
       try clear c4b1
       try clear c5
       try clear c5b0
       try clear c5b1
       try clear p6
       try clear c8
       try clear c8b0
       try clear p2
       try clear p6
       obtain ⟨x5_2, x7_2, x8_2, rfl, rfl, HA, HK2, HO_5, HB⟩ := hrel
       cases gk with
       | zero => exact absurd HA.out (by simp [rMl.l1])
       | succ k2 =>
        have H := HA.out
        clear HA
        simp only [rMl.l1] at H
        by_cases c9 : x8_2 < (l1.length : Int)
        ·rw [if_pos c9] at H
         have c9b0 : decide (x8_2 < (l1.length : Int)) = true := decide_eq_true c9
         clear c9
         obtain ⟨ji10, hji10⟩ : ∃ j_ : Int, (wrap64 (x6_1 + x8_2)) = j_ := ⟨_, rfl⟩
         replace H : (if 0 ≤ (ji10) then (if (ji10) < (x5_2.length : Int) then (if 0 ≤ x6_1 then (if x6_1 < (l0.length : Int) then (if 0 ≤ x8_2 then (rMl.l1 k2 l0 l1 (x5_2.set ((ji10) : Int).toNat (Int.tmod (wrap64 ((wrap64 ((rd x5_2 (ji10)) + (wrap64 ((rd l0 x6_1) * (rd l1 x8_2))))) + x7_2)) 10000)) x6_1 (wrap64 (Int.tdiv (wrap64 ((wrap64 ((rd x5_2 (ji10)) + (wrap64 ((rd l0 x6_1) * (rd l1 x8_2))))) + x7_2)) 10000)) (wrap64 (x8_2 + 1))) else (none)) else (none)) else (none)) else (none)) else (none)) = some r := by first | (rw [hji10] at H; exact H) | (simp only [hji10] at H ⊢; exact H)
         have hji10w : (IntKind.i64.wrap (x6_1 + x8_2)) = ji10 := (i64_w _).trans hji10
         by_cases c11 : 0 ≤ (ji10)
         ·rw [if_pos c11] at H
          have c11b0 : decide (0 ≤ (ji10)) = true := decide_eq_true c11
          clear c11
          by_cases c12 : (ji10) < (x5_2.length : Int)
          ·rw [if_pos c12] at H
           have c12b0 : decide ((ji10) < (x5_2.length : Int)) = true := decide_eq_true c12
           clear c12
           by_cases c13 : 0 ≤ x6_1
           ·rw [if_pos c13] at H
            have c13b0 : decide (0 ≤ x6_1) = true := decide_eq_true c13
            clear c13
            by_cases c14 : x6_1 < (l0.length : Int)
            ·rw [if_pos c14] at H
             have c14b0 : decide (x6_1 < (l0.length : Int)) = true := decide_eq_true c14
             clear c14
             by_cases c15 : 0 ≤ x8_2
             ·rw [if_pos c15] at H
              have c15b0 : decide (0 ≤ x8_2) = true := decide_eq_true c15
              clear c15
              obtain ⟨y119, hy119⟩ : ∃ y_ : List Int, y_ = (x5_2.set ((ji10) : Int).toNat (Int.tmod (wrap64 ((wrap64 ((rd x5_2 (ji10)) + (wrap64 ((rd l0 x6_1) * (rd l1 x8_2))))) + x7_2)) 10000)) := ⟨_, rfl⟩
              replace H : (rMl.l1 k2 l0 l1 y119 x6_1 (wrap64 (Int.tdiv (wrap64 ((wrap64 ((rd x5_2 (ji10)) + (wrap64 ((rd l0 x6_1) * (rd l1 x8_2))))) + x7_2)) 10000)) (wrap64 (x8_2 + 1))) = some r := by first | (rw [hy119]; with_reducible exact H) | (have H2_ := (Option.bind_some _ _).symm.trans H; rw [hy119]; with_reducible exact H2_) | (have H2_ := (Option.bind_some _ _).symm.trans H; with_reducible exact H2_) | with_reducible exact H | (rw [hy119]; exact H) | exact H
              have Ny119 := Az0.mk hy119
              clear hy119
              have H' := Az0.mk H
              clear H
              obtain ⟨Ao17, co17, eo17⟩ := Kd.R_slice HO_5.out
              subst eo17
              have p116 : 0 ≤ ((ji10) : Int) := of_decide_eq_true (by first | (with_reducible assumption) | assumption)
              have q116 : (ji10) < (x5_2.length : Int) := of_decide_eq_true (by first | (with_reducible assumption) | assumption)
              obtain ⟨ad116, e116, hx116_0⟩ := Kd.at_int (Kd.R_reads' HO_5.out).2.2 (ji10) p116 q116
              cases e116
              replace p116 := eq_true p116
              replace q116 := eq_true q116
              have p117 : 0 ≤ (x6_1 : Int) := of_decide_eq_true (by first | (with_reducible assumption) | assumption)
              have q117 : x6_1 < (l0.length : Int) := of_decide_eq_true (by first | (with_reducible assumption) | assumption)
              obtain ⟨ad117, e117, hx117_0⟩ := Kd.at_int HR0.out x6_1 p117 q117
              cases e117
              replace hx117_0 := (HB.out.cell (World.block_lt_of_cell? w _ hx117_0)).trans hx117_0
              replace p117 := eq_true p117
              replace q117 := eq_true q117
              have p118 : 0 ≤ (x8_2 : Int) := of_decide_eq_true (by first | (with_reducible assumption) | assumption)
              have q118 : x8_2 < (l1.length : Int) := of_decide_eq_true (by first | (with_reducible assumption) | assumption)
              obtain ⟨ad118, e118, hx118_0⟩ := Kd.at_int HR1.out x8_2 p118 q118
              cases e118
              replace hx118_0 := (HB.out.cell (World.block_lt_of_cell? w _ hx118_0)).trans hx118_0
              replace p118 := eq_true p118
              replace q118 := eq_true q118
              have p16 : 0 ≤ ((ji10) : Int) := of_decide_eq_true (by first | (with_reducible assumption) | assumption)
              have q16 : ((ji10) : Int) < ((x5_2.length : Int) : Int) := of_decide_eq_true (by first | (with_reducible assumption) | assumption)
              obtain ⟨go16, co16, eo16, gb16, gl16, cl16, HG16⟩ := Kd.R_form HO_5.out (by omega)
              (first | cases eo16 | (injection eo16 with ea_ en_ ec_; (first | subst ea_ | (injection ea_ with ea_; subst ea_)); subst ec_; clear en_))
              have GB16 := Az0.mk gb16
              have GG16 := Az0.mk HG16
              clear gb16 gl16 HG16
              (first | simp only [add_plain] at hx116_0 | skip)
              obtain ⟨hx16_0, hf16_0⟩ := Kd.R_celln 0 HO_5.out ((ji10) : Int) p16 q16
              replace p16 := eq_true p16
              replace q16 := eq_true q16
              have HP18 := Kd.R_putg HO_5.out ((ji10) : Int) (Int.tmod (wrap64 ((wrap64 ((rd x5_2 (ji10)) + (wrap64 ((rd l0 x6_1) * (rd l1 x8_2))))) + x7_2)) 10000)
              go_wp2_with (first | ((with_reducible refine gate_store (t := 3) (p := 52) rfl ?_); (try (rw [drewN_self wr]; generalize hq_ : World.drewN wr _ = wr; have n0_ := Az0.mk (Kd.R_at hq_ HO_5.out); have n1_ := Az0.mk (below_at hq_ HB.out); clear hq_ HO_5 HB; have HO_5 := n0_; have HB := n1_; clear n0_ n1_; (try (have HP18 := Kd.R_putg HO_5.out ((ji10) : Int) (Int.tmod (wrap64 ((wrap64 ((rd x5_2 (ji10)) + (wrap64 ((rd l0 x6_1) * (rd l1 x8_2))))) + x7_2)) 10000))))); refine store_event (t := 3) (p := 52) (v := ?vo_w19) (w1 := (wr.setCell ⟨go16, ((ji10) : Int).toNat, none⟩ (.int .i64 (Int.tmod (wrap64 ((wrap64 ((rd x5_2 (ji10)) + (wrap64 ((rd l0 x6_1) * (rd l1 x8_2))))) + x7_2)) 10000)))) ?hg ?ho ?hn ?hr ?_; (case ho => rfl); (case hg => rfl); (case hn => rfl); (case hr => first | (go_simp; done) | (go_simp; rfl)); intro w19 hw; have hg : wr.grownBy w19 (some go16) := (by rw [hw]; exact HP18.2); have hp_ : Kd.R (Kd.int .i64) 3 w19 w.heap.size (fun _ => True) (.slice (some ⟨go16, 0, none⟩) x5_2.length co17) y119 := (by rw [hw, Ny119.out]; exact HP18.1); clear HP18; have n0_ := Az0.mk (hp_); have n1_ := Az0.mk ((by rw [hw]; exact bS_ (HB.out) GB16.out : Below w.heap.size w w19)); clear HO_5; clear HB; have HO_5 := n0_; have HB := n1_; clear n0_ n1_; clear hg hw hp_))
              repeat (go_quiet (first | ((with_reducible refine gate_store (t := 3) (p := 52) rfl ?_); (try (rw [drewN_self wr]; generalize hq_ : World.drewN wr _ = wr; have n0_ := Az0.mk (Kd.R_at hq_ HO_5.out); have n1_ := Az0.mk (below_at hq_ HB.out); clear hq_ HO_5 HB; have HO_5 := n0_; have HB := n1_; clear n0_ n1_; (try (have HP18 := Kd.R_putg HO_5.out ((ji10) : Int) (Int.tmod (wrap64 ((wrap64 ((rd x5_2 (ji10)) + (wrap64 ((rd l0 x6_1) * (rd l1 x8_2))))) + x7_2)) 10000))))); refine store_event (t := 3) (p := 52) (v := ?vo_w19) (w1 := (wr.setCell ⟨go16, ((ji10) : Int).toNat, none⟩ (.int .i64 (Int.tmod (wrap64 ((wrap64 ((rd x5_2 (ji10)) + (wrap64 ((rd l0 x6_1) * (rd l1 x8_2))))) + x7_2)) 10000)))) ?hg ?ho ?hn ?hr ?_; (case ho => rfl); (case hg => rfl); (case hn => rfl); (case hr => first | (go_simp; done) | (go_simp; rfl)); intro w19 hw; have hg : wr.grownBy w19 (some go16) := (by rw [hw]; exact HP18.2); have hp_ : Kd.R (Kd.int .i64) 3 w19 w.heap.size (fun _ => True) (.slice (some ⟨go16, 0, none⟩) x5_2.length co17) y119 := (by rw [hw, Ny119.out]; exact HP18.1); clear HP18; have n0_ := Az0.mk (hp_); have n1_ := Az0.mk ((by rw [hw]; exact bS_ (HB.out) GB16.out : Below w.heap.size w w19)); clear HO_5; clear HB; have HO_5 := n0_; have HB := n1_; clear n0_ n1_; clear hg hw hp_)); try go_wp2_with (first | ((with_reducible refine gate_store (t := 3) (p := 52) rfl ?_); (try (rw [drewN_self wr]; generalize hq_ : World.drewN wr _ = wr; have n0_ := Az0.mk (Kd.R_at hq_ HO_5.out); have n1_ := Az0.mk (below_at hq_ HB.out); clear hq_ HO_5 HB; have HO_5 := n0_; have HB := n1_; clear n0_ n1_; (try (have HP18 := Kd.R_putg HO_5.out ((ji10) : Int) (Int.tmod (wrap64 ((wrap64 ((rd x5_2 (ji10)) + (wrap64 ((rd l0 x6_1) * (rd l1 x8_2))))) + x7_2)) 10000))))); refine store_event (t := 3) (p := 52) (v := ?vo_w19) (w1 := (wr.setCell ⟨go16, ((ji10) : Int).toNat, none⟩ (.int .i64 (Int.tmod (wrap64 ((wrap64 ((rd x5_2 (ji10)) + (wrap64 ((rd l0 x6_1) * (rd l1 x8_2))))) + x7_2)) 10000)))) ?hg ?ho ?hn ?hr ?_; (case ho => rfl); (case hg => rfl); (case hn => rfl); (case hr => first | (go_simp; done) | (go_simp; rfl)); intro w19 hw; have hg : wr.grownBy w19 (some go16) := (by rw [hw]; exact HP18.2); have hp_ : Kd.R (Kd.int .i64) 3 w19 w.heap.size (fun _ => True) (.slice (some ⟨go16, 0, none⟩) x5_2.length co17) y119 := (by rw [hw, Ny119.out]; exact HP18.1); clear HP18; have n0_ := Az0.mk (hp_); have n1_ := Az0.mk ((by rw [hw]; exact bS_ (HB.out) GB16.out : Below w.heap.size w w19)); clear HO_5; clear HB; have HO_5 := n0_; have HB := n1_; clear n0_ n1_; clear hg hw hp_)))
              go_roundg k2
              case measure => have := HK1.out; have := HK2.out; omega
              case rel => exact ⟨(y119), (wrap64 (Int.tdiv (wrap64 ((wrap64 ((rd x5_2 (ji10)) + (wrap64 ((rd l0 x6_1) * (rd l1 x8_2))))) + x7_2)) 10000)), (wrap64 (x8_2 + 1)), (by first | rfl | (simp; done) | (simp only [← hji10] <;> (first | rfl | simp)) | (simp [*]; done)), (by first | rfl | (simp; done) | (simp [*]; done)), H', ⟨by have := HK1.out; have := HK2.out; omega⟩, ⟨by first | ((repeat refine Up1.r ?_); exact HO_5.out) | (rw [Ny119.out]; exact (Kd.R_putg (Kd.R_drewN HO_5.out _) ((ji10) : Int) _).1)⟩, ⟨by first | exact bS_ (pbN_ HB.out _) GB16.out | (repeat (first | (with_reducible first | exact HB.out | refine Up1.w ?_) | exact HB.out))⟩⟩
             rw [if_neg c15] at H
             exact absurd H (by simp)
            rw [if_neg c14] at H
            exact absurd H (by simp)
           rw [if_neg c13] at H
           exact absurd H (by simp)
          rw [if_neg c12] at H
          exact absurd H (by simp)
         rw [if_neg c11] at H
         exact absurd H (by simp)
        rw [if_neg c9] at H
        have c9b0 : decide (x8_2 < (l1.length : Int)) = false := decide_eq_false c9
        clear c9
        obtain ⟨ji20, hji20⟩ : ∃ j_ : Int, (wrap64 (x6_1 + (l1.length : Int))) = j_ := ⟨_, rfl⟩
        replace H : (if 0 ≤ (ji20) then (if (ji20) < (x5_2.length : Int) then (rMl.l0 k2 l0 l1 (x5_2.set ((ji20) : Int).toNat x7_2) (wrap64 (x6_1 + 1))) else (none)) else (none)) = some r := by first | (rw [hji20] at H; exact H) | (simp only [hji20] at H ⊢; exact H)
        have hji20w : (IntKind.i64.wrap (x6_1 + (l1.length : Int))) = ji20 := (i64_w _).trans hji20
        by_cases c21 : 0 ≤ (ji20)
        ·rw [if_pos c21] at H
         have c21b0 : decide (0 ≤ (ji20)) = true := decide_eq_true c21
         clear c21
         by_cases c22 : (ji20) < (x5_2.length : Int)
         ·rw [if_pos c22] at H
          have c22b0 : decide ((ji20) < (x5_2.length : Int)) = true := decide_eq_true c22
          clear c22
          obtain ⟨y120, hy120⟩ : ∃ y_ : List Int, y_ = (x5_2.set ((ji20) : Int).toNat x7_2) := ⟨_, rfl⟩
          replace H : (rMl.l0 k2 l0 l1 y120 (wrap64 (x6_1 + 1))) = some r := by first | (rw [hy120]; with_reducible exact H) | (have H2_ := (Option.bind_some _ _).symm.trans H; rw [hy120]; with_reducible exact H2_) | (have H2_ := (Option.bind_some _ _).symm.trans H; with_reducible exact H2_) | with_reducible exact H | (rw [hy120]; exact H) | exact H
          have Ny120 := Az0.mk hy120
          clear hy120
          have H' := Az0.mk H
          clear H
          have p23 : 0 ≤ ((ji20) : Int) := of_decide_eq_true (by first | (with_reducible assumption) | assumption)
          have q23 : ((ji20) : Int) < ((x5_2.length : Int) : Int) := of_decide_eq_true (by first | (with_reducible assumption) | assumption)
          obtain ⟨go23, co23, eo23, gb23, gl23, cl23, HG23⟩ := Kd.R_form HO_5.out (by omega)
          (first | cases eo23 | (injection eo23 with ea_ en_ ec_; (first | subst ea_ | (injection ea_ with ea_; subst ea_)); subst ec_; clear en_))
          have GB23 := Az0.mk gb23
          have GG23 := Az0.mk HG23
          clear gb23 gl23 HG23
          obtain ⟨hx23_0, hf23_0⟩ := Kd.R_celln 0 HO_5.out ((ji20) : Int) p23 q23
          replace p23 := eq_true p23
          replace q23 := eq_true q23
          have HP24 := Kd.R_putg HO_5.out ((ji20) : Int) x7_2
          go_wp2_with (first | ((with_reducible refine gate_store (t := 3) (p := 61) rfl ?_); (try (rw [drewN_self wr]; generalize hq_ : World.drewN wr _ = wr; have n0_ := Az0.mk (Kd.R_at hq_ HO_5.out); have n1_ := Az0.mk (below_at hq_ HB.out); clear hq_ HO_5 HB; have HO_5 := n0_; have HB := n1_; clear n0_ n1_; (try (have HP24 := Kd.R_putg HO_5.out ((ji20) : Int) x7_2)))); refine store_event (t := 3) (p := 61) (v := ?vo_w25) (w1 := (wr.setCell ⟨go23, ((ji20) : Int).toNat, none⟩ (.int .i64 x7_2))) ?hg ?ho ?hn ?hr ?_; (case ho => rfl); (case hg => rfl); (case hn => rfl); (case hr => first | (go_simp; done) | (go_simp; rfl)); intro w25 hw; have hg : wr.grownBy w25 (some go23) := (by rw [hw]; exact HP24.2); have hp_ : Kd.R (Kd.int .i64) 3 w25 w.heap.size (fun _ => True) (.slice (some ⟨go23, 0, none⟩) x5_2.length co23) y120 := (by rw [hw, Ny120.out]; exact HP24.1); clear HP24; have n0_ := Az0.mk (hp_); have n1_ := Az0.mk ((by rw [hw]; exact bS_ (HB.out) GB23.out : Below w.heap.size w w25)); clear HO_5; clear HB; have HO_5 := n0_; have HB := n1_; clear n0_ n1_; clear hg hw hp_))
          repeat (go_quiet (first | ((with_reducible refine gate_store (t := 3) (p := 61) rfl ?_); (try (rw [drewN_self wr]; generalize hq_ : World.drewN wr _ = wr; have n0_ := Az0.mk (Kd.R_at hq_ HO_5.out); have n1_ := Az0.mk (below_at hq_ HB.out); clear hq_ HO_5 HB; have HO_5 := n0_; have HB := n1_; clear n0_ n1_; (try (have HP24 := Kd.R_putg HO_5.out ((ji20) : Int) x7_2)))); refine store_event (t := 3) (p := 61) (v := ?vo_w25) (w1 := (wr.setCell ⟨go23, ((ji20) : Int).toNat, none⟩ (.int .i64 x7_2))) ?hg ?ho ?hn ?hr ?_; (case ho => rfl); (case hg => rfl); (case hn => rfl); (case hr => first | (go_simp; done) | (go_simp; rfl)); intro w25 hw; have hg : wr.grownBy w25 (some go23) := (by rw [hw]; exact HP24.2); have hp_ : Kd.R (Kd.int .i64) 3 w25 w.heap.size (fun _ => True) (.slice (some ⟨go23, 0, none⟩) x5_2.length co23) y120 := (by rw [hw, Ny120.out]; exact HP24.1); clear HP24; have n0_ := Az0.mk (hp_); have n1_ := Az0.mk ((by rw [hw]; exact bS_ (HB.out) GB23.out : Below w.heap.size w w25)); clear HO_5; clear HB; have HO_5 := n0_; have HB := n1_; clear n0_ n1_; clear hg hw hp_)); try go_wp2_with (first | ((with_reducible refine gate_store (t := 3) (p := 61) rfl ?_); (try (rw [drewN_self wr]; generalize hq_ : World.drewN wr _ = wr; have n0_ := Az0.mk (Kd.R_at hq_ HO_5.out); have n1_ := Az0.mk (below_at hq_ HB.out); clear hq_ HO_5 HB; have HO_5 := n0_; have HB := n1_; clear n0_ n1_; (try (have HP24 := Kd.R_putg HO_5.out ((ji20) : Int) x7_2)))); refine store_event (t := 3) (p := 61) (v := ?vo_w25) (w1 := (wr.setCell ⟨go23, ((ji20) : Int).toNat, none⟩ (.int .i64 x7_2))) ?hg ?ho ?hn ?hr ?_; (case ho => rfl); (case hg => rfl); (case hn => rfl); (case hr => first | (go_simp; done) | (go_simp; rfl)); intro w25 hw; have hg : wr.grownBy w25 (some go23) := (by rw [hw]; exact HP24.2); have hp_ : Kd.R (Kd.int .i64) 3 w25 w.heap.size (fun _ => True) (.slice (some ⟨go23, 0, none⟩) x5_2.length co23) y120 := (by rw [hw, Ny120.out]; exact HP24.1); clear HP24; have n0_ := Az0.mk (hp_); have n1_ := Az0.mk ((by rw [hw]; exact bS_ (HB.out) GB23.out : Below w.heap.size w w25)); clear HO_5; clear HB; have HO_5 := n0_; have HB := n1_; clear n0_ n1_; clear hg hw hp_)))
          go_roundg k2
          case measure => have := HK1.out; have := HK2.out; omega
          case rel => exact ⟨(y120), (wrap64 (x6_1 + 1)), (by first | rfl | (simp; done) | (simp [*]; done)), H', ⟨by have := HK1.out; have := HK2.out; omega⟩, ⟨by (repeat refine Up1.r ?_); exact HO_5.out⟩, ⟨by exact Ups.w HB.out⟩⟩
         rw [if_neg c22] at H
         exact absurd H (by simp)
        rw [if_neg c21] at H
        exact absurd H (by simp)
     rw [if_neg c8] at H
     have c8b0 : decide (x6_1 < (l0.length : Int)) = false := decide_eq_false c8
     clear c8
     replace H := Option.bind_eq_some_iff.mp H
     obtain ⟨t113, A260, H⟩ := H
     try dsimp only at H
     have A26 := Az0.mk A260
     clear A260
     obtain rfl := Option.some.inj H
     obtain ⟨Ao27, co27, eo27⟩ := Kd.R_slice HO_5.out
     subst eo27
     go_wp2_with (first | (go_at_call 116; (with_reducible refine (rTr.calls k1 _ _ x5_1 t113 _ ?side1 ?side2 A26.out).mono ?_); (case side1 => repeat (first | exact (Kd.R_reads' HO_5.out).2.2 | refine Up1.c ?_)); (case side2 => exact (Kd.R_reads' HO_5.out).2.1); rintro e w28 ⟨v114, rfl, ho0, hb⟩; have n0_ := Az0.mk (Kd.R_elder' (by (repeat refine Up1.r ?_); exact HO_5.out) (Kd.rB_ ho0) hb); have n1_ := Az0.mk (Kd.R_lower (Kd.R_new' ho0 (Kd.R_lt (by (repeat refine Up1.r ?_); exact HO_5.out))) (bZ_ (by exact Ups.w HB.out))); have n2_ := Az0.mk (bP_ (by exact Ups.w HB.out) hb); clear HO_5; clear HB; have HO_5 := n0_; have HO115 := n1_; have HB := n2_; clear n0_ n1_ n2_; (try clear hb); (try clear hb2); (try clear hk); (try clear hi); (try clear ho0)))
     repeat (go_quiet (first | (go_at_call 116; (with_reducible refine (rTr.calls k1 _ _ x5_1 t113 _ ?side1 ?side2 A26.out).mono ?_); (case side1 => repeat (first | exact (Kd.R_reads' HO_5.out).2.2 | refine Up1.c ?_)); (case side2 => exact (Kd.R_reads' HO_5.out).2.1); rintro e w28 ⟨v114, rfl, ho0, hb⟩; have n0_ := Az0.mk (Kd.R_elder' (by (repeat refine Up1.r ?_); exact HO_5.out) (Kd.rB_ ho0) hb); have n1_ := Az0.mk (Kd.R_lower (Kd.R_new' ho0 (Kd.R_lt (by (repeat refine Up1.r ?_); exact HO_5.out))) (bZ_ (by exact Ups.w HB.out))); have n2_ := Az0.mk (bP_ (by exact Ups.w HB.out) hb); clear HO_5; clear HB; have HO_5 := n0_; have HO115 := n1_; have HB := n2_; clear n0_ n1_ n2_; (try clear hb); (try clear hb2); (try clear hk); (try clear hi); (try clear ho0))); try go_wp2_with (first | (go_at_call 116; (with_reducible refine (rTr.calls k1 _ _ x5_1 t113 _ ?side1 ?side2 A26.out).mono ?_); (case side1 => repeat (first | exact (Kd.R_reads' HO_5.out).2.2 | refine Up1.c ?_)); (case side2 => exact (Kd.R_reads' HO_5.out).2.1); rintro e w28 ⟨v114, rfl, ho0, hb⟩; have n0_ := Az0.mk (Kd.R_elder' (by (repeat refine Up1.r ?_); exact HO_5.out) (Kd.rB_ ho0) hb); have n1_ := Az0.mk (Kd.R_lower (Kd.R_new' ho0 (Kd.R_lt (by (repeat refine Up1.r ?_); exact HO_5.out))) (bZ_ (by exact Ups.w HB.out))); have n2_ := Az0.mk (bP_ (by exact Ups.w HB.out) hb); clear HO_5; clear HB; have HO_5 := n0_; have HO115 := n1_; have HB := n2_; clear n0_ n1_ n2_; (try clear hb); (try clear hb2); (try clear hk); (try clear hi); (try clear ho0))))
     go_ret
     exact ⟨_, by first | rfl | (simp [errW_none, errW_some] <;> rfl) | (simp only [← hji3]; first | rfl | (simp [errW_none, errW_some] <;> rfl)) | (simp [*, errW_none, errW_some] <;> rfl), by (repeat refine Up1.r ?_); exact Kd.rM_ HO115.out (fun _ hk => trivial), by exact Ups.w HB.out⟩
  rw [if_neg c5] at H
  exact absurd H (by simp)
 rw [if_neg c4] at H
 exact absurd H (by simp)
def trishawref01_cmpD.l0 : Nat → List Int → List Int → Int → Option (Int)
  | 0, _, _, _ => none
  | k + 1, x0, x1, x5 => if x5 ≥ 0 then (if 0 ≤ x5 then (if x5 < (x0.length : Int) then (if x5 < (x1.length : Int) then (if (rd x0 x5) < (rd x1 x5) then (some (-1)) else (if (rd x0 x5) > (rd x1 x5) then (some 1) else (trishawref01_cmpD.l0 k x0 x1 (wrap64 (x5 - 1))))) else (none)) else (none)) else (none)) else (some 0)
def trishawref01_cmpD.f (k : Nat) (l0 : List Int) (l1 : List Int) : Option (Int) := if (l0.length : Int) < (l1.length : Int) then (some (-1)) else (if (l0.length : Int) > (l1.length : Int) then (some 1) else (trishawref01_cmpD.l0 k l0 l1 (wrap64 ((l0.length : Int) - 1))))
set_option maxHeartbeats 8000000 in
set_option maxRecDepth 100000 in
theorem trishawref01_cmpD.calls (k : Nat) (A0 : Option Addr) (c0 : Nat) (l0 : List Int) (A1 : Option Addr) (c1 : Nat) (l1 : List Int) (r : Int) (w : World) (hr0 : Kd.C (Kd.int .i64) w A0 l0.length l0) (hc0 : l0.length ≤ c0) (hr1 : Kd.C (Kd.int .i64) w A1 l1.length l1) (hc1 : l1.length ≤ c1) (h : trishawref01_cmpD.f k l0 l1 = some r) :
  Calls Try.prog 105 #[.slice A0 l0.length c0, .slice A1 l1.length c1] w fun e w' => e = .returned (.int .i64 r) ∧ Drawn0 w w' := by
 have HR0 := Az0.mk hr0
 have HC0 := Az0.mk hc0
 clear hr0 hc0
 have HR1 := Az0.mk hr1
 have HC1 := Az0.mk hc1
 clear hr1 hc1
 have H : (if (l0.length : Int) < (l1.length : Int) then (some (-1)) else (if (l0.length : Int) > (l1.length : Int) then (some 1) else (trishawref01_cmpD.l0 k l0 l1 (wrap64 ((l0.length : Int) - 1))))) = some r := h
 clear h
 by_cases c3 : (l0.length : Int) < (l1.length : Int)
 ·rw [if_pos c3] at H
  have c3b0 : decide ((l0.length : Int) < (l1.length : Int)) = true := decide_eq_true c3
  have c3b1 : decide (l0.length < l1.length) = true := decide_eq_true (Int.ofNat_lt.mp c3)
  clear c3
  obtain rfl := Option.some.inj H
  go_enter Try.func105, Try.ntmps105
  go_wp2
  repeat (go_quiet (fail); try go_wp2)
  go_ret
  exact ⟨by first | rfl | (simp; done) | (simp [*]; done), by repeat (first | exact Drawn0.refl _ | apply Drawn0.step)⟩
 rw [if_neg c3] at H
 have c3b0 : decide ((l0.length : Int) < (l1.length : Int)) = false := decide_eq_false c3
 have c3b1 : decide (l0.length < l1.length) = false := decide_eq_false (fun h => c3 (Int.ofNat_lt.mpr h))
 clear c3
 by_cases c4 : (l0.length : Int) > (l1.length : Int)
 ·rw [if_pos c4] at H
  have c4b0 : decide ((l1.length : Int) < (l0.length : Int)) = true := decide_eq_true c4
  have c4b1 : decide (l1.length < l0.length) = true := decide_eq_true (Int.ofNat_lt.mp c4)
  clear c4
  obtain rfl := Option.some.inj H
  go_enter Try.func105, Try.ntmps105
  go_wp2
  repeat (go_quiet (fail); try go_wp2)
  go_ret
  exact ⟨by first | rfl | (simp; done) | (simp [*]; done), by repeat (first | exact Drawn0.refl _ | apply Drawn0.step)⟩
 rw [if_neg c4] at H
 have c4b0 : decide ((l1.length : Int) < (l0.length : Int)) = false := decide_eq_false c4
 have c4b1 : decide (l1.length < l0.length) = false := decide_eq_false (fun h => c4 (Int.ofNat_lt.mpr h))
 clear c4
 have H' := Az0.mk H
 clear H
 go_enter Try.func105, Try.ntmps105
 go_wp2
 repeat (go_quiet (fail); try go_wp2)
 go_loopg [5] k (fun kq v5 w' => ∃ (x5_1 : Int), v5 = .int .i64 x5_1 ∧ Az0 (trishawref01_cmpD.l0 kq l0 l1 x5_1 = some r) ∧ Az0 (kq ≤ k) ∧ Drawn0 w w')
 case atStart => exact ⟨(wrap64 ((l0.length : Int) - 1)), (by first | rfl | (simp; done) | (simp [*]; done)), H', ⟨Nat.le_refl _⟩, by repeat (first | exact Drawn0.refl _ | apply Drawn0.step)⟩
 case round =>
  clear H'
  try clear c1
  try clear p2
  try clear c3
  try clear c3b0
  try clear c3b1
  try clear c4
  try clear c4b0
  try clear c4b1
  obtain ⟨x5_1, rfl, HA, HK1, ⟨m1, rfl⟩⟩ := hrel
  cases gk with
  | zero => exact absurd HA.out (by simp [trishawref01_cmpD.l0])
  | succ k1 =>
   have H := HA.out
   clear HA
   simp only [trishawref01_cmpD.l0] at H
   by_cases c5 : x5_1 ≥ 0
   ·rw [if_pos c5] at H
    have c5b0 : decide (0 ≤ x5_1) = true := decide_eq_true c5
    clear c5
    by_cases c6 : 0 ≤ x5_1
    ·rw [if_pos c6] at H
     have c6b0 : decide (0 ≤ x5_1) = true := decide_eq_true c6
     clear c6
     by_cases c7 : x5_1 < (l0.length : Int)
     ·rw [if_pos c7] at H
      have c7b0 : decide (x5_1 < (l0.length : Int)) = true := decide_eq_true c7
      clear c7
      by_cases c8 : x5_1 < (l1.length : Int)
      ·rw [if_pos c8] at H
       have c8b0 : decide (x5_1 < (l1.length : Int)) = true := decide_eq_true c8
       clear c8
       by_cases c9 : (rd l0 x5_1) < (rd l1 x5_1)
       ·rw [if_pos c9] at H
        have c9b0 : decide ((rd l0 x5_1) < (rd l1 x5_1)) = true := decide_eq_true c9
        clear c9
        obtain rfl := Option.some.inj H
        have p121 : 0 ≤ (x5_1 : Int) := of_decide_eq_true (by first | (with_reducible assumption) | assumption)
        have q121 : x5_1 < (l0.length : Int) := of_decide_eq_true (by first | (with_reducible assumption) | assumption)
        obtain ⟨ad121, e121, hx121_0⟩ := Kd.at_int HR0.out x5_1 p121 q121
        cases e121
        replace p121 := eq_true p121
        replace q121 := eq_true q121
        have p122 : 0 ≤ (x5_1 : Int) := of_decide_eq_true (by first | (with_reducible assumption) | assumption)
        have q122 : x5_1 < (l1.length : Int) := of_decide_eq_true (by first | (with_reducible assumption) | assumption)
        obtain ⟨ad122, e122, hx122_0⟩ := Kd.at_int HR1.out x5_1 p122 q122
        cases e122
        replace p122 := eq_true p122
        replace q122 := eq_true q122
        go_wp2
        repeat (go_quiet (fail); try go_wp2)
        go_ret
        exact ⟨by first | rfl | (simp; done) | (simp [*]; done), by repeat (first | exact Drawn0.refl _ | apply Drawn0.step)⟩
       rw [if_neg c9] at H
       have c9b0 : decide ((rd l0 x5_1) < (rd l1 x5_1)) = false := decide_eq_false c9
       clear c9
       by_cases c10 : (rd l0 x5_1) > (rd l1 x5_1)
       ·rw [if_pos c10] at H
        have c10b0 : decide ((rd l1 x5_1) < (rd l0 x5_1)) = true := decide_eq_true c10
        clear c10
        obtain rfl := Option.some.inj H
        have p121 : 0 ≤ (x5_1 : Int) := of_decide_eq_true (by first | (with_reducible assumption) | assumption)
        have q121 : x5_1 < (l0.length : Int) := of_decide_eq_true (by first | (with_reducible assumption) | assumption)
        obtain ⟨ad121, e121, hx121_0⟩ := Kd.at_int HR0.out x5_1 p121 q121
        cases e121
        replace p121 := eq_true p121
        replace q121 := eq_true q121
        have p122 : 0 ≤ (x5_1 : Int) := of_decide_eq_true (by first | (with_reducible assumption) | assumption)
        have q122 : x5_1 < (l1.length : Int) := of_decide_eq_true (by first | (with_reducible assumption) | assumption)
        obtain ⟨ad122, e122, hx122_0⟩ := Kd.at_int HR1.out x5_1 p122 q122
        cases e122
        replace p122 := eq_true p122
        replace q122 := eq_true q122
        have p123 : 0 ≤ (x5_1 : Int) := of_decide_eq_true (by first | (with_reducible assumption) | assumption)
        have q123 : x5_1 < (l0.length : Int) := of_decide_eq_true (by first | (with_reducible assumption) | assumption)
        obtain ⟨ad123, e123, hx123_0⟩ := Kd.at_int HR0.out x5_1 p123 q123
        obtain rfl : ad121 = ad123 := (by injection e123)
        replace p123 := eq_true p123
        replace q123 := eq_true q123
        have p124 : 0 ≤ (x5_1 : Int) := of_decide_eq_true (by first | (with_reducible assumption) | assumption)
        have q124 : x5_1 < (l1.length : Int) := of_decide_eq_true (by first | (with_reducible assumption) | assumption)
        obtain ⟨ad124, e124, hx124_0⟩ := Kd.at_int HR1.out x5_1 p124 q124
        obtain rfl : ad122 = ad124 := (by injection e124)
        replace p124 := eq_true p124
        replace q124 := eq_true q124
        go_wp2
        repeat (go_quiet (fail); try go_wp2)
        go_ret
        exact ⟨by first | rfl | (simp; done) | (simp [*]; done), by repeat (first | exact Drawn0.refl _ | apply Drawn0.step)⟩
       rw [if_neg c10] at H
       have c10b0 : decide ((rd l1 x5_1) < (rd l0 x5_1)) = false := decide_eq_false c10
       clear c10
       have H' := Az0.mk H
       clear H
       have p121 : 0 ≤ (x5_1 : Int) := of_decide_eq_true (by first | (with_reducible assumption) | assumption)
       have q121 : x5_1 < (l0.length : Int) := of_decide_eq_true (by first | (with_reducible assumption) | assumption)
       obtain ⟨ad121, e121, hx121_0⟩ := Kd.at_int HR0.out x5_1 p121 q121
       cases e121
       replace p121 := eq_true p121
       replace q121 := eq_true q121
       have p122 : 0 ≤ (x5_1 : Int) := of_decide_eq_true (by first | (with_reducible assumption) | assumption)
       have q122 : x5_1 < (l1.length : Int) := of_decide_eq_true (by first | (with_reducible assumption) | assumption)
       obtain ⟨ad122, e122, hx122_0⟩ := Kd.at_int HR1.out x5_1 p122 q122
       cases e122
       replace p122 := eq_true p122
       replace q122 := eq_true q122
       have p123 : 0 ≤ (x5_1 : Int) := of_decide_eq_true (by first | (with_reducible assumption) | assumption)
       have q123 : x5_1 < (l0.length : Int) := of_decide_eq_true (by first | (with_reducible assumption) | assumption)
       obtain ⟨ad123, e123, hx123_0⟩ := Kd.at_int HR0.out x5_1 p123 q123
       obtain rfl : ad121 = ad123 := (by injection e123)
       replace p123 := eq_true p123
       replace q123 := eq_true q123
       have p124 : 0 ≤ (x5_1 : Int) := of_decide_eq_true (by first | (with_reducible assumption) | assumption)
       have q124 : x5_1 < (l1.length : Int) := of_decide_eq_true (by first | (with_reducible assumption) | assumption)
       obtain ⟨ad124, e124, hx124_0⟩ := Kd.at_int HR1.out x5_1 p124 q124
       obtain rfl : ad122 = ad124 := (by injection e124)
       replace p124 := eq_true p124
       replace q124 := eq_true q124
       go_wp2
       repeat (go_quiet (fail); try go_wp2)
       go_roundg k1
       case measure => have := HK1.out; omega
       case rel => exact ⟨(wrap64 (x5_1 - 1)), (by first | rfl | (simp; done) | (simp [*]; done)), H', ⟨by have := HK1.out; omega⟩, by repeat (first | exact Drawn0.refl _ | apply Drawn0.step)⟩
      rw [if_neg c8] at H
      exact absurd H (by simp)
     rw [if_neg c7] at H
     exact absurd H (by simp)
    rw [if_neg c6] at H
    exact absurd H (by simp)
   rw [if_neg c5] at H
   have c5b0 : decide (0 ≤ x5_1) = false := decide_eq_false c5
   clear c5
   obtain rfl := Option.some.inj H
   go_wp2
   repeat (go_quiet (fail); try go_wp2)
   go_ret
   exact ⟨by first | rfl | (simp; done) | (simp [*]; done), by repeat (first | exact Drawn0.refl _ | apply Drawn0.step)⟩
end Go.Proofs.Ytjgbdicbdlollaa.B
namespace Go.Proofs.Ytjgbdicbdlollaa.B
open Go.RowKit Go.Proofs.YtjgbdicbdlollaaW.PrintWords Go.Proofs.YtjgbdicbdlollaaW.PrintLast Go.Proofs.YtjgbdicbdlollaaW.PrintMore
attribute [local go_sem] max2_int min2_int max_two min_two max_three min_three max_four min_four   -- for this text's walks alone
set_option linter.unusedVariables false
set_option linter.unusedSimpArgs false
def trishawref01_subD.l0 : Nat → List Int → List Int → List Int → Int → Int → Option (List Int)
  | 0, _, _, _, _, _ => none
  | k + 1, x0, x1, x5, x6, x7 => if x7 < (x0.length : Int) then (if 0 ≤ x7 then (if x7 < (x1.length : Int) then (if (wrap64 ((wrap64 ((rd x0 x7) - x6)) - (rd x1 x7))) < 0 then (if x5.length < 17592186044416 then (trishawref01_subD.l0 k x0 x1 (x5 ++ [wrap64 ((wrap64 ((wrap64 ((rd x0 x7) - x6)) - (rd x1 x7))) + 10000)]) 1 (wrap64 (x7 + 1))) else (none)) else (if x5.length < 17592186044416 then (trishawref01_subD.l0 k x0 x1 (x5 ++ [wrap64 ((wrap64 ((rd x0 x7) - x6)) - (rd x1 x7))]) 0 (wrap64 (x7 + 1))) else (none))) else (if (wrap64 ((rd x0 x7) - x6)) < 0 then (if x5.length < 17592186044416 then (trishawref01_subD.l0 k x0 x1 (x5 ++ [wrap64 ((wrap64 ((rd x0 x7) - x6)) + 10000)]) 1 (wrap64 (x7 + 1))) else (none)) else (if x5.length < 17592186044416 then (trishawref01_subD.l0 k x0 x1 (x5 ++ [wrap64 ((rd x0 x7) - x6)]) 0 (wrap64 (x7 + 1))) else (none)))) else (none)) else ((rTr.f k x5).bind fun t125 => (some t125))
def trishawref01_subD.f (k : Nat) (l0 : List Int) (l1 : List Int) : Option (List Int) := trishawref01_subD.l0 k l0 l1 ([] : List Int) 0 0
set_option maxHeartbeats 8000000 in
set_option maxRecDepth 100000 in
theorem trishawref01_subD.calls (k : Nat) (A0 : Option Addr) (c0 : Nat) (l0 : List Int) (A1 : Option Addr) (c1 : Nat) (l1 : List Int) (r : List Int) (w : World) (hr0 : Kd.C (Kd.int .i64) w A0 l0.length l0) (hc0 : l0.length ≤ c0) (hr1 : Kd.C (Kd.int .i64) w A1 l1.length l1) (hc1 : l1.length ≤ c1) (h : trishawref01_subD.f k l0 l1 = some r) :
  Calls Try.prog 119 #[.slice A0 l0.length c0, .slice A1 l1.length c1] w fun e w' => ∃ v0_ : Value, e = .returned (v0_) ∧ Kd.R (Kd.int .i64) 3 w' w.heap.size (fun _ => True) v0_ r ∧ Below w.heap.size w w' := by
 have HR0 := Az0.mk hr0
 have HC0 := Az0.mk hc0
 clear hr0 hc0
 have HR1 := Az0.mk hr1
 have HC1 := Az0.mk hc1
 clear hr1 hc1
 have HB := Az0.mk (Below.refl w.heap.size w)
 have H : (trishawref01_subD.l0 k l0 l1 ([] : List Int) 0 0) = some r := h
 clear h
 have H' := Az0.mk H
 clear H
 go_enter Try.func119, Try.ntmps119
 go_wp2
 go_loopg [5, 6, 7] k (fun kq v5 v6 v7 w' => ∃ (x5_1 : List Int) (x6_1 : Int) (x7_1 : Int), v6 = .int .i64 x6_1 ∧ v7 = .int .i64 x7_1 ∧ Az0 (trishawref01_subD.l0 kq l0 l1 x5_1 x6_1 x7_1 = some r) ∧ Az0 (kq ≤ k) ∧ Az0 (Kd.R (Kd.int .i64) 3 w' w.heap.size (fun _ => True) v5 x5_1) ∧ Az0 (Below w.heap.size w w'))
 case atStart => exact ⟨(([] : List Int)), (0), (0), (by first | rfl | (simp; done) | (simp [*]; done)), (by first | rfl | (simp; done) | (simp [*]; done)), H', ⟨Nat.le_refl _⟩, ⟨by first | exact Kd.R_nil _ _ _ _ _ | exact Kd.N_nil _ _ _ _ _ | exact Kd.V_nil _ _ _ _ _ | exact Kd.Q_nil _ _ _ _ _ | exact Kd.S_nil _ _ _ _ _⟩, ⟨by exact Ups.w HB.out⟩⟩
 case round =>
  clear H'
  try clear c1
  try clear p2
  obtain ⟨x5_1, x6_1, x7_1, rfl, rfl, HA, HK1, HO_5, HB⟩ := hrel
  cases gk with
  | zero => exact absurd HA.out (by simp [trishawref01_subD.l0])
  | succ k1 =>
   have H := HA.out
   clear HA
   simp only [trishawref01_subD.l0] at H
   by_cases c3 : x7_1 < (l0.length : Int)
   ·rw [if_pos c3] at H
    have c3b0 : decide (x7_1 < (l0.length : Int)) = true := decide_eq_true c3
    clear c3
    by_cases c4 : 0 ≤ x7_1
    ·rw [if_pos c4] at H
     have c4b0 : decide (0 ≤ x7_1) = true := decide_eq_true c4
     clear c4
     by_cases c5 : x7_1 < (l1.length : Int)
     ·rw [if_pos c5] at H
      have c5b0 : decide (x7_1 < (l1.length : Int)) = true := decide_eq_true c5
      clear c5
      by_cases c6 : (wrap64 ((wrap64 ((rd l0 x7_1) - x6_1)) - (rd l1 x7_1))) < 0
      ·rw [if_pos c6] at H
       have c6b0 : decide ((wrap64 ((wrap64 ((rd l0 x7_1) - x6_1)) - (rd l1 x7_1))) < 0) = true := decide_eq_true c6
       clear c6
       by_cases c7 : x5_1.length < 17592186044416
       ·rw [if_pos c7] at H
        have LMc7 := Az0.mk c7
        clear c7
        obtain ⟨y130, hy130⟩ : ∃ y_ : List Int, y_ = (x5_1 ++ [wrap64 ((wrap64 ((wrap64 ((rd l0 x7_1) - x6_1)) - (rd l1 x7_1))) + 10000)]) := ⟨_, rfl⟩
        replace H : (trishawref01_subD.l0 k1 l0 l1 y130 1 (wrap64 (x7_1 + 1))) = some r := by first | (rw [hy130]; with_reducible exact H) | (have H2_ := (Option.bind_some _ _).symm.trans H; rw [hy130]; with_reducible exact H2_) | (have H2_ := (Option.bind_some _ _).symm.trans H; with_reducible exact H2_) | with_reducible exact H | (rw [hy130]; exact H) | exact H
        have Ny130 := Az0.mk hy130
        clear hy130
        have H' := Az0.mk H
        clear H
        have p128 : 0 ≤ (x7_1 : Int) := of_decide_eq_true (by first | (with_reducible assumption) | assumption)
        have q128 : x7_1 < (l0.length : Int) := of_decide_eq_true (by first | (with_reducible assumption) | assumption)
        obtain ⟨ad128, e128, hx128_0⟩ := Kd.at_int HR0.out x7_1 p128 q128
        cases e128
        replace hx128_0 := (HB.out.cell (World.block_lt_of_cell? w _ hx128_0)).trans hx128_0
        replace p128 := eq_true p128
        replace q128 := eq_true q128
        have p129 : 0 ≤ (x7_1 : Int) := of_decide_eq_true (by first | (with_reducible assumption) | assumption)
        have q129 : x7_1 < (l1.length : Int) := of_decide_eq_true (by first | (with_reducible assumption) | assumption)
        obtain ⟨ad129, e129, hx129_0⟩ := Kd.at_int HR1.out x7_1 p129 q129
        cases e129
        replace hx129_0 := (HB.out.cell (World.block_lt_of_cell? w _ hx129_0)).trans hx129_0
        replace p129 := eq_true p129
        replace q129 := eq_true q129
        go_wp2_with (first | ((with_reducible refine gate_builtin (b := .append) (xs := #[.tmp 35, .tmp 37]) rfl ?_); at_builtin; refine Kd.R_append (Kd.int .i64) (w0 := w) w.heap.size rfl (.tmp 35) (.tmp 37) 24 3 (.int .i64 0) 8 rfl Try.underlying24 info3 rfl (by decide) (by omega) u5 x5_1 (wrap64 ((wrap64 ((wrap64 ((rd l0 x7_1) - x6_1)) - (rd l1 x7_1))) + 10000)) [.int .i64 (wrap64 ((wrap64 ((wrap64 ((rd l0 x7_1) - x6_1)) - (rd l1 x7_1))) + 10000))] (fun _ => True) (fun _ => False) rfl rfl ?aP (fun _ hk => hk.elim) ?aF ?aO ?aB ?aS ?aL ?_; (case aP => exact rfl); (case aB => exact (by exact Ups.w HB.out)); (case aF => exact (fun _ _ => trivial)); (case aO => exact (by (repeat refine Up1.r ?_); exact HO_5.out)); (case aS => exact (bZ_ (by exact Ups.w HB.out))); (case aL => have := LMc7.out; omega); intro v131 w8 ho hb hg hat; rw [← Ny130.out] at ho; have n0_ := Az0.mk (hb); have n1_ := Az0.mk (ho); clear HB; clear HO_5; have HB := n0_; have HO132 := n1_; clear n0_ n1_; clear ho hb hg hat))
        go_roundg k1
        case measure => have := HK1.out; omega
        case rel => exact ⟨(y130), (1), (wrap64 (x7_1 + 1)), (by first | rfl | (simp; done) | (simp [*]; done)), (by first | rfl | (simp; done) | (simp [*]; done)), H', ⟨by have := HK1.out; omega⟩, ⟨by (repeat refine Up1.r ?_); exact HO132.out⟩, ⟨by exact Ups.w HB.out⟩⟩
       rw [if_neg c7] at H
       exact absurd H (by simp)
      rw [if_neg c6] at H
      have c6b0 : decide ((wrap64 ((wrap64 ((rd l0 x7_1) - x6_1)) - (rd l1 x7_1))) < 0) = false := decide_eq_false c6
      clear c6
      by_cases c9 : x5_1.length < 17592186044416
      ·rw [if_pos c9] at H
       have LMc9 := Az0.mk c9
       clear c9
       obtain ⟨y133, hy133⟩ : ∃ y_ : List Int, y_ = (x5_1 ++ [wrap64 ((wrap64 ((rd l0 x7_1) - x6_1)) - (rd l1 x7_1))]) := ⟨_, rfl⟩
       replace H : (trishawref01_subD.l0 k1 l0 l1 y133 0 (wrap64 (x7_1 + 1))) = some r := by first | (rw [hy133]; with_reducible exact H) | (have H2_ := (Option.bind_some _ _).symm.trans H; rw [hy133]; with_reducible exact H2_) | (have H2_ := (Option.bind_some _ _).symm.trans H; with_reducible exact H2_) | with_reducible exact H | (rw [hy133]; exact H) | exact H
       have Ny133 := Az0.mk hy133
       clear hy133
       have H' := Az0.mk H
       clear H
       have p128 : 0 ≤ (x7_1 : Int) := of_decide_eq_true (by first | (with_reducible assumption) | assumption)
       have q128 : x7_1 < (l0.length : Int) := of_decide_eq_true (by first | (with_reducible assumption) | assumption)
       obtain ⟨ad128, e128, hx128_0⟩ := Kd.at_int HR0.out x7_1 p128 q128
       cases e128
       replace hx128_0 := (HB.out.cell (World.block_lt_of_cell? w _ hx128_0)).trans hx128_0
       replace p128 := eq_true p128
       replace q128 := eq_true q128
       have p129 : 0 ≤ (x7_1 : Int) := of_decide_eq_true (by first | (with_reducible assumption) | assumption)
       have q129 : x7_1 < (l1.length : Int) := of_decide_eq_true (by first | (with_reducible assumption) | assumption)
       obtain ⟨ad129, e129, hx129_0⟩ := Kd.at_int HR1.out x7_1 p129 q129
       cases e129
       replace hx129_0 := (HB.out.cell (World.block_lt_of_cell? w _ hx129_0)).trans hx129_0
       replace p129 := eq_true p129
       replace q129 := eq_true q129
       go_wp2_with (first | ((with_reducible refine gate_builtin (b := .append) (xs := #[.tmp 35, .tmp 37]) rfl ?_); at_builtin; refine Kd.R_append (Kd.int .i64) (w0 := w) w.heap.size rfl (.tmp 35) (.tmp 37) 24 3 (.int .i64 0) 8 rfl Try.underlying24 info3 rfl (by decide) (by omega) u5 x5_1 (wrap64 ((wrap64 ((rd l0 x7_1) - x6_1)) - (rd l1 x7_1))) [.int .i64 (wrap64 ((wrap64 ((rd l0 x7_1) - x6_1)) - (rd l1 x7_1)))] (fun _ => True) (fun _ => False) rfl rfl ?aP (fun _ hk => hk.elim) ?aF ?aO ?aB ?aS ?aL ?_; (case aP => exact rfl); (case aB => exact (by exact Ups.w HB.out)); (case aF => exact (fun _ _ => trivial)); (case aO => exact (by (repeat refine Up1.r ?_); exact HO_5.out)); (case aS => exact (bZ_ (by exact Ups.w HB.out))); (case aL => have := LMc9.out; omega); intro v134 w10 ho hb hg hat; rw [← Ny133.out] at ho; have n0_ := Az0.mk (hb); have n1_ := Az0.mk (ho); clear HB; clear HO_5; have HB := n0_; have HO135 := n1_; clear n0_ n1_; clear ho hb hg hat))
       go_roundg k1
       case measure => have := HK1.out; omega
       case rel => exact ⟨(y133), (0), (wrap64 (x7_1 + 1)), (by first | rfl | (simp; done) | (simp [*]; done)), (by first | rfl | (simp; done) | (simp [*]; done)), H', ⟨by have := HK1.out; omega⟩, ⟨by (repeat refine Up1.r ?_); exact HO135.out⟩, ⟨by exact Ups.w HB.out⟩⟩
      rw [if_neg c9] at H
      exact absurd H (by simp)
     rw [if_neg c5] at H
     have c5b0 : decide (x7_1 < (l1.length : Int)) = false := decide_eq_false c5
     clear c5
     by_cases c11 : (wrap64 ((rd l0 x7_1) - x6_1)) < 0
     ·rw [if_pos c11] at H
      have c11b0 : decide ((wrap64 ((rd l0 x7_1) - x6_1)) < 0) = true := decide_eq_true c11
      clear c11
      by_cases c12 : x5_1.length < 17592186044416
      ·rw [if_pos c12] at H
       have LMc12 := Az0.mk c12
       clear c12
       obtain ⟨y136, hy136⟩ : ∃ y_ : List Int, y_ = (x5_1 ++ [wrap64 ((wrap64 ((rd l0 x7_1) - x6_1)) + 10000)]) := ⟨_, rfl⟩
       replace H : (trishawref01_subD.l0 k1 l0 l1 y136 1 (wrap64 (x7_1 + 1))) = some r := by first | (rw [hy136]; with_reducible exact H) | (have H2_ := (Option.bind_some _ _).symm.trans H; rw [hy136]; with_reducible exact H2_) | (have H2_ := (Option.bind_some _ _).symm.trans H; with_reducible exact H2_) | with_reducible exact H | (rw [hy136]; exact H) | exact H
       have Ny136 := Az0.mk hy136
       clear hy136
       have H' := Az0.mk H
       clear H
       have p128 : 0 ≤ (x7_1 : Int) := of_decide_eq_true (by first | (with_reducible assumption) | assumption)
       have q128 : x7_1 < (l0.length : Int) := of_decide_eq_true (by first | (with_reducible assumption) | assumption)
       obtain ⟨ad128, e128, hx128_0⟩ := Kd.at_int HR0.out x7_1 p128 q128
       cases e128
       replace hx128_0 := (HB.out.cell (World.block_lt_of_cell? w _ hx128_0)).trans hx128_0
       replace p128 := eq_true p128
       replace q128 := eq_true q128
       go_wp2_with (first | ((with_reducible refine gate_builtin (b := .append) (xs := #[.tmp 35, .tmp 37]) rfl ?_); at_builtin; refine Kd.R_append (Kd.int .i64) (w0 := w) w.heap.size rfl (.tmp 35) (.tmp 37) 24 3 (.int .i64 0) 8 rfl Try.underlying24 info3 rfl (by decide) (by omega) u5 x5_1 (wrap64 ((wrap64 ((rd l0 x7_1) - x6_1)) + 10000)) [.int .i64 (wrap64 ((wrap64 ((rd l0 x7_1) - x6_1)) + 10000))] (fun _ => True) (fun _ => False) rfl rfl ?aP (fun _ hk => hk.elim) ?aF ?aO ?aB ?aS ?aL ?_; (case aP => exact rfl); (case aB => exact (by exact Ups.w HB.out)); (case aF => exact (fun _ _ => trivial)); (case aO => exact (by (repeat refine Up1.r ?_); exact HO_5.out)); (case aS => exact (bZ_ (by exact Ups.w HB.out))); (case aL => have := LMc12.out; omega); intro v137 w13 ho hb hg hat; rw [← Ny136.out] at ho; have n0_ := Az0.mk (hb); have n1_ := Az0.mk (ho); clear HB; clear HO_5; have HB := n0_; have HO138 := n1_; clear n0_ n1_; clear ho hb hg hat))
       go_roundg k1
       case measure => have := HK1.out; omega
       case rel => exact ⟨(y136), (1), (wrap64 (x7_1 + 1)), (by first | rfl | (simp; done) | (simp [*]; done)), (by first | rfl | (simp; done) | (simp [*]; done)), H', ⟨by have := HK1.out; omega⟩, ⟨by (repeat refine Up1.r ?_); exact HO138.out⟩, ⟨by exact Ups.w HB.out⟩⟩
      rw [if_neg c12] at H
      exact absurd H (by simp)
     rw [if_neg c11] at H
     have c11b0 : decide ((wrap64 ((rd l0 x7_1) - x6_1)) < 0) = false := decide_eq_false c11
     clear c11
     by_cases c14 : x5_1.length < 17592186044416
     ·rw [if_pos c14] at H
      have LMc14 := Az0.mk c14
      clear c14
      obtain ⟨y139, hy139⟩ : ∃ y_ : List Int, y_ = (x5_1 ++ [wrap64 ((rd l0 x7_1) - x6_1)]) := ⟨_, rfl⟩
      replace H : (trishawref01_subD.l0 k1 l0 l1 y139 0 (wrap64 (x7_1 + 1))) = some r := by first | (rw [hy139]; with_reducible exact H) | (have H2_ := (Option.bind_some _ _).symm.trans H; rw [hy139]; with_reducible exact H2_) | (have H2_ := (Option.bind_some _ _).symm.trans H; with_reducible exact H2_) | with_reducible exact H | (rw [hy139]; exact H) | exact H
      have Ny139 := Az0.mk hy139
      clear hy139
      have H' := Az0.mk H
      clear H
      have p128 : 0 ≤ (x7_1 : Int) := of_decide_eq_true (by first | (with_reducible assumption) | assumption)
      have q128 : x7_1 < (l0.length : Int) := of_decide_eq_true (by first | (with_reducible assumption) | assumption)
      obtain ⟨ad128, e128, hx128_0⟩ := Kd.at_int HR0.out x7_1 p128 q128
      cases e128
      replace hx128_0 := (HB.out.cell (World.block_lt_of_cell? w _ hx128_0)).trans hx128_0
      replace p128 := eq_true p128
      replace q128 := eq_true q128
      go_wp2_with (first | ((with_reducible refine gate_builtin (b := .append) (xs := #[.tmp 35, .tmp 37]) rfl ?_); at_builtin; refine Kd.R_append (Kd.int .i64) (w0 := w) w.heap.size rfl (.tmp 35) (.tmp 37) 24 3 (.int .i64 0) 8 rfl Try.underlying24 info3 rfl (by decide) (by omega) u5 x5_1 (wrap64 ((rd l0 x7_1) - x6_1)) [.int .i64 (wrap64 ((rd l0 x7_1) - x6_1))] (fun _ => True) (fun _ => False) rfl rfl ?aP (fun _ hk => hk.elim) ?aF ?aO ?aB ?aS ?aL ?_; (case aP => exact rfl); (case aB => exact (by exact Ups.w HB.out)); (case aF => exact (fun _ _ => trivial)); (case aO => exact (by (repeat refine Up1.r ?_); exact HO_5.out)); (case aS => exact (bZ_ (by exact Ups.w HB.out))); (case aL => have := LMc14.out; omega); intro v140 w15 ho hb hg hat; rw [← Ny139.out] at ho; have n0_ := Az0.mk (hb); have n1_ := Az0.mk (ho); clear HB; clear HO_5; have HB := n0_; have HO141 := n1_; clear n0_ n1_; clear ho hb hg hat))
      go_roundg k1
      case measure => have := HK1.out; omega
      case rel => exact ⟨(y139), (0), (wrap64 (x7_1 + 1)), (by first | rfl | (simp; done) | (simp [*]; done)), (by first | rfl | (simp; done) | (simp [*]; done)), H', ⟨by have := HK1.out; omega⟩, ⟨by (repeat refine Up1.r ?_); exact HO141.out⟩, ⟨by exact Ups.w HB.out⟩⟩
     rw [if_neg c14] at H
     exact absurd H (by simp)
    rw [if_neg c4] at H
    exact absurd H (by simp)
   rw [if_neg c3] at H
   have c3b0 : decide (x7_1 < (l0.length : Int)) = false := decide_eq_false c3
   clear c3
   replace H := Option.bind_eq_some_iff.mp H
   obtain ⟨t125, A160, H⟩ := H
   try dsimp only at H
   have A16 := Az0.mk A160
   clear A160
   obtain rfl := Option.some.inj H
   obtain ⟨Ao17, co17, eo17⟩ := Kd.R_slice HO_5.out
   subst eo17
   go_wp2_with (first | ((with_reducible refine gate_callee (f := 116) rfl ?_); refine goesL_ (some 40) rfl rfl Try.func116 (by kernel_rfl) rfl #[.slice Ao17 x5_1.length co17] rfl (by (try simp only [List.map_toArray, List.map_cons, List.map_nil]); first | done | rfl | (simp only [List.length_drop, List.length_take]; rfl)) ?_; (with_reducible refine (rTr.calls k1 _ _ x5_1 t125 _ ?side1 ?side2 A16.out).mono ?_); (case side1 => repeat (first | exact (Kd.R_reads' HO_5.out).2.2 | refine Up1.c ?_)); (case side2 => exact (Kd.R_reads' HO_5.out).2.1); rintro e w18 ⟨v126, rfl, ho0, hb⟩; refine ⟨_, rfl, ?_⟩; have n0_ := Az0.mk (Kd.R_elder' (by (repeat refine Up1.r ?_); exact HO_5.out) (Kd.rB_ ho0) hb); have n1_ := Az0.mk (Kd.R_lower (Kd.R_new' ho0 (Kd.R_lt (by (repeat refine Up1.r ?_); exact HO_5.out))) (bZ_ (by exact Ups.w HB.out))); have n2_ := Az0.mk (bP_ (by exact Ups.w HB.out) hb); clear HO_5; clear HB; have HO_5 := n0_; have HO127 := n1_; have HB := n2_; clear n0_ n1_ n2_; (try clear hb); (try clear hb2); (try clear hk); (try clear hi); (try clear ho0)))
   go_ret
   exact ⟨_, by first | rfl | (simp [errW_none, errW_some] <;> rfl) | (simp [*, errW_none, errW_some] <;> rfl), by (repeat refine Up1.r ?_); exact Kd.rM_ HO127.out (fun _ hk => trivial), by exact Ups.w HB.out⟩
mutual
def rDv.l0 : Nat → List Int → List Int → List Int → List Int → Int → Option (List Int × List Int)
  | 0, _, _, _, _, _ => none
  | k + 1, x0, x1, x6, x7, x8 => if x8 ≥ 0 then (if 0 ≤ x8 then (if x8 < (x0.length : Int) then ((some (([rd x0 x8] : List Int) : List Int)).bind fun y149 => (if y149.length + x7.length < 17592186044416 then ((rTr.f k (y149 ++ x7)).bind fun t155 => (rDv.l1 k x0 x1 x6 t155 x8 0 9999)) else (none))) else (none)) else (none)) else ((rTr.f k x6).bind fun t145 => (some (t145, x7)))
def rDv.l1 : Nat → List Int → List Int → List Int → List Int → Int → Int → Int → Option (List Int × List Int)
  | 0, _, _, _, _, _, _, _ => none
  | k + 1, x0, x1, x6, x7, x8, x10, x11 => if x10 < x11 then ((rTr.f k (([wrap64 (Int.tdiv (wrap64 ((wrap64 (x10 + x11)) + 1)) 2)] : List Int))).bind fun t174 => ((rMl.f k x1 t174).bind fun t177 => ((trishawref01_cmpD.f k t177 x7).bind fun t180 => (if t180 ≤ 0 then (rDv.l1 k x0 x1 x6 x7 x8 (wrap64 (Int.tdiv (wrap64 ((wrap64 (x10 + x11)) + 1)) 2)) x11) else (rDv.l1 k x0 x1 x6 x7 x8 x10 (wrap64 ((wrap64 (Int.tdiv (wrap64 ((wrap64 (x10 + x11)) + 1)) 2)) - 1))))))) else (if 0 ≤ x8 then (if x8 < (x6.length : Int) then ((rTr.f k (([x10] : List Int))).bind fun t162 => ((rMl.f k x1 t162).bind fun t165 => ((trishawref01_subD.f k x7 t165).bind fun t168 => (rDv.l0 k x0 x1 (x6.set (x8 : Int).toNat x10) t168 (wrap64 (x8 - 1)))))) else (none)) else (none))
end
def rDv.f (k : Nat) (l0 : List Int) (l1 : List Int) : Option (List Int × List Int) := if (l1.length : Int) = 0 then (some (([] : List Int), ([] : List Int))) else (if 0 ≤ (l0.length : Int) then (if ((l0.length : Int) : Int).toNat ≤ 35184372088832 then (rDv.l0 k l0 l1 (List.replicate ((l0.length : Int) : Int).toNat 0) ([] : List Int) (wrap64 ((l0.length : Int) - 1))) else (none)) else (none))
set_option maxHeartbeats 8000000 in
set_option maxRecDepth 100000 in
theorem rDv.calls (k : Nat) (A0 : Option Addr) (c0 : Nat) (l0 : List Int) (A1 : Option Addr) (c1 : Nat) (l1 : List Int) (r1 : List Int) (r2 : List Int) (w : World) (hr0 : Kd.C (Kd.int .i64) w A0 l0.length l0) (hc0 : l0.length ≤ c0) (hr1 : Kd.C (Kd.int .i64) w A1 l1.length l1) (hc1 : l1.length ≤ c1) (h : rDv.f k l0 l1 = some (r1, r2)) :
  Calls Try.prog 117 #[.slice A0 l0.length c0, .slice A1 l1.length c1] w fun e w' => ∃ v0_ v1_ : Value, e = .returned (.tuple #[v0_, v1_]) ∧ Kd.R (Kd.int .i64) 3 w' w.heap.size (fun k_ => some k_ ≠ (v1_ : Value).ownBlock) v0_ r1 ∧ Kd.R (Kd.int .i64) 3 w' w.heap.size (fun k_ => some k_ ≠ (v0_ : Value).ownBlock) v1_ r2 ∧ Below w.heap.size w w' := by
 have HR0 := Az0.mk hr0
 have HC0 := Az0.mk hc0
 clear hr0 hc0
 have HR1 := Az0.mk hr1
 have HC1 := Az0.mk hc1
 clear hr1 hc1
 have HB := Az0.mk (Below.refl w.heap.size w)
 have H : (if (l1.length : Int) = 0 then (some (([] : List Int), ([] : List Int))) else (if 0 ≤ (l0.length : Int) then (if ((l0.length : Int) : Int).toNat ≤ 35184372088832 then (rDv.l0 k l0 l1 (List.replicate ((l0.length : Int) : Int).toNat 0) ([] : List Int) (wrap64 ((l0.length : Int) - 1))) else (none)) else (none))) = some (r1, r2) := h
 clear h
 by_cases c3 : (l1.length : Int) = 0
 ·rw [if_pos c3] at H
  have c3b0 : ((l1.length : Int) == 0) = true := beq_iff_eq.mpr c3
  have c3b1 : ((l1.length : Int) != 0) = false := bne_eq_false_iff_eq.mpr c3
  clear c3
  simp only [Option.some.injEq, Prod.mk.injEq] at H
  obtain ⟨rfl, rfl⟩ := H
  go_enter Try.func117, Try.ntmps117
  go_wp2
  go_ret2
  exact ⟨_, _, by first | rfl | (simp [errW_none, errW_some] <;> rfl) | (simp [*, errW_none, errW_some] <;> rfl), by first | exact Kd.R_nil _ _ _ _ _ | exact Kd.N_nil _ _ _ _ _ | exact Kd.V_nil _ _ _ _ _ | exact Kd.Q_nil _ _ _ _ _ | exact Kd.S_nil _ _ _ _ _, by first | exact Kd.R_nil _ _ _ _ _ | exact Kd.N_nil _ _ _ _ _ | exact Kd.V_nil _ _ _ _ _ | exact Kd.Q_nil _ _ _ _ _ | exact Kd.S_nil _ _ _ _ _, by exact Ups.w HB.out⟩
 rw [if_neg c3] at H
 have c3b0 : ((l1.length : Int) == 0) = false := beq_eq_false_iff_ne.mpr c3
 have c3b1 : ((l1.length : Int) != 0) = true := bne_iff_ne.mpr c3
 have c3b2 : ¬ (l1 = []) := fun h_ => c3 (by rw [h_]; rfl)
 by_cases c4 : 0 ≤ (l0.length : Int)
 ·rw [if_pos c4] at H
  have c4b0 := eq_true c4
  have c4b1 : decide (0 ≤ (l0.length : Int)) = true := decide_eq_true c4
  clear c4
  by_cases c5 : ((l0.length : Int) : Int).toNat ≤ 35184372088832
  ·rw [if_pos c5] at H
   have c5b0 := eq_true c5
   have c5b1 : decide (((l0.length : Int) : Int).toNat ≤ 35184372088832) = true := decide_eq_true c5
   clear c5
   obtain ⟨y142, hy142⟩ : ∃ y_ : List Int, y_ = (List.replicate ((l0.length : Int) : Int).toNat 0) := ⟨_, rfl⟩
   replace H : (rDv.l0 k l0 l1 y142 ([] : List Int) (wrap64 ((l0.length : Int) - 1))) = some (r1, r2) := by first | (rw [hy142]; with_reducible exact H) | (have H2_ := (Option.bind_some _ _).symm.trans H; rw [hy142]; with_reducible exact H2_) | (have H2_ := (Option.bind_some _ _).symm.trans H; with_reducible exact H2_) | with_reducible exact H | (rw [hy142]; exact H) | exact H
   have Ny142 := Az0.mk hy142
   clear hy142
   have H' := Az0.mk H
   clear H
   go_enter Try.func117, Try.ntmps117
   go_wp2_with (first | ((with_reducible refine gD_ (N := 19) rfl ?_); refine Kd.R_make (Kd.int .i64) _ 3 rfl (N := 19) rfl 24 _ _ rfl (l0.length : Int) rfl rfl Try.underlying24 (.int .i64 0) 8 info3 rfl (by decide) (by omega) 0 (ok := fun _ => True) (okp := fun _ => True) rfl (fun _ hk => hk) trivial (of_decide_eq_true (by first | (with_reducible assumption) | assumption)) (Nat.le_trans (Nat.mul_le_mul_right _ (of_decide_eq_true (by first | (with_reducible assumption) | assumption) : (l0.length : Int).toNat ≤ 35184372088832)) (by omega)) (Below.refl _ _) (Nat.le_refl _) ?_; intro v143 w6 ho7 hb hg_ hnew_; clear hg_ hnew_; (first | rw [← Ny142.out] at ho7 | (simp only [Int.reduceToNat] at ho7; rw [← Ny142.out] at ho7)); have n0_ := Az0.mk (Kd.R_lower ho7 (bZ_ (by exact Ups.w HB.out))); have n1_ := Az0.mk (bP_ (by exact Ups.w HB.out) hb); clear HB; have HO144 := n0_; have HB := n1_; clear n0_ n1_; clear hb ho7))
   go_loopg [7, 8] k (fun kq v7 v8 w' => ∃ (x6_1 : List Int) (x7_1 : List Int) (x8_1 : Int), v8 = .int .i64 x8_1 ∧ Az0 (rDv.l0 kq l0 l1 x6_1 x7_1 x8_1 = some (r1, r2)) ∧ Az0 (kq ≤ k) ∧ Az0 (Kd.R (Kd.int .i64) 3 w' w.heap.size (fun k_ => some k_ ≠ (v7 : Value).ownBlock) v143 x6_1) ∧ Az0 (Kd.R (Kd.int .i64) 3 w' w.heap.size (fun k_ => some k_ ≠ (v143 : Value).ownBlock) v7 x7_1) ∧ Az0 (Below w.heap.size w w'))
   case atStart => exact ⟨(y142), (([] : List Int)), (wrap64 ((l0.length : Int) - 1)), (by first | rfl | (simp; done) | (simp [*]; done)), H', ⟨Nat.le_refl _⟩, ⟨by (repeat refine Up1.r ?_); exact Kd.rM_ HO144.out (fun _ hk => (by simp [Value.ownBlock]))⟩, ⟨by first | exact Kd.R_nil _ _ _ _ _ | exact Kd.N_nil _ _ _ _ _ | exact Kd.V_nil _ _ _ _ _ | exact Kd.Q_nil _ _ _ _ _ | exact Kd.S_nil _ _ _ _ _⟩, ⟨by exact Ups.w HB.out⟩⟩
   case round =>
    clear H'
    try clear c1
    try clear p2
    try clear c3
    try clear c3b0
    try clear c3b1
    try clear c3b2
    try clear c4
    try clear c4b0
    try clear c4b1
    try clear c5
    try clear c5b0
    try clear c5b1
    try clear p6
    obtain ⟨x6_1, x7_1, x8_1, rfl, HA, HK1, HO_6, HO_7, HB⟩ := hrel
    cases gk with
    | zero => exact absurd HA.out (by simp [rDv.l0])
    | succ k1 =>
     have H := HA.out
     clear HA
     simp only [rDv.l0] at H
     by_cases c8 : x8_1 ≥ 0
     ·rw [if_pos c8] at H
      have c8b0 : decide (0 ≤ x8_1) = true := decide_eq_true c8
      clear c8
      by_cases c9 : 0 ≤ x8_1
      ·rw [if_pos c9] at H
       have c9b0 : decide (0 ≤ x8_1) = true := decide_eq_true c9
       clear c9
       by_cases c10 : x8_1 < (l0.length : Int)
       ·rw [if_pos c10] at H
        have c10b0 : decide (x8_1 < (l0.length : Int)) = true := decide_eq_true c10
        clear c10
        obtain ⟨y149, hy149⟩ : ∃ y_ : List Int, y_ = (([rd l0 x8_1] : List Int)) := ⟨_, rfl⟩
        replace H : (if y149.length + x7_1.length < 17592186044416 then ((rTr.f k1 (y149 ++ x7_1)).bind fun t155 => (rDv.l1 k1 l0 l1 x6_1 t155 x8_1 0 9999)) else (none)) = some (r1, r2) := by first | (rw [hy149]; with_reducible exact H) | (have H2_ := (Option.bind_some _ _).symm.trans H; rw [hy149]; with_reducible exact H2_) | (have H2_ := (Option.bind_some _ _).symm.trans H; with_reducible exact H2_) | with_reducible exact H | (rw [hy149]; exact H) | exact H
        have Ny149 := Az0.mk hy149
        clear hy149
        by_cases c11 : y149.length + x7_1.length < 17592186044416
        ·rw [if_pos c11] at H
         have LMc11 := Az0.mk c11
         clear c11
         obtain ⟨y152, hy152⟩ : ∃ y_ : List Int, y_ = (y149 ++ x7_1) := ⟨_, rfl⟩
         replace H : ((rTr.f k1 y152).bind fun t155 => (rDv.l1 k1 l0 l1 x6_1 t155 x8_1 0 9999)) = some (r1, r2) := by first | (rw [hy152]; with_reducible exact H) | (have H2_ := (Option.bind_some _ _).symm.trans H; rw [hy152]; with_reducible exact H2_) | (have H2_ := (Option.bind_some _ _).symm.trans H; with_reducible exact H2_) | with_reducible exact H | (rw [hy152]; exact H) | exact H
         have Ny152 := Az0.mk hy152
         clear hy152
         replace H := Option.bind_eq_some_iff.mp H
         obtain ⟨t155, A120, H⟩ := H
         try dsimp only at H
         have A12 := Az0.mk A120
         clear A120
         have H' := Az0.mk H
         clear H
         have p148 : 0 ≤ (x8_1 : Int) := of_decide_eq_true (by first | (with_reducible assumption) | assumption)
         have q148 : x8_1 < (l0.length : Int) := of_decide_eq_true (by first | (with_reducible assumption) | assumption)
         obtain ⟨ad148, e148, hx148_0⟩ := Kd.at_int HR0.out x8_1 p148 q148
         cases e148
         replace hx148_0 := (HB.out.cell (World.block_lt_of_cell? w _ hx148_0)).trans hx148_0
         replace p148 := eq_true p148
         replace q148 := eq_true q148
         go_wp2_with (first | ((with_reducible refine gD_ (N := 31) rfl ?_); refine Kd.R_lit (Kd.int .i64) _ 3 ?hg (N := 31) ?hd (xs := ([rd l0 x8_1] : List Int)) (inner := [.int .i64 (rd l0 x8_1)]) (ok := fun _ => True) (okp := fun _ => True) ?hr ?hp (fun _ hk => hk) trivial (Below.refl _ _) (Nat.le_refl _) (by simp) ?_; (case hd => rfl); (case hg => rfl); (case hr => first | (go_simp; done) | (go_simp; rfl)); (case hp => exact (Reps.one (show Kd.M (Kd.int .i64) _ _ _ (rd l0 x8_1) [.int .i64 (rd l0 x8_1)] from rfl) (Reps.none _ _))); intro v150 w13 ho14 hb hg_ hnew_; clear hg_ hnew_; (first | rw [← Ny149.out] at ho14 | (simp only [Int.reduceToNat] at ho14; rw [← Ny149.out] at ho14)); have n0_ := Az0.mk (Kd.R_elder' (by (repeat refine Up1.r ?_); exact HO_6.out) (Kd.rB_ ho14) hb); have n1_ := Az0.mk (Kd.R_elder' (by (repeat refine Up1.r ?_); exact HO_7.out) (Kd.rB_ ho14) hb); have n2_ := Az0.mk (Kd.R_lower (Kd.R_new' (Kd.R_new' ho14 (Kd.R_lt (by (repeat refine Up1.r ?_); exact HO_6.out))) (Kd.R_lt (by (repeat refine Up1.r ?_); exact HO_7.out))) (bZ_ (by exact Ups.w HB.out))); have n3_ := Az0.mk (bP_ (by exact Ups.w HB.out) hb); clear HO_6; clear HO_7; clear HB; have HO_6 := n0_; have HO_7 := n1_; have HO151 := n2_; have HB := n3_; clear n0_ n1_ n2_ n3_; clear hb ho14; obtain ⟨Ao16, co16, eo16⟩ := Kd.R_slice HO_7.out; subst eo16) | ((with_reducible refine gate_builtin (b := .append) (xs := #[.tmp 32, .tmp 33]) rfl ?_); at_builtin; refine Kd.R_append_rows (Kd.int .i64) (w0 := w) w.heap.size rfl (.tmp 32) (.tmp 33) 24 3 (.int .i64 0) 8 rfl Try.underlying24 info3 rfl (by decide) (by omega) v150 y149 x7_1 _ _ _ (fun k_ => some k_ ≠ (v143 : Value).ownBlock ∧ some k_ ≠ (.slice Ao16 x7_1.length co16 : Value).ownBlock) (fun _ => False) rfl rfl ?aO ?aR (fun _ _ h => h) (fun _ h => h.elim) ?aF ?aB ?aS ?aL ?_; (case aR => repeat (first | exact (Kd.R_reads' HO_7.out).2.2 | refine Up1.c ?_)); (case aB => exact (by exact Ups.w HB.out)); (case aF => exact (fun k_ hk => ⟨Kd.fresh' (Kd.R_lt (by (repeat refine Up1.r ?_); exact HO_6.out)) k_ hk, Kd.fresh' (Kd.R_lt (by (repeat refine Up1.r ?_); exact HO_7.out)) k_ hk⟩)); (case aO => exact (by (repeat refine Up1.r ?_); exact Kd.rM_ HO151.out (fun _ hk => ⟨hk.1.2, hk.2⟩))); (case aS => exact (bZ_ (by exact Ups.w HB.out))); (case aL => have := LMc11.out; omega); intro v153 w15 ho hb hg hat; rw [← Ny152.out] at ho; have n0_ := Az0.mk (Kd.R_after (ok := (fun k_ => some k_ ≠ (.slice Ao16 x7_1.length co16 : Value).ownBlock)) (by (repeat refine Up1.r ?_); exact HO_6.out) hg hat); have n1_ := Az0.mk (Kd.R_after (ok := (fun k_ => some k_ ≠ (v143 : Value).ownBlock)) (by (repeat refine Up1.r ?_); exact HO_7.out) hg hat); have n2_ := Az0.mk (hb); have n3_ := Az0.mk (ho); clear HO_6; clear HO_7; clear HB; clear HO151; have HO_6 := n0_; have HO_7 := n1_; have HB := n2_; have HO154 := n3_; clear n0_ n1_ n2_ n3_; clear ho hb hg hat; obtain ⟨Ao17, co17, eo17⟩ := Kd.R_slice HO154.out; subst eo17) | ((with_reducible refine gate_callee (f := 116) rfl ?_); refine goesL_ (some 35) rfl rfl Try.func116 (by kernel_rfl) rfl #[.slice Ao17 y152.length co17] rfl (by (try simp only [List.map_toArray, List.map_cons, List.map_nil]); first | done | rfl | (simp only [List.length_drop, List.length_take]; rfl)) ?_; (with_reducible refine (rTr.calls k1 _ _ y152 t155 _ ?side1 ?side2 A12.out).mono ?_); (case side1 => repeat (first | exact (Kd.R_reads' HO154.out).2.2 | refine Up1.c ?_)); (case side2 => exact (Kd.R_reads' HO154.out).2.1); rintro e w18 ⟨v156, rfl, ho0, hb⟩; refine ⟨_, rfl, ?_⟩; have n0_ := Az0.mk (Kd.R_elder' (by (repeat refine Up1.r ?_); exact HO_6.out) (Kd.rB_ ho0) hb); have n1_ := Az0.mk (Kd.R_elder' (by (repeat refine Up1.r ?_); exact HO_7.out) (Kd.rB_ ho0) hb); have n2_ := Az0.mk (Kd.R_elder' (by (repeat refine Up1.r ?_); exact HO154.out) (Kd.rB_ ho0) hb); have n3_ := Az0.mk (Kd.R_lower (Kd.R_new' (Kd.R_new' (Kd.R_new' ho0 (Kd.R_lt (by (repeat refine Up1.r ?_); exact HO_6.out))) (Kd.R_lt (by (repeat refine Up1.r ?_); exact HO_7.out))) (Kd.R_lt (by (repeat refine Up1.r ?_); exact HO154.out))) (bZ_ (by exact Ups.w HB.out))); have n4_ := Az0.mk (bP_ (by exact Ups.w HB.out) hb); clear HO_6; clear HO_7; clear HO154; clear HB; have HO_6 := n0_; have HO_7 := n1_; have HO154 := n2_; have HO157 := n3_; have HB := n4_; clear n0_ n1_ n2_ n3_ n4_; (try clear hb); (try clear hb2); (try clear hk); (try clear hi); (try clear ho0)))
         go_loopg [10, 11] k1 (fun kq v10 v11 w' => ∃ (x10_2 : Int) (x11_2 : Int), v10 = .int .i64 x10_2 ∧ v11 = .int .i64 x11_2 ∧ Az0 (rDv.l1 kq l0 l1 x6_1 t155 x8_1 x10_2 x11_2 = some (r1, r2)) ∧ Az0 (kq ≤ k1) ∧ Az0 (Kd.R (Kd.int .i64) 3 w' w.heap.size (fun k_ => some k_ ≠ (v156 : Value).ownBlock) v143 x6_1) ∧ Az0 (Kd.R (Kd.int .i64) 3 w' w.heap.size (fun k_ => some k_ ≠ (v143 : Value).ownBlock) v156 t155) ∧ Az0 (Below w.heap.size w w'))
         case atStart => exact ⟨(0), (9999), (by first | rfl | (simp; done) | (simp [*]; done)), (by first | rfl | (simp; done) | (simp [*]; done)), H', ⟨Nat.le_refl _⟩, ⟨by (repeat refine Up1.r ?_); exact Kd.rM_ HO_6.out (fun _ hk => hk.2)⟩, ⟨by (repeat refine Up1.r ?_); exact Kd.rM_ HO157.out (fun _ hk => hk.1.1.2)⟩, ⟨by exact Ups.w HB.out⟩⟩
         case round =>
          clear H'
          try clear c1
          try clear p1
          try clear q1
          try clear hx1
          try clear p2
          try clear c3
          try clear c3b0
          try clear c3b1
          try clear c3b2
          try clear c4
          try clear c4b0
          try clear c4b1
          try clear c5
          try clear c5b0
          try clear c5b1
          try clear p6
          try clear c8
          try clear c8b0
          try clear c9
          try clear c9b0
          try clear c10
          try clear c10b0
          try clear c11
          try clear p14
          try clear q14
          try clear hx14
          try clear hx148_0
          try clear p148
          try clear p2
          try clear p6
          try clear q148
          obtain ⟨x10_2, x11_2, rfl, rfl, HA, HK2, HO_6, HO_7, HB⟩ := hrel
          cases gk with
          | zero => exact absurd HA.out (by simp [rDv.l1])
          | succ k2 =>
           have H := HA.out
           clear HA
           simp only [rDv.l1] at H
           by_cases c19 : x10_2 < x11_2
           ·rw [if_pos c19] at H
            have c19b0 : decide (x10_2 < x11_2) = true := decide_eq_true c19
            clear c19
            obtain ⟨y171, hy171⟩ : ∃ y_ : List Int, y_ = (([wrap64 (Int.tdiv (wrap64 ((wrap64 (x10_2 + x11_2)) + 1)) 2)] : List Int)) := ⟨_, rfl⟩
            replace H : ((rTr.f k2 y171).bind fun t174 => ((rMl.f k2 l1 t174).bind fun t177 => ((trishawref01_cmpD.f k2 t177 t155).bind fun t180 => (if t180 ≤ 0 then (rDv.l1 k2 l0 l1 x6_1 t155 x8_1 (wrap64 (Int.tdiv (wrap64 ((wrap64 (x10_2 + x11_2)) + 1)) 2)) x11_2) else (rDv.l1 k2 l0 l1 x6_1 t155 x8_1 x10_2 (wrap64 ((wrap64 (Int.tdiv (wrap64 ((wrap64 (x10_2 + x11_2)) + 1)) 2)) - 1))))))) = some (r1, r2) := by first | (rw [hy171]; with_reducible exact H) | (have H2_ := (Option.bind_some _ _).symm.trans H; rw [hy171]; with_reducible exact H2_) | (have H2_ := (Option.bind_some _ _).symm.trans H; with_reducible exact H2_) | with_reducible exact H | (rw [hy171]; exact H) | exact H
            have Ny171 := Az0.mk hy171
            clear hy171
            replace H := Option.bind_eq_some_iff.mp H
            obtain ⟨t174, A200, H⟩ := H
            try dsimp only at H
            have A20 := Az0.mk A200
            clear A200
            replace H := Option.bind_eq_some_iff.mp H
            obtain ⟨t177, A210, H⟩ := H
            try dsimp only at H
            have A21 := Az0.mk A210
            clear A210
            replace H := Option.bind_eq_some_iff.mp H
            obtain ⟨t180, A220, H⟩ := H
            try dsimp only at H
            have A22 := Az0.mk A220
            clear A220
            by_cases c23 : t180 ≤ 0
            ·rw [if_pos c23] at H
             have c23b0 : decide (t180 ≤ 0) = true := decide_eq_true c23
             clear c23
             have H' := Az0.mk H
             clear H
             go_wp2_with (first | ((with_reducible refine gD_ (N := 46) rfl ?_); refine Kd.R_lit (Kd.int .i64) _ 3 ?hg (N := 46) ?hd (xs := ([wrap64 (Int.tdiv (wrap64 ((wrap64 (x10_2 + x11_2)) + 1)) 2)] : List Int)) (inner := [.int .i64 (wrap64 (Int.tdiv (wrap64 ((wrap64 (x10_2 + x11_2)) + 1)) 2))]) (ok := fun _ => True) (okp := fun _ => True) ?hr ?hp (fun _ hk => hk) trivial (Below.refl _ _) (Nat.le_refl _) (by simp) ?_; (case hd => rfl); (case hg => rfl); (case hr => first | (go_simp; done) | (go_simp; rfl)); (case hp => exact (Reps.one (show Kd.M (Kd.int .i64) _ _ _ (wrap64 (Int.tdiv (wrap64 ((wrap64 (x10_2 + x11_2)) + 1)) 2)) [.int .i64 (wrap64 (Int.tdiv (wrap64 ((wrap64 (x10_2 + x11_2)) + 1)) 2))] from rfl) (Reps.none _ _))); intro v172 w24 ho25 hb hg_ hnew_; clear hg_ hnew_; (first | rw [← Ny171.out] at ho25 | (simp only [Int.reduceToNat] at ho25; rw [← Ny171.out] at ho25)); have n0_ := Az0.mk (Kd.R_elder' (by (repeat refine Up1.r ?_); exact HO_6.out) (Kd.rB_ ho25) hb); have n1_ := Az0.mk (Kd.R_elder' (by (repeat refine Up1.r ?_); exact HO_7.out) (Kd.rB_ ho25) hb); have n2_ := Az0.mk (Kd.R_lower (Kd.R_new' (Kd.R_new' ho25 (Kd.R_lt (by (repeat refine Up1.r ?_); exact HO_6.out))) (Kd.R_lt (by (repeat refine Up1.r ?_); exact HO_7.out))) (bZ_ (by exact Ups.w HB.out))); have n3_ := Az0.mk (bP_ (by exact Ups.w HB.out) hb); clear HO_6; clear HO_7; clear HB; have HO_6 := n0_; have HO_7 := n1_; have HO173 := n2_; have HB := n3_; clear n0_ n1_ n2_ n3_; clear hb ho25; obtain ⟨Ao26, co26, eo26⟩ := Kd.R_slice HO173.out; subst eo26) | ((with_reducible refine gate_callee (f := 116) rfl ?_); refine goesL_ (some 47) rfl rfl Try.func116 (by kernel_rfl) rfl #[.slice Ao26 y171.length co26] rfl (by (try simp only [List.map_toArray, List.map_cons, List.map_nil]); first | done | rfl | (simp only [List.length_drop, List.length_take]; rfl)) ?_; (with_reducible refine (rTr.calls k2 _ _ y171 t174 _ ?side1 ?side2 A20.out).mono ?_); (case side1 => repeat (first | exact (Kd.R_reads' HO173.out).2.2 | refine Up1.c ?_)); (case side2 => exact (Kd.R_reads' HO173.out).2.1); rintro e w27 ⟨v175, rfl, ho0, hb⟩; refine ⟨_, rfl, ?_⟩; have n0_ := Az0.mk (Kd.R_elder' (by (repeat refine Up1.r ?_); exact HO_6.out) (Kd.rB_ ho0) hb); have n1_ := Az0.mk (Kd.R_elder' (by (repeat refine Up1.r ?_); exact HO_7.out) (Kd.rB_ ho0) hb); have n2_ := Az0.mk (Kd.R_elder' (by (repeat refine Up1.r ?_); exact HO173.out) (Kd.rB_ ho0) hb); have n3_ := Az0.mk (Kd.R_lower (Kd.R_new' (Kd.R_new' (Kd.R_new' ho0 (Kd.R_lt (by (repeat refine Up1.r ?_); exact HO_6.out))) (Kd.R_lt (by (repeat refine Up1.r ?_); exact HO_7.out))) (Kd.R_lt (by (repeat refine Up1.r ?_); exact HO173.out))) (bZ_ (by exact Ups.w HB.out))); have n4_ := Az0.mk (bP_ (by exact Ups.w HB.out) hb); clear HO_6; clear HO_7; clear HO173; clear HB; have HO_6 := n0_; have HO_7 := n1_; have HO173 := n2_; have HO176 := n3_; have HB := n4_; clear n0_ n1_ n2_ n3_ n4_; (try clear hb); (try clear hb2); (try clear hk); (try clear hi); (try clear ho0); obtain ⟨Ao28, co28, eo28⟩ := Kd.R_slice HO176.out; subst eo28) | ((with_reducible refine gate_callee (f := 104) rfl ?_); refine goesL_ (some 48) rfl rfl Try.func104 (by kernel_rfl) rfl #[.slice A1 l1.length c1, .slice Ao28 t174.length co28] rfl (by (try simp only [List.map_toArray, List.map_cons, List.map_nil]); first | done | rfl | (simp only [List.length_drop, List.length_take]; rfl)) ?_; (with_reducible refine (rMl.calls k2 _ _ l1 _ _ t174 t177 _ ?side1 ?side2 ?side3 ?side4 A21.out).mono ?_); (case side1 => repeat (first | exact (Kd.C_below HR1.out HB.out) | refine Up1.c ?_)); (case side2 => exact HC1.out); (case side3 => repeat (first | exact (Kd.R_reads' HO176.out).2.2 | refine Up1.c ?_)); (case side4 => exact (Kd.R_reads' HO176.out).2.1); rintro e w29 ⟨v178, rfl, ho0, hb⟩; refine ⟨_, rfl, ?_⟩; have n0_ := Az0.mk (Kd.R_elder' (by (repeat refine Up1.r ?_); exact HO_6.out) (Kd.rB_ ho0) hb); have n1_ := Az0.mk (Kd.R_elder' (by (repeat refine Up1.r ?_); exact HO_7.out) (Kd.rB_ ho0) hb); have n2_ := Az0.mk (Kd.R_elder' (by (repeat refine Up1.r ?_); exact HO173.out) (Kd.rB_ ho0) hb); have n3_ := Az0.mk (Kd.R_elder' (by (repeat refine Up1.r ?_); exact HO176.out) (Kd.rB_ ho0) hb); have n4_ := Az0.mk (Kd.R_lower (Kd.R_new' (Kd.R_new' (Kd.R_new' (Kd.R_new' ho0 (Kd.R_lt (by (repeat refine Up1.r ?_); exact HO_6.out))) (Kd.R_lt (by (repeat refine Up1.r ?_); exact HO_7.out))) (Kd.R_lt (by (repeat refine Up1.r ?_); exact HO173.out))) (Kd.R_lt (by (repeat refine Up1.r ?_); exact HO176.out))) (bZ_ (by exact Ups.w HB.out))); have n5_ := Az0.mk (bP_ (by exact Ups.w HB.out) hb); clear HO_6; clear HO_7; clear HO173; clear HO176; clear HB; have HO_6 := n0_; have HO_7 := n1_; have HO173 := n2_; have HO176 := n3_; have HO179 := n4_; have HB := n5_; clear n0_ n1_ n2_ n3_ n4_ n5_; (try clear hb); (try clear hb2); (try clear hk); (try clear hi); (try clear ho0); obtain ⟨Ao30, co30, eo30⟩ := Kd.R_slice HO179.out; subst eo30; obtain ⟨Ao31, co31, eo31⟩ := Kd.R_slice HO_7.out; subst eo31) | ((with_reducible refine gate_callee (f := 105) rfl ?_); refine goesL_ (some 51) rfl rfl Try.func105 (by kernel_rfl) rfl #[.slice Ao30 t177.length co30, .slice Ao31 t155.length co31] rfl (by (try simp only [List.map_toArray, List.map_cons, List.map_nil]); first | done | rfl | (simp only [List.length_drop, List.length_take]; rfl)) ?_; (with_reducible refine (trishawref01_cmpD.calls k2 _ _ t177 _ _ t155 t180 _ ?side1 ?side2 ?side3 ?side4 A22.out).mono ?_); (case side1 => repeat (first | exact (Kd.R_reads' HO179.out).2.2 | refine Up1.c ?_)); (case side2 => exact (Kd.R_reads' HO179.out).2.1); (case side3 => repeat (first | exact (Kd.R_reads' HO_7.out).2.2 | refine Up1.c ?_)); (case side4 => exact (Kd.R_reads' HO_7.out).2.1); rintro e w' ⟨rfl, ⟨nd, rfl⟩⟩; refine ⟨_, rfl, ?_⟩))
             go_roundg k2
             case measure => have := HK1.out; have := HK2.out; omega
             case rel => exact ⟨(wrap64 (Int.tdiv (wrap64 ((wrap64 (x10_2 + x11_2)) + 1)) 2)), (x11_2), (by first | rfl | (simp; done) | (simp [*]; done)), (by first | rfl | (simp; done) | (simp [*]; done)), H', ⟨by have := HK1.out; have := HK2.out; omega⟩, ⟨by (repeat refine Up1.r ?_); exact Kd.rM_ HO_6.out (fun _ hk => hk.1.1.1)⟩, ⟨by (repeat refine Up1.r ?_); exact Kd.rM_ HO_7.out (fun _ hk => hk.1.1.1)⟩, ⟨by exact Ups.w HB.out⟩⟩
            rw [if_neg c23] at H
            have c23b0 : decide (t180 ≤ 0) = false := decide_eq_false c23
            clear c23
            have H' := Az0.mk H
            clear H
            go_wp2_with (first | ((with_reducible refine gD_ (N := 46) rfl ?_); refine Kd.R_lit (Kd.int .i64) _ 3 ?hg (N := 46) ?hd (xs := ([wrap64 (Int.tdiv (wrap64 ((wrap64 (x10_2 + x11_2)) + 1)) 2)] : List Int)) (inner := [.int .i64 (wrap64 (Int.tdiv (wrap64 ((wrap64 (x10_2 + x11_2)) + 1)) 2))]) (ok := fun _ => True) (okp := fun _ => True) ?hr ?hp (fun _ hk => hk) trivial (Below.refl _ _) (Nat.le_refl _) (by simp) ?_; (case hd => rfl); (case hg => rfl); (case hr => first | (go_simp; done) | (go_simp; rfl)); (case hp => exact (Reps.one (show Kd.M (Kd.int .i64) _ _ _ (wrap64 (Int.tdiv (wrap64 ((wrap64 (x10_2 + x11_2)) + 1)) 2)) [.int .i64 (wrap64 (Int.tdiv (wrap64 ((wrap64 (x10_2 + x11_2)) + 1)) 2))] from rfl) (Reps.none _ _))); intro v172 w32 ho33 hb hg_ hnew_; clear hg_ hnew_; (first | rw [← Ny171.out] at ho33 | (simp only [Int.reduceToNat] at ho33; rw [← Ny171.out] at ho33)); have n0_ := Az0.mk (Kd.R_elder' (by (repeat refine Up1.r ?_); exact HO_6.out) (Kd.rB_ ho33) hb); have n1_ := Az0.mk (Kd.R_elder' (by (repeat refine Up1.r ?_); exact HO_7.out) (Kd.rB_ ho33) hb); have n2_ := Az0.mk (Kd.R_lower (Kd.R_new' (Kd.R_new' ho33 (Kd.R_lt (by (repeat refine Up1.r ?_); exact HO_6.out))) (Kd.R_lt (by (repeat refine Up1.r ?_); exact HO_7.out))) (bZ_ (by exact Ups.w HB.out))); have n3_ := Az0.mk (bP_ (by exact Ups.w HB.out) hb); clear HO_6; clear HO_7; clear HB; have HO_6 := n0_; have HO_7 := n1_; have HO173 := n2_; have HB := n3_; clear n0_ n1_ n2_ n3_; clear hb ho33; obtain ⟨Ao34, co34, eo34⟩ := Kd.R_slice HO173.out; subst eo34) | ((with_reducible refine gate_callee (f := 116) rfl ?_); refine goesL_ (some 47) rfl rfl Try.func116 (by kernel_rfl) rfl #[.slice Ao34 y171.length co34] rfl (by (try simp only [List.map_toArray, List.map_cons, List.map_nil]); first | done | rfl | (simp only [List.length_drop, List.length_take]; rfl)) ?_; (with_reducible refine (rTr.calls k2 _ _ y171 t174 _ ?side1 ?side2 A20.out).mono ?_); (case side1 => repeat (first | exact (Kd.R_reads' HO173.out).2.2 | refine Up1.c ?_)); (case side2 => exact (Kd.R_reads' HO173.out).2.1); rintro e w35 ⟨v175, rfl, ho0, hb⟩; refine ⟨_, rfl, ?_⟩; have n0_ := Az0.mk (Kd.R_elder' (by (repeat refine Up1.r ?_); exact HO_6.out) (Kd.rB_ ho0) hb); have n1_ := Az0.mk (Kd.R_elder' (by (repeat refine Up1.r ?_); exact HO_7.out) (Kd.rB_ ho0) hb); have n2_ := Az0.mk (Kd.R_elder' (by (repeat refine Up1.r ?_); exact HO173.out) (Kd.rB_ ho0) hb); have n3_ := Az0.mk (Kd.R_lower (Kd.R_new' (Kd.R_new' (Kd.R_new' ho0 (Kd.R_lt (by (repeat refine Up1.r ?_); exact HO_6.out))) (Kd.R_lt (by (repeat refine Up1.r ?_); exact HO_7.out))) (Kd.R_lt (by (repeat refine Up1.r ?_); exact HO173.out))) (bZ_ (by exact Ups.w HB.out))); have n4_ := Az0.mk (bP_ (by exact Ups.w HB.out) hb); clear HO_6; clear HO_7; clear HO173; clear HB; have HO_6 := n0_; have HO_7 := n1_; have HO173 := n2_; have HO176 := n3_; have HB := n4_; clear n0_ n1_ n2_ n3_ n4_; (try clear hb); (try clear hb2); (try clear hk); (try clear hi); (try clear ho0); obtain ⟨Ao36, co36, eo36⟩ := Kd.R_slice HO176.out; subst eo36) | ((with_reducible refine gate_callee (f := 104) rfl ?_); refine goesL_ (some 48) rfl rfl Try.func104 (by kernel_rfl) rfl #[.slice A1 l1.length c1, .slice Ao36 t174.length co36] rfl (by (try simp only [List.map_toArray, List.map_cons, List.map_nil]); first | done | rfl | (simp only [List.length_drop, List.length_take]; rfl)) ?_; (with_reducible refine (rMl.calls k2 _ _ l1 _ _ t174 t177 _ ?side1 ?side2 ?side3 ?side4 A21.out).mono ?_); (case side1 => repeat (first | exact (Kd.C_below HR1.out HB.out) | refine Up1.c ?_)); (case side2 => exact HC1.out); (case side3 => repeat (first | exact (Kd.R_reads' HO176.out).2.2 | refine Up1.c ?_)); (case side4 => exact (Kd.R_reads' HO176.out).2.1); rintro e w37 ⟨v178, rfl, ho0, hb⟩; refine ⟨_, rfl, ?_⟩; have n0_ := Az0.mk (Kd.R_elder' (by (repeat refine Up1.r ?_); exact HO_6.out) (Kd.rB_ ho0) hb); have n1_ := Az0.mk (Kd.R_elder' (by (repeat refine Up1.r ?_); exact HO_7.out) (Kd.rB_ ho0) hb); have n2_ := Az0.mk (Kd.R_elder' (by (repeat refine Up1.r ?_); exact HO173.out) (Kd.rB_ ho0) hb); have n3_ := Az0.mk (Kd.R_elder' (by (repeat refine Up1.r ?_); exact HO176.out) (Kd.rB_ ho0) hb); have n4_ := Az0.mk (Kd.R_lower (Kd.R_new' (Kd.R_new' (Kd.R_new' (Kd.R_new' ho0 (Kd.R_lt (by (repeat refine Up1.r ?_); exact HO_6.out))) (Kd.R_lt (by (repeat refine Up1.r ?_); exact HO_7.out))) (Kd.R_lt (by (repeat refine Up1.r ?_); exact HO173.out))) (Kd.R_lt (by (repeat refine Up1.r ?_); exact HO176.out))) (bZ_ (by exact Ups.w HB.out))); have n5_ := Az0.mk (bP_ (by exact Ups.w HB.out) hb); clear HO_6; clear HO_7; clear HO173; clear HO176; clear HB; have HO_6 := n0_; have HO_7 := n1_; have HO173 := n2_; have HO176 := n3_; have HO179 := n4_; have HB := n5_; clear n0_ n1_ n2_ n3_ n4_ n5_; (try clear hb); (try clear hb2); (try clear hk); (try clear hi); (try clear ho0); obtain ⟨Ao38, co38, eo38⟩ := Kd.R_slice HO179.out; subst eo38; obtain ⟨Ao39, co39, eo39⟩ := Kd.R_slice HO_7.out; subst eo39) | ((with_reducible refine gate_callee (f := 105) rfl ?_); refine goesL_ (some 51) rfl rfl Try.func105 (by kernel_rfl) rfl #[.slice Ao38 t177.length co38, .slice Ao39 t155.length co39] rfl (by (try simp only [List.map_toArray, List.map_cons, List.map_nil]); first | done | rfl | (simp only [List.length_drop, List.length_take]; rfl)) ?_; (with_reducible refine (trishawref01_cmpD.calls k2 _ _ t177 _ _ t155 t180 _ ?side1 ?side2 ?side3 ?side4 A22.out).mono ?_); (case side1 => repeat (first | exact (Kd.R_reads' HO179.out).2.2 | refine Up1.c ?_)); (case side2 => exact (Kd.R_reads' HO179.out).2.1); (case side3 => repeat (first | exact (Kd.R_reads' HO_7.out).2.2 | refine Up1.c ?_)); (case side4 => exact (Kd.R_reads' HO_7.out).2.1); rintro e w' ⟨rfl, ⟨nd, rfl⟩⟩; refine ⟨_, rfl, ?_⟩))
            go_roundg k2
            case measure => have := HK1.out; have := HK2.out; omega
            case rel => exact ⟨(x10_2), (wrap64 ((wrap64 (Int.tdiv (wrap64 ((wrap64 (x10_2 + x11_2)) + 1)) 2)) - 1)), (by first | rfl | (simp; done) | (simp [*]; done)), (by first | rfl | (simp; done) | (simp [*]; done)), H', ⟨by have := HK1.out; have := HK2.out; omega⟩, ⟨by (repeat refine Up1.r ?_); exact Kd.rM_ HO_6.out (fun _ hk => hk.1.1.1)⟩, ⟨by (repeat refine Up1.r ?_); exact Kd.rM_ HO_7.out (fun _ hk => hk.1.1.1)⟩, ⟨by exact Ups.w HB.out⟩⟩
           rw [if_neg c19] at H
           have c19b0 : decide (x10_2 < x11_2) = false := decide_eq_false c19
           clear c19
           by_cases c40 : 0 ≤ x8_1
           ·rw [if_pos c40] at H
            have c40b0 : decide (0 ≤ x8_1) = true := decide_eq_true c40
            clear c40
            by_cases c41 : x8_1 < (x6_1.length : Int)
            ·rw [if_pos c41] at H
             have c41b0 : decide (x8_1 < (x6_1.length : Int)) = true := decide_eq_true c41
             clear c41
             obtain ⟨y158, hy158⟩ : ∃ y_ : List Int, y_ = (x6_1.set (x8_1 : Int).toNat x10_2) := ⟨_, rfl⟩
             replace H : ((rTr.f k2 (([x10_2] : List Int))).bind fun t162 => ((rMl.f k2 l1 t162).bind fun t165 => ((trishawref01_subD.f k2 t155 t165).bind fun t168 => (rDv.l0 k2 l0 l1 y158 t168 (wrap64 (x8_1 - 1)))))) = some (r1, r2) := by first | (rw [hy158]; with_reducible exact H) | (have H2_ := (Option.bind_some _ _).symm.trans H; rw [hy158]; with_reducible exact H2_) | (have H2_ := (Option.bind_some _ _).symm.trans H; with_reducible exact H2_) | with_reducible exact H | (rw [hy158]; exact H) | exact H
             have Ny158 := Az0.mk hy158
             clear hy158
             obtain ⟨y159, hy159⟩ : ∃ y_ : List Int, y_ = (([x10_2] : List Int)) := ⟨_, rfl⟩
             replace H : ((rTr.f k2 y159).bind fun t162 => ((rMl.f k2 l1 t162).bind fun t165 => ((trishawref01_subD.f k2 t155 t165).bind fun t168 => (rDv.l0 k2 l0 l1 y158 t168 (wrap64 (x8_1 - 1)))))) = some (r1, r2) := by first | (rw [hy159]; with_reducible exact H) | (have H2_ := (Option.bind_some _ _).symm.trans H; rw [hy159]; with_reducible exact H2_) | (have H2_ := (Option.bind_some _ _).symm.trans H; with_reducible exact H2_) | with_reducible exact H | (rw [hy159]; exact H) | exact H
             have Ny159 := Az0.mk hy159
             clear hy159
             replace H := Option.bind_eq_some_iff.mp H
             obtain ⟨t162, A430, H⟩ := H
             try dsimp only at H
             have A43 := Az0.mk A430
             clear A430
             replace H := Option.bind_eq_some_iff.mp H
             obtain ⟨t165, A440, H⟩ := H
             try dsimp only at H
             have A44 := Az0.mk A440
             clear A440
             replace H := Option.bind_eq_some_iff.mp H
             obtain ⟨t168, A450, H⟩ := H
             try dsimp only at H
             have A45 := Az0.mk A450
             clear A450
             have H' := Az0.mk H
             clear H
             have p42 : 0 ≤ (x8_1 : Int) := of_decide_eq_true (by first | (with_reducible assumption) | assumption)
             have q42 : (x8_1 : Int) < ((x6_1.length : Int) : Int) := of_decide_eq_true (by first | (with_reducible assumption) | assumption)
             obtain ⟨go42, co42, eo42, gb42, gl42, cl42, HG42⟩ := Kd.R_form HO_6.out (by omega)
             (first | cases eo42 | (injection eo42 with ea_ en_ ec_; (first | subst ea_ | (injection ea_ with ea_; subst ea_)); subst ec_; clear en_))
             have GB42 := Az0.mk gb42
             have GG42 := Az0.mk HG42
             clear gb42 gl42 HG42
             obtain ⟨hx42_0, hf42_0⟩ := Kd.R_celln 0 HO_6.out (x8_1 : Int) p42 q42
             replace p42 := eq_true p42
             replace q42 := eq_true q42
             have HP46 := Kd.R_putg HO_6.out (x8_1 : Int) x10_2
             go_wp2_with (first | ((with_reducible refine gate_store (t := 3) (p := 59) rfl ?_); refine store_event (t := 3) (p := 59) (v := ?vo_w47) (w1 := (wr.setCell ⟨go42, (x8_1 : Int).toNat, none⟩ (.int .i64 x10_2))) ?hg ?ho ?hn ?hr ?_; (case ho => rfl); (case hg => rfl); (case hn => rfl); (case hr => first | (go_simp; done) | (go_simp; rfl)); intro w47 hw; have hg : wr.grownBy w47 (some go42) := (by rw [hw]; exact HP46.2); have hp_ : Kd.R (Kd.int .i64) 3 w47 w.heap.size (fun k_ => some k_ ≠ (v156 : Value).ownBlock) (.slice (some ⟨go42, 0, none⟩) x6_1.length co42) y158 := (by rw [hw, Ny158.out]; exact HP46.1); clear HP46; have n0_ := Az0.mk (hp_); have n1_ := Az0.mk (Kd.R_after (v := (.slice (some ⟨go42, 0, none⟩) x6_1.length co42)) (v1 := (.slice (some ⟨go42, 0, none⟩) x6_1.length co42)) (ok := (fun _ => True)) (by (repeat refine Up1.r ?_); exact Kd.rM_ HO_7.out (fun _ hk => ⟨trivial, hk⟩)) hg (.inl rfl)); have n2_ := Az0.mk ((by rw [hw]; exact bS_ (HB.out) GB42.out : Below w.heap.size w w47)); clear HO_6; clear HO_7; clear HB; have HO_6 := n0_; have HO_7 := n1_; have HB := n2_; clear n0_ n1_ n2_; clear hg hw hp_) | ((with_reducible refine gD_ (N := 63) rfl ?_); refine Kd.R_lit (Kd.int .i64) _ 3 ?hg (N := 63) ?hd (xs := ([x10_2] : List Int)) (inner := [.int .i64 x10_2]) (ok := fun _ => True) (okp := fun _ => True) ?hr ?hp (fun _ hk => hk) trivial (Below.refl _ _) (Nat.le_refl _) (by simp) ?_; (case hd => rfl); (case hg => rfl); (case hr => first | (go_simp; done) | (go_simp; rfl)); (case hp => exact (Reps.one (show Kd.M (Kd.int .i64) _ _ _ x10_2 [.int .i64 x10_2] from rfl) (Reps.none _ _))); intro v160 w48 ho49 hb hg_ hnew_; clear hg_ hnew_; (first | rw [← Ny159.out] at ho49 | (simp only [Int.reduceToNat] at ho49; rw [← Ny159.out] at ho49)); have n0_ := Az0.mk (Kd.R_elder' (by (repeat refine Up1.r ?_); exact HO_6.out) (Kd.rB_ ho49) hb); have n1_ := Az0.mk (Kd.R_elder' (by (repeat refine Up1.r ?_); exact HO_7.out) (Kd.rB_ ho49) hb); have n2_ := Az0.mk (Kd.R_lower (Kd.R_new' (Kd.R_new' ho49 (Kd.R_lt (by (repeat refine Up1.r ?_); exact HO_6.out))) (Kd.R_lt (by (repeat refine Up1.r ?_); exact HO_7.out))) (bZ_ (by exact Ups.w HB.out))); have n3_ := Az0.mk (bP_ (by exact Ups.w HB.out) hb); clear HO_6; clear HO_7; clear HB; have HO_6 := n0_; have HO_7 := n1_; have HO161 := n2_; have HB := n3_; clear n0_ n1_ n2_ n3_; clear hb ho49; obtain ⟨Ao50, co50, eo50⟩ := Kd.R_slice HO161.out; subst eo50) | ((with_reducible refine gate_callee (f := 116) rfl ?_); refine goesL_ (some 64) rfl rfl Try.func116 (by kernel_rfl) rfl #[.slice Ao50 y159.length co50] rfl (by (try simp only [List.map_toArray, List.map_cons, List.map_nil]); first | done | rfl | (simp only [List.length_drop, List.length_take]; rfl)) ?_; (with_reducible refine (rTr.calls k2 _ _ y159 t162 _ ?side1 ?side2 A43.out).mono ?_); (case side1 => repeat (first | exact (Kd.R_reads' HO161.out).2.2 | refine Up1.c ?_)); (case side2 => exact (Kd.R_reads' HO161.out).2.1); rintro e w51 ⟨v163, rfl, ho0, hb⟩; refine ⟨_, rfl, ?_⟩; have n0_ := Az0.mk (Kd.R_elder' (by (repeat refine Up1.r ?_); exact HO_6.out) (Kd.rB_ ho0) hb); have n1_ := Az0.mk (Kd.R_elder' (by (repeat refine Up1.r ?_); exact HO_7.out) (Kd.rB_ ho0) hb); have n2_ := Az0.mk (Kd.R_elder' (by (repeat refine Up1.r ?_); exact HO161.out) (Kd.rB_ ho0) hb); have n3_ := Az0.mk (Kd.R_lower (Kd.R_new' (Kd.R_new' (Kd.R_new' ho0 (Kd.R_lt (by (repeat refine Up1.r ?_); exact HO_6.out))) (Kd.R_lt (by (repeat refine Up1.r ?_); exact HO_7.out))) (Kd.R_lt (by (repeat refine Up1.r ?_); exact HO161.out))) (bZ_ (by exact Ups.w HB.out))); have n4_ := Az0.mk (bP_ (by exact Ups.w HB.out) hb); clear HO_6; clear HO_7; clear HO161; clear HB; have HO_6 := n0_; have HO_7 := n1_; have HO161 := n2_; have HO164 := n3_; have HB := n4_; clear n0_ n1_ n2_ n3_ n4_; (try clear hb); (try clear hb2); (try clear hk); (try clear hi); (try clear ho0); obtain ⟨Ao52, co52, eo52⟩ := Kd.R_slice HO164.out; subst eo52) | ((with_reducible refine gate_callee (f := 104) rfl ?_); refine goesL_ (some 65) rfl rfl Try.func104 (by kernel_rfl) rfl #[.slice A1 l1.length c1, .slice Ao52 t162.length co52] rfl (by (try simp only [List.map_toArray, List.map_cons, List.map_nil]); first | done | rfl | (simp only [List.length_drop, List.length_take]; rfl)) ?_; (with_reducible refine (rMl.calls k2 _ _ l1 _ _ t162 t165 _ ?side1 ?side2 ?side3 ?side4 A44.out).mono ?_); (case side1 => repeat (first | exact (Kd.C_below HR1.out HB.out) | refine Up1.c ?_)); (case side2 => exact HC1.out); (case side3 => repeat (first | exact (Kd.R_reads' HO164.out).2.2 | refine Up1.c ?_)); (case side4 => exact (Kd.R_reads' HO164.out).2.1); rintro e w53 ⟨v166, rfl, ho0, hb⟩; refine ⟨_, rfl, ?_⟩; have n0_ := Az0.mk (Kd.R_elder' (by (repeat refine Up1.r ?_); exact HO_6.out) (Kd.rB_ ho0) hb); have n1_ := Az0.mk (Kd.R_elder' (by (repeat refine Up1.r ?_); exact HO_7.out) (Kd.rB_ ho0) hb); have n2_ := Az0.mk (Kd.R_elder' (by (repeat refine Up1.r ?_); exact HO161.out) (Kd.rB_ ho0) hb); have n3_ := Az0.mk (Kd.R_elder' (by (repeat refine Up1.r ?_); exact HO164.out) (Kd.rB_ ho0) hb); have n4_ := Az0.mk (Kd.R_lower (Kd.R_new' (Kd.R_new' (Kd.R_new' (Kd.R_new' ho0 (Kd.R_lt (by (repeat refine Up1.r ?_); exact HO_6.out))) (Kd.R_lt (by (repeat refine Up1.r ?_); exact HO_7.out))) (Kd.R_lt (by (repeat refine Up1.r ?_); exact HO161.out))) (Kd.R_lt (by (repeat refine Up1.r ?_); exact HO164.out))) (bZ_ (by exact Ups.w HB.out))); have n5_ := Az0.mk (bP_ (by exact Ups.w HB.out) hb); clear HO_6; clear HO_7; clear HO161; clear HO164; clear HB; have HO_6 := n0_; have HO_7 := n1_; have HO161 := n2_; have HO164 := n3_; have HO167 := n4_; have HB := n5_; clear n0_ n1_ n2_ n3_ n4_ n5_; (try clear hb); (try clear hb2); (try clear hk); (try clear hi); (try clear ho0); obtain ⟨Ao54, co54, eo54⟩ := Kd.R_slice HO_7.out; subst eo54; obtain ⟨Ao55, co55, eo55⟩ := Kd.R_slice HO167.out; subst eo55) | ((with_reducible refine gate_callee (f := 119) rfl ?_); refine goesL_ (some 66) rfl rfl Try.func119 (by kernel_rfl) rfl #[.slice Ao54 t155.length co54, .slice Ao55 t165.length co55] rfl (by (try simp only [List.map_toArray, List.map_cons, List.map_nil]); first | done | rfl | (simp only [List.length_drop, List.length_take]; rfl)) ?_; (with_reducible refine (trishawref01_subD.calls k2 _ _ t155 _ _ t165 t168 _ ?side1 ?side2 ?side3 ?side4 A45.out).mono ?_); (case side1 => repeat (first | exact (Kd.R_reads' HO_7.out).2.2 | refine Up1.c ?_)); (case side2 => exact (Kd.R_reads' HO_7.out).2.1); (case side3 => repeat (first | exact (Kd.R_reads' HO167.out).2.2 | refine Up1.c ?_)); (case side4 => exact (Kd.R_reads' HO167.out).2.1); rintro e w56 ⟨v169, rfl, ho0, hb⟩; refine ⟨_, rfl, ?_⟩; have n0_ := Az0.mk (Kd.R_elder' (by (repeat refine Up1.r ?_); exact HO_6.out) (Kd.rB_ ho0) hb); have n1_ := Az0.mk (Kd.R_elder' (by (repeat refine Up1.r ?_); exact HO_7.out) (Kd.rB_ ho0) hb); have n2_ := Az0.mk (Kd.R_elder' (by (repeat refine Up1.r ?_); exact HO161.out) (Kd.rB_ ho0) hb); have n3_ := Az0.mk (Kd.R_elder' (by (repeat refine Up1.r ?_); exact HO164.out) (Kd.rB_ ho0) hb); have n4_ := Az0.mk (Kd.R_elder' (by (repeat refine Up1.r ?_); exact HO167.out) (Kd.rB_ ho0) hb); have n5_ := Az0.mk (Kd.R_lower (Kd.R_new' (Kd.R_new' (Kd.R_new' (Kd.R_new' (Kd.R_new' ho0 (Kd.R_lt (by (repeat refine Up1.r ?_); exact HO_6.out))) (Kd.R_lt (by (repeat refine Up1.r ?_); exact HO_7.out))) (Kd.R_lt (by (repeat refine Up1.r ?_); exact HO161.out))) (Kd.R_lt (by (repeat refine Up1.r ?_); exact HO164.out))) (Kd.R_lt (by (repeat refine Up1.r ?_); exact HO167.out))) (bZ_ (by exact Ups.w HB.out))); have n6_ := Az0.mk (bP_ (by exact Ups.w HB.out) hb); clear HO_6; clear HO_7; clear HO161; clear HO164; clear HO167; clear HB; have HO_6 := n0_; have HO_7 := n1_; have HO161 := n2_; have HO164 := n3_; have HO167 := n4_; have HO170 := n5_; have HB := n6_; clear n0_ n1_ n2_ n3_ n4_ n5_ n6_; (try clear hb); (try clear hb2); (try clear hk); (try clear hi); (try clear ho0)))
             go_roundg k2
             case measure => have := HK1.out; have := HK2.out; omega
             case rel => exact ⟨(y158), (t168), (wrap64 (x8_1 - 1)), (by first | rfl | (simp; done) | (simp [*]; done)), H', ⟨by have := HK1.out; have := HK2.out; omega⟩, ⟨by (repeat refine Up1.r ?_); exact Kd.rM_ HO_6.out (fun _ hk => hk.2)⟩, ⟨by (repeat refine Up1.r ?_); exact Kd.rM_ HO170.out (fun _ hk => hk.1.1.1.1.2)⟩, ⟨by exact Ups.w HB.out⟩⟩
            rw [if_neg c41] at H
            exact absurd H (by simp)
           rw [if_neg c40] at H
           exact absurd H (by simp)
        rw [if_neg c11] at H
        exact absurd H (by simp)
       rw [if_neg c10] at H
       exact absurd H (by simp)
      rw [if_neg c9] at H
      exact absurd H (by simp)
     rw [if_neg c8] at H
     have c8b0 : decide (0 ≤ x8_1) = false := decide_eq_false c8
     clear c8
     replace H := Option.bind_eq_some_iff.mp H
     obtain ⟨t145, A570, H⟩ := H
     try dsimp only at H
     have A57 := Az0.mk A570
     clear A570
     simp only [Option.some.injEq, Prod.mk.injEq] at H
     obtain ⟨rfl, rfl⟩ := H
     obtain ⟨Ao58, co58, eo58⟩ := Kd.R_slice HO_6.out
     subst eo58
     go_wp2_with (first | ((with_reducible refine gate_callee (f := 116) rfl ?_); refine goesL_ (some 68) rfl rfl Try.func116 (by kernel_rfl) rfl #[.slice Ao58 x6_1.length co58] rfl (by (try simp only [List.map_toArray, List.map_cons, List.map_nil]); first | done | rfl | (simp only [List.length_drop, List.length_take]; rfl)) ?_; (with_reducible refine (rTr.calls k1 _ _ x6_1 t145 _ ?side1 ?side2 A57.out).mono ?_); (case side1 => repeat (first | exact (Kd.R_reads' HO_6.out).2.2 | refine Up1.c ?_)); (case side2 => exact (Kd.R_reads' HO_6.out).2.1); rintro e w59 ⟨v146, rfl, ho0, hb⟩; refine ⟨_, rfl, ?_⟩; have n0_ := Az0.mk (Kd.R_elder' (by (repeat refine Up1.r ?_); exact HO_6.out) (Kd.rB_ ho0) hb); have n1_ := Az0.mk (Kd.R_elder' (by (repeat refine Up1.r ?_); exact HO_7.out) (Kd.rB_ ho0) hb); have n2_ := Az0.mk (Kd.R_lower (Kd.R_new' (Kd.R_new' ho0 (Kd.R_lt (by (repeat refine Up1.r ?_); exact HO_6.out))) (Kd.R_lt (by (repeat refine Up1.r ?_); exact HO_7.out))) (bZ_ (by exact Ups.w HB.out))); have n3_ := Az0.mk (bP_ (by exact Ups.w HB.out) hb); clear HO_6; clear HO_7; clear HB; have HO_6 := n0_; have HO_7 := n1_; have HO147 := n2_; have HB := n3_; clear n0_ n1_ n2_ n3_; (try clear hb); (try clear hb2); (try clear hk); (try clear hi); (try clear ho0)))
     go_ret2
     exact ⟨_, _, by first | rfl | (simp [errW_none, errW_some] <;> rfl) | (simp [*, errW_none, errW_some] <;> rfl), by (repeat refine Up1.r ?_); exact Kd.rM_ HO147.out (fun _ hk => hk.2), by (repeat refine Up1.r ?_); exact Kd.rM_ HO_7.out (fun _ hk => hk.2), by exact Ups.w HB.out⟩
  rw [if_neg c5] at H
  exact absurd H (by simp)
 rw [if_neg c4] at H
 exact absurd H (by simp)
end Go.Proofs.Ytjgbdicbdlollaa.B
namespace Go.Proofs.Ytjgbdicbdlollaa.B
open Go.RowKit Go.Proofs.YtjgbdicbdlollaaW.PrintWords Go.Proofs.YtjgbdicbdlollaaW.PrintLast Go.Proofs.YtjgbdicbdlollaaW.PrintMore
attribute [local go_sem] max2_int min2_int max_two min_two max_three min_three max_four min_four   -- for this text's walks alone
set_option linter.unusedVariables false
set_option linter.unusedSimpArgs false
def trishawref01_Over.f (k : Nat) (a0_0 : Bool) (l0_1 : List Int) (a1_0 : Bool) (l1_1 : List Int) : Option (Bool × List Int × Bool × List Int) := (rDv.f k l0_1 l1_1).bind fun bt200 => (if a0_0 = true then none else ((rWh.f k false bt200.1).bind fun bt206 => ((rWh.f k false bt200.2).bind fun bt210 => (some (bt206.1, bt206.2, bt210.1, bt210.2)))))
set_option maxHeartbeats 8000000 in
set_option maxRecDepth 100000 in
theorem trishawref01_Over.calls (k : Nat) (a0_0 : Bool) (A0_1 : Option Addr) (c0_1 : Nat) (l0_1 : List Int) (a1_0 : Bool) (A1_1 : Option Addr) (c1_1 : Nat) (l1_1 : List Int) (r1 : Bool) (r2 : List Int) (r3 : Bool) (r4 : List Int) (w : World) (hr0_1 : Kd.C (Kd.int .i64) w A0_1 l0_1.length l0_1) (hc0_1 : l0_1.length ≤ c0_1) (hr1_1 : Kd.C (Kd.int .i64) w A1_1 l1_1.length l1_1) (hc1_1 : l1_1.length ≤ c1_1) (h : trishawref01_Over.f k a0_0 l0_1 a1_0 l1_1 = some (r1, r2, r3, r4)) :
  Calls Try.prog 103 #[.agg #[.bool a0_0, .slice A0_1 l0_1.length c0_1], .agg #[.bool a1_0, .slice A1_1 l1_1.length c1_1]] w fun e w' => ∃ v1_ v3_ : Value, e = .returned (.tuple #[.agg #[.bool r1, v1_], .agg #[.bool r3, v3_]]) ∧ Kd.R (Kd.int .i64) 3 w' w.heap.size (fun k_ => some k_ ≠ (v3_ : Value).ownBlock) v1_ r2 ∧ Kd.R (Kd.int .i64) 3 w' w.heap.size (fun k_ => some k_ ≠ (v1_ : Value).ownBlock) v3_ r4 ∧ Below w.heap.size w w' := by
 have hu75 := Try.underlying75
 have HR0_1 := Az0.mk hr0_1
 have HC0_1 := Az0.mk hc0_1
 clear hr0_1 hc0_1
 have HR1_1 := Az0.mk hr1_1
 have HC1_1 := Az0.mk hc1_1
 clear hr1_1 hc1_1
 have HB := Az0.mk (Below.refl w.heap.size w)
 have H : ((rDv.f k l0_1 l1_1).bind fun bt200 => (if a0_0 = true then none else ((rWh.f k false bt200.1).bind fun bt206 => ((rWh.f k false bt200.2).bind fun bt210 => (some (bt206.1, bt206.2, bt210.1, bt210.2)))))) = some (r1, r2, r3, r4) := h
 clear h
 replace H := Option.bind_eq_some_iff.mp H
 obtain ⟨⟨t200, t201⟩, A30, H⟩ := H
 try dsimp only at H
 have A3 := Az0.mk A30
 clear A30
 by_cases c4 : a0_0 = true
 ·rw [if_pos c4] at H
  exact absurd H (by simp)
 replace c4 := Bool.eq_false_iff.mpr c4
 subst c4
 have H1 : ((rWh.f k false t200).bind fun bt206 => ((rWh.f k false t201).bind fun bt210 => (some (bt206.1, bt206.2, bt210.1, bt210.2)))) = some (r1, r2, r3, r4) := by rw [if_neg (show ¬ (false = true) by decide)] at H; exact H
 clear H
 have H := H1
 clear H1
 replace H := Option.bind_eq_some_iff.mp H
 obtain ⟨⟨t206, t207⟩, A620, H⟩ := H
 try dsimp only at H
 have A62 := Az0.mk A620
 clear A620
 replace H := Option.bind_eq_some_iff.mp H
 obtain ⟨⟨t210, t211⟩, A630, H⟩ := H
 try dsimp only at H
 have A63 := Az0.mk A630
 clear A630
 simp only [Option.some.injEq, Prod.mk.injEq] at H
 obtain ⟨rfl, rfl, rfl, rfl⟩ := H
 go_enter Try.func103, Try.ntmps103
 go_wp2_with (first | ((with_reducible refine gD_ (N := 2) rfl ?_); refine bE_ ?hg (N := 2) ?hd (cs := #[.bool false, .slice A0_1 l0_1.length c0_1]) (t := 75) ?hr ?_; (case hd => rfl); (case hg => rfl); (case hr => first | (go_simp; done) | (go_simp; rfl)); intro gb196 hg w64 hbox hb; have n0_ := Az0.mk (bP_ (by exact Ups.w HB.out) hb); have n1_ := Az0.mk (hbox); have n2_ := Az0.mk ((by rw [hg]; exact (bZ_ (by exact Ups.w HB.out)) : w.heap.size ≤ gb196)); have n3_ := Az0.mk ((by rw [hg]; exact (bZ_ (by exact Ups.w HB.out)) : w.heap.size ≤ gb196)); clear HB; have HB := n0_; have BK196 := n1_; have GW196 := n2_; have GE196 := n3_; clear n0_ n1_ n2_ n3_; clear hb hbox hg) | ((with_reducible refine gD_ (N := 3) rfl ?_); refine bE_ ?hg (N := 3) ?hd (cs := #[.bool a1_0, .slice A1_1 l1_1.length c1_1]) (t := 75) ?hr ?_; (case hd => rfl); (case hg => rfl); (case hr => first | (go_simp; done) | (go_simp; rfl)); intro gb197 hg w65 hbox hb; have n0_ := Az0.mk (bB_ (Ups.b BK196.out) hb); have n1_ := Az0.mk (bP_ (by repeat first|exact HB.out | refine Up1.w ?_ | refine bS_ ?_ GE196.out) hb); have n2_ := Az0.mk (hbox); have n3_ := Az0.mk ((by rw [hg]; exact (bZ_ (by repeat first|exact HB.out | refine Up1.w ?_ | refine bS_ ?_ GE196.out)) : w.heap.size ≤ gb197)); have n4_ := Az0.mk ((by rw [hg]; exact (bZ_ (by repeat first|exact HB.out | refine Up1.w ?_ | refine bS_ ?_ GE196.out)) : w.heap.size ≤ gb197)); have n5_ := Az0.mk ((by rw [hg]; exact Nat.ne_of_lt (bL_ (Ups.b BK196.out)) : gb196 ≠ gb197)); have n6_ := Az0.mk ((by rw [hg]; exact Nat.ne_of_gt (bL_ (Ups.b BK196.out)) : gb197 ≠ gb196)); clear BK196; clear HB; have BK196 := n0_; have HB := n1_; have BK197 := n2_; have GW197 := n3_; have GE197 := n4_; have NB196_197 := n5_; have NB197_196 := n6_; clear n0_ n1_ n2_ n3_ n4_ n5_ n6_; clear hb hbox hg) | ((with_reducible refine gD_ (N := 4) rfl ?_); refine bE_ ?hg (N := 4) ?hd (cs := #[.bool false, .slice none 0 0]) (t := 75) ?hr ?_; (case hd => rfl); (case hg => rfl); (case hr => first | (go_simp; done) | (go_simp; rfl)); intro gb198 hg w66 hbox hb; have n0_ := Az0.mk (bB_ (Ups.b BK196.out) hb); have n1_ := Az0.mk (bB_ (Ups.b BK197.out) hb); have n2_ := Az0.mk (bP_ (by repeat first|exact HB.out | refine Up1.w ?_ | refine bS_ ?_ GE196.out | refine bS_ ?_ GE197.out) hb); have n3_ := Az0.mk (hbox); have n4_ := Az0.mk ((by rw [hg]; exact (bZ_ (by repeat first|exact HB.out | refine Up1.w ?_ | refine bS_ ?_ GE196.out | refine bS_ ?_ GE197.out)) : w.heap.size ≤ gb198)); have n5_ := Az0.mk ((by rw [hg]; exact (bZ_ (by repeat first|exact HB.out | refine Up1.w ?_ | refine bS_ ?_ GE196.out | refine bS_ ?_ GE197.out)) : w.heap.size ≤ gb198)); have n6_ := Az0.mk ((by rw [hg]; exact Nat.ne_of_lt (bL_ (Ups.b BK196.out)) : gb196 ≠ gb198)); have n7_ := Az0.mk ((by rw [hg]; exact Nat.ne_of_gt (bL_ (Ups.b BK196.out)) : gb198 ≠ gb196)); have n8_ := Az0.mk ((by rw [hg]; exact Nat.ne_of_lt (bL_ (Ups.b BK197.out)) : gb197 ≠ gb198)); have n9_ := Az0.mk ((by rw [hg]; exact Nat.ne_of_gt (bL_ (Ups.b BK197.out)) : gb198 ≠ gb197)); clear BK196; clear BK197; clear HB; have BK196 := n0_; have BK197 := n1_; have HB := n2_; have BK198 := n3_; have GW198 := n4_; have GE198 := n5_; have NB196_198 := n6_; have NB198_196 := n7_; have NB197_198 := n8_; have NB198_197 := n9_; clear n0_ n1_ n2_ n3_ n4_ n5_ n6_ n7_ n8_ n9_; clear hb hbox hg) | ((with_reducible refine gD_ (N := 5) rfl ?_); refine bE_ ?hg (N := 5) ?hd (cs := #[.bool false, .slice none 0 0]) (t := 75) ?hr ?_; (case hd => rfl); (case hg => rfl); (case hr => first | (go_simp; done) | (go_simp; rfl)); intro gb199 hg w67 hbox hb; have n0_ := Az0.mk (bB_ (Ups.b BK196.out) hb); have n1_ := Az0.mk (bB_ (Ups.b BK197.out) hb); have n2_ := Az0.mk (bB_ (Ups.b BK198.out) hb); have n3_ := Az0.mk (bP_ (by repeat first|exact HB.out | refine Up1.w ?_ | refine bS_ ?_ GE196.out | refine bS_ ?_ GE197.out | refine bS_ ?_ GE198.out) hb); have n4_ := Az0.mk (hbox); have n5_ := Az0.mk ((by rw [hg]; exact (bZ_ (by repeat first|exact HB.out | refine Up1.w ?_ | refine bS_ ?_ GE196.out | refine bS_ ?_ GE197.out | refine bS_ ?_ GE198.out)) : w.heap.size ≤ gb199)); have n6_ := Az0.mk ((by rw [hg]; exact (bZ_ (by repeat first|exact HB.out | refine Up1.w ?_ | refine bS_ ?_ GE196.out | refine bS_ ?_ GE197.out | refine bS_ ?_ GE198.out)) : w.heap.size ≤ gb199)); have n7_ := Az0.mk ((by rw [hg]; exact Nat.ne_of_lt (bL_ (Ups.b BK196.out)) : gb196 ≠ gb199)); have n8_ := Az0.mk ((by rw [hg]; exact Nat.ne_of_gt (bL_ (Ups.b BK196.out)) : gb199 ≠ gb196)); have n9_ := Az0.mk ((by rw [hg]; exact Nat.ne_of_lt (bL_ (Ups.b BK197.out)) : gb197 ≠ gb199)); have n10_ := Az0.mk ((by rw [hg]; exact Nat.ne_of_gt (bL_ (Ups.b BK197.out)) : gb199 ≠ gb197)); have n11_ := Az0.mk ((by rw [hg]; exact Nat.ne_of_lt (bL_ (Ups.b BK198.out)) : gb198 ≠ gb199)); have n12_ := Az0.mk ((by rw [hg]; exact Nat.ne_of_gt (bL_ (Ups.b BK198.out)) : gb199 ≠ gb198)); clear BK196; clear BK197; clear BK198; clear HB; have BK196 := n0_; have BK197 := n1_; have BK198 := n2_; have HB := n3_; have BK199 := n4_; have GW199 := n5_; have GE199 := n6_; have NB196_199 := n7_; have NB199_196 := n8_; have NB197_199 := n9_; have NB199_197 := n10_; have NB198_199 := n11_; have NB199_198 := n12_; clear n0_ n1_ n2_ n3_ n4_ n5_ n6_ n7_ n8_ n9_ n10_ n11_ n12_; clear hb hbox hg; have hnb68 := NB196_197.out; have hnc68 := NB197_196.out; have hnb69 := NB196_198.out; have hnc69 := NB198_196.out; have hnb70 := NB196_199.out; have hnc70 := NB199_196.out; have hcz71_0 : w67.cell? ⟨gb196, 0, none⟩ = some (.bool false) := (bkC BK196.out 0).trans rfl; have hcz71_1 : w67.cell? ⟨gb196, 1, none⟩ = some (.slice A0_1 l0_1.length c0_1) := (bkC BK196.out 1).trans rfl; have hfz71_0 := bF_ BK196.out 0; have hfz71_1 := bF_ BK196.out 1; have hnb72 := NB197_198.out; have hnc72 := NB198_197.out; have hnb73 := NB197_199.out; have hnc73 := NB199_197.out; have hcz74_0 : w67.cell? ⟨gb197, 0, none⟩ = some (.bool a1_0) := (bkC BK197.out 0).trans rfl; have hcz74_1 : w67.cell? ⟨gb197, 1, none⟩ = some (.slice A1_1 l1_1.length c1_1) := (bkC BK197.out 1).trans rfl; have hfz74_0 := bF_ BK197.out 0; have hfz74_1 := bF_ BK197.out 1) | ((with_reducible refine gate_callee (f := 117) rfl ?_); refine goesL_ (some 13) rfl rfl Try.func117 (by kernel_rfl) rfl #[.slice A0_1 l0_1.length c0_1, .slice A1_1 l1_1.length c1_1] rfl (by (try simp only [List.map_toArray, List.map_cons, List.map_nil]); first | done | rfl | (simp only [List.length_drop, List.length_take]; rfl)) ?_; (with_reducible refine (rDv.calls k _ _ l0_1 _ _ l1_1 t200 t201 _ ?side1 ?side2 ?side3 ?side4 A3.out).mono ?_); (case side1 => repeat (first | exact (Kd.C_below HR0_1.out HB.out) | refine Up1.c ?_)); (case side2 => exact HC0_1.out); (case side3 => repeat (first | exact (Kd.C_below HR1_1.out HB.out) | refine Up1.c ?_)); (case side4 => exact HC1_1.out); rintro e w75 ⟨v202, v204, rfl, ho0, ho1, hb⟩; refine ⟨_, rfl, ?_⟩; have n0_ := Az0.mk (Kd.R_lower ho0 (bZ_ (by repeat first|exact HB.out | refine Up1.w ?_ | refine bS_ ?_ GE196.out | refine bS_ ?_ GE197.out | refine bS_ ?_ GE198.out | refine bS_ ?_ GE199.out))); have n1_ := Az0.mk (Kd.R_lower ho1 (bZ_ (by repeat first|exact HB.out | refine Up1.w ?_ | refine bS_ ?_ GE196.out | refine bS_ ?_ GE197.out | refine bS_ ?_ GE198.out | refine bS_ ?_ GE199.out))); have n2_ := Az0.mk (bB_ (Ups.b BK196.out) hb); have n4_ := Az0.mk (bB_ (Ups.b BK198.out) hb); have n5_ := Az0.mk (bB_ (Ups.b BK199.out) hb); have n6_ := Az0.mk (bP_ (by repeat first|exact HB.out | refine Up1.w ?_ | refine bS_ ?_ GE196.out | refine bS_ ?_ GE197.out | refine bS_ ?_ GE198.out | refine bS_ ?_ GE199.out) hb); clear BK196; clear BK198; clear BK199; clear HB; have HO203 := n0_; have HO205 := n1_; have BK196 := n2_; have BK198 := n4_; have BK199 := n5_; have HB := n6_; clear n0_ n1_ n2_ n4_ n5_ n6_; (try clear hb); (try clear hb2); (try clear hk); (try clear hi); (try clear ho0); (try clear ho1); have hcz76_0 : w75.cell? ⟨gb196, 0, none⟩ = some (.bool false) := (bkC BK196.out 0).trans rfl; have hcz76_1 : w75.cell? ⟨gb196, 1, none⟩ = some (.slice A0_1 l0_1.length c0_1) := (bkC BK196.out 1).trans rfl; have hfz76_0 := bF_ BK196.out 0; have hfz76_1 := bF_ BK196.out 1; obtain ⟨Ao77, co77, eo77⟩ := Kd.R_slice HO203.out; subst eo77) | ((with_reducible refine gate_callee (f := 101) rfl ?_); refine goesL_ (some 20) rfl rfl Try.func101 (by kernel_rfl) rfl #[.bool false, .slice Ao77 t200.length co77] rfl (by (try simp only [List.map_toArray, List.map_cons, List.map_nil]); first | done | rfl | (simp only [List.length_drop, List.length_take]; rfl)) ?_; (with_reducible refine (rWh.calls k false _ _ t200 t206 t207 _ ?side1 ?side2 A62.out).mono ?_); (case side1 => repeat (first | exact (Kd.R_reads' HO203.out).2.2 | refine Up1.c ?_)); (case side2 => exact (Kd.R_reads' HO203.out).2.1); rintro e w78 ⟨v208, rfl, ho0, hb⟩; refine ⟨_, rfl, ?_⟩; have n0_ := Az0.mk (Kd.R_elder' (by (repeat refine Up1.r ?_); exact HO203.out) (Kd.rB_ ho0) hb); have n1_ := Az0.mk (Kd.R_elder' (by (repeat refine Up1.r ?_); exact HO205.out) (Kd.rB_ ho0) hb); have n2_ := Az0.mk (Kd.R_lower (Kd.R_new' (Kd.R_new' ho0 (Kd.R_lt (by (repeat refine Up1.r ?_); exact HO203.out))) (Kd.R_lt (by (repeat refine Up1.r ?_); exact HO205.out))) (bZ_ (by repeat first|exact HB.out | refine Up1.w ?_ | refine bS_ ?_ GE196.out | refine bS_ ?_ GE197.out | refine bS_ ?_ GE198.out | refine bS_ ?_ GE199.out))); have n5_ := Az0.mk (bB_ (Ups.b BK198.out) hb); have n6_ := Az0.mk (bB_ (Ups.b BK199.out) hb); have n7_ := Az0.mk (bP_ (by repeat first|exact HB.out | refine Up1.w ?_ | refine bS_ ?_ GE196.out | refine bS_ ?_ GE197.out | refine bS_ ?_ GE198.out | refine bS_ ?_ GE199.out) hb); clear HO203; clear HO205; clear BK198; clear BK199; clear HB; have HO203 := n0_; have HO205 := n1_; have HO209 := n2_; have BK198 := n5_; have BK199 := n6_; have HB := n7_; clear n0_ n1_ n2_ n5_ n6_ n7_; (try clear hb); (try clear hb2); (try clear hk); (try clear hi); (try clear ho0); obtain ⟨Ao79, co79, eo79⟩ := Kd.R_slice HO205.out; subst eo79) | ((with_reducible refine gate_callee (f := 101) rfl ?_); refine goesL_ (some 22) rfl rfl Try.func101 (by kernel_rfl) rfl #[.bool false, .slice Ao79 t201.length co79] rfl (by (try simp only [List.map_toArray, List.map_cons, List.map_nil]); first | done | rfl | (simp only [List.length_drop, List.length_take]; rfl)) ?_; (with_reducible refine (rWh.calls k false _ _ t201 t210 t211 _ ?side1 ?side2 A63.out).mono ?_); (case side1 => repeat (first | exact (Kd.R_reads' HO205.out).2.2 | refine Up1.c ?_)); (case side2 => exact (Kd.R_reads' HO205.out).2.1); rintro e w80 ⟨v212, rfl, ho0, hb⟩; refine ⟨_, rfl, ?_⟩; have n0_ := Az0.mk (Kd.R_elder' (by (repeat refine Up1.r ?_); exact HO203.out) (Kd.rB_ ho0) hb); have n1_ := Az0.mk (Kd.R_elder' (by (repeat refine Up1.r ?_); exact HO205.out) (Kd.rB_ ho0) hb); have n2_ := Az0.mk (Kd.R_elder' (by (repeat refine Up1.r ?_); exact HO209.out) (Kd.rB_ ho0) hb); have n3_ := Az0.mk (Kd.R_lower (Kd.R_new' (Kd.R_new' (Kd.R_new' ho0 (Kd.R_lt (by (repeat refine Up1.r ?_); exact HO203.out))) (Kd.R_lt (by (repeat refine Up1.r ?_); exact HO205.out))) (Kd.R_lt (by (repeat refine Up1.r ?_); exact HO209.out))) (bZ_ (by repeat first|exact HB.out | refine Up1.w ?_ | refine bS_ ?_ GE196.out | refine bS_ ?_ GE197.out | refine bS_ ?_ GE198.out | refine bS_ ?_ GE199.out))); have n6_ := Az0.mk (bB_ (Ups.b BK198.out) hb); have n7_ := Az0.mk (bB_ (Ups.b BK199.out) hb); have n8_ := Az0.mk (bP_ (by repeat first|exact HB.out | refine Up1.w ?_ | refine bS_ ?_ GE196.out | refine bS_ ?_ GE197.out | refine bS_ ?_ GE198.out | refine bS_ ?_ GE199.out) hb); clear HO203; clear HO205; clear HO209; clear BK198; clear BK199; clear HB; have HO203 := n0_; have HO205 := n1_; have HO209 := n2_; have HO213 := n3_; have BK198 := n6_; have BK199 := n7_; have HB := n8_; clear n0_ n1_ n2_ n3_ n6_ n7_ n8_; (try clear hb); (try clear hb2); (try clear hk); (try clear hi); (try clear ho0); have hnb81 := NB198_199.out; have hnc81 := NB199_198.out; have hcz82_0 : w80.cell? ⟨gb198, 0, none⟩ = some (.bool false) := (bkC BK198.out 0).trans rfl; have hcz82_1 : w80.cell? ⟨gb198, 1, none⟩ = some (.slice none 0 0) := (bkC BK198.out 1).trans rfl; have hfz82_0 := bF_ BK198.out 0; have hfz82_1 := bF_ BK198.out 1; obtain ⟨Ao83, co83, eo83⟩ := Kd.R_slice HO209.out; subst eo83; have hcz84_0 : w80.cell? ⟨gb199, 0, none⟩ = some (.bool false) := (bkC BK199.out 0).trans rfl; have hcz84_1 : w80.cell? ⟨gb199, 1, none⟩ = some (.slice none 0 0) := (bkC BK199.out 1).trans rfl; have hfz84_0 := bF_ BK199.out 0; have hfz84_1 := bF_ BK199.out 1; obtain ⟨Ao85, co85, eo85⟩ := Kd.R_slice HO213.out; subst eo85))
 refine bodyPost_ret (results_cc rfl _ _ gb198 gb199 75 75 #[.bool t206, .slice Ao83 t207.length co83] #[.bool t210, .slice Ao85 t211.length co85] (0, 0) (0, 0) _ _ rfl (by refine Ups.b ?_; refine bR_ ?_ NB198_199.out _; refine Ups.b ?_; refine bR_ ?_ NB198_199.out _; refine Ups.b ?_; refine blk_put (cs := #[.bool t206, .slice none 0 0]) ?_ 1 _ rfl; refine Ups.b ?_; refine blk_put (cs := #[.bool false, .slice none 0 0]) ?_ 0 _ rfl; refine Ups.b ?_; exact BK198.out) Try.underlying75 rfl (by kernel_rfl) rfl (by refine Ups.b ?_; refine blk_put (cs := #[.bool t210, .slice none 0 0]) ?_ 1 _ rfl; refine Ups.b ?_; refine blk_put (cs := #[.bool false, .slice none 0 0]) ?_ 0 _ rfl; refine Ups.b ?_; refine bR_ ?_ NB199_198.out _; refine Ups.b ?_; refine bR_ ?_ NB199_198.out _; refine Ups.b ?_; exact BK199.out) Try.underlying75 rfl (by kernel_rfl)) rfl ?_
 exact ⟨_, _, by first | rfl | (simp [errW_none, errW_some] <;> rfl) | (simp [*, errW_none, errW_some] <;> rfl), by (repeat refine Up1.r ?_); exact Kd.rM_ (Kd.rF_ (p := ⟨gb199, 1, none⟩) (Kd.rF_ (p := ⟨gb199, 0, none⟩) (Kd.rF_ (p := ⟨gb198, 1, none⟩) (Kd.rF_ (p := ⟨gb198, 0, none⟩) (Kd.rY_ (Kd.rY_ HO209.out BK198.out (by decide)) BK199.out (by decide)) (fun _ hk => hk.1.2) (.bool t206)) (fun _ hk => hk.1.2) (.slice Ao83 t207.length co83)) (fun _ hk => hk.2) (.bool t210)) (fun _ hk => hk.2) (.slice Ao85 t211.length co85)) (fun _ hk => hk.1.1.2), by (repeat refine Up1.r ?_); exact Kd.rM_ (Kd.rF_ (p := ⟨gb199, 1, none⟩) (Kd.rF_ (p := ⟨gb199, 0, none⟩) (Kd.rF_ (p := ⟨gb198, 1, none⟩) (Kd.rF_ (p := ⟨gb198, 0, none⟩) (Kd.rY_ (Kd.rY_ HO213.out BK198.out (by decide)) BK199.out (by decide)) (fun _ hk => hk.1.2) (.bool t206)) (fun _ hk => hk.1.2) (.slice Ao83 t207.length co83)) (fun _ hk => hk.2) (.bool t210)) (fun _ hk => hk.2) (.slice Ao85 t211.length co85)) (fun _ hk => hk.1.1.2), by repeat first|exact HB.out | refine Up1.w ?_ | refine bS_ ?_ GE196.out | refine bS_ ?_ GE197.out | refine bS_ ?_ GE198.out | refine bS_ ?_ GE199.out⟩
def trishawref01_Times.f (k : Nat) (a0_0 : Bool) (l0_1 : List Int) (a1_0 : Bool) (l1_1 : List Int) : Option (Bool × List Int) := (rMl.f k l0_1 l1_1).bind fun t238 => ((rWh.f k (a0_0 != a1_0) t238).bind fun bt241 => (some (bt241.1, bt241.2)))
def trishawref01_Times.T1 : Bool × List (List Nat × List Nat) := (true, [([], []), ([0], [0]), ([], []), ([2], [2]), ([1, 3], [1, 3]), ([], []), ([5], [5]), ([], []), ([7], [7]), ([6, 8], [6, 8]), ([4, 9, 9], [4, 9]), ([10, 10, 0, 1, 2, 3, 4, 5, 6, 7, 8, 9, 10], [10])])
def trishawref01_Times.B1 : List Nat := [0, 1, 0, 4, 15, 0, 32, 0, 128, 480, 1023, 2047]
theorem trishawref01_Times.tab1 : rtab .any (opsOf Try.f85 1) = trishawref01_Times.T1 := by kernel_rfl
theorem trishawref01_Times.bits1 : waitsOk trishawref01_Times.T1.2 trishawref01_Times.B1 = true := by kernel_rfl
set_option maxHeartbeats 8000000 in
set_option maxRecDepth 100000 in
theorem trishawref01_Times.calls (k : Nat) (a0_0 : Bool) (A0_1 : Option Addr) (c0_1 : Nat) (l0_1 : List Int) (a1_0 : Bool) (A1_1 : Option Addr) (c1_1 : Nat) (l1_1 : List Int) (r1 : Bool) (r2 : List Int) (w : World) (hr0_1 : Kd.C (Kd.int .i64) w A0_1 l0_1.length l0_1) (hc0_1 : l0_1.length ≤ c0_1) (hr1_1 : Kd.C (Kd.int .i64) w A1_1 l1_1.length l1_1) (hc1_1 : l1_1.length ≤ c1_1) (h : trishawref01_Times.f k a0_0 l0_1 a1_0 l1_1 = some (r1, r2)) :
  Calls Try.prog 85 #[.agg #[.bool a0_0, .slice A0_1 l0_1.length c0_1], .agg #[.bool a1_0, .slice A1_1 l1_1.length c1_1]] w fun e w' => ∃ v1_ : Value, e = .returned (.agg #[.bool r1, v1_]) ∧ Kd.R (Kd.int .i64) 3 w' w.heap.size (fun _ => True) v1_ r2 ∧ Below w.heap.size w w' := by
 have hu75 := Try.underlying75
 have HR0_1 := Az0.mk hr0_1
 have HC0_1 := Az0.mk hc0_1
 clear hr0_1 hc0_1
 have HR1_1 := Az0.mk hr1_1
 have HC1_1 := Az0.mk hc1_1
 clear hr1_1 hc1_1
 have HB := Az0.mk (Below.refl w.heap.size w)
 have H : ((rMl.f k l0_1 l1_1).bind fun t238 => ((rWh.f k (a0_0 != a1_0) t238).bind fun bt241 => (some (bt241.1, bt241.2)))) = some (r1, r2) := h
 clear h
 replace H := Option.bind_eq_some_iff.mp H
 obtain ⟨t238, A30, H⟩ := H
 try dsimp only at H
 have A3 := Az0.mk A30
 clear A30
 replace H := Option.bind_eq_some_iff.mp H
 obtain ⟨⟨t241, t242⟩, A40, H⟩ := H
 try dsimp only at H
 have A4 := Az0.mk A40
 clear A40
 simp only [Option.some.injEq, Prod.mk.injEq] at H
 obtain ⟨rfl, rfl⟩ := H
 go_enter Try.func85, Try.ntmps85
 try go_wp2_with (first | ((with_reducible refine gD_ (N := 2) rfl ?_); refine bE_ ?hg (N := 2) ?hd (cs := #[.bool a0_0, .slice A0_1 l0_1.length c0_1]) (t := 75) ?hr ?_; (case hd => rfl); (case hg => rfl); (case hr => first | (go_simp; done) | (go_simp; rfl)); intro gb235 hg w5 hbox hb; have n0_ := Az0.mk (bP_ (by exact Ups.w HB.out) hb); have n1_ := Az0.mk (hbox); have n2_ := Az0.mk ((by rw [hg]; exact (bZ_ (by exact Ups.w HB.out)) : w.heap.size ≤ gb235)); have n3_ := Az0.mk ((by rw [hg]; exact (bZ_ (by exact Ups.w HB.out)) : w.heap.size ≤ gb235)); clear HB; have HB := n0_; have BK235 := n1_; have GW235 := n2_; have GE235 := n3_; clear n0_ n1_ n2_ n3_; clear hb hbox hg) | ((with_reducible refine gD_ (N := 3) rfl ?_); refine bE_ ?hg (N := 3) ?hd (cs := #[.bool a1_0, .slice A1_1 l1_1.length c1_1]) (t := 75) ?hr ?_; (case hd => rfl); (case hg => rfl); (case hr => first | (go_simp; done) | (go_simp; rfl)); intro gb236 hg w6 hbox hb; have n0_ := Az0.mk (bB_ (Ups.b BK235.out) hb); have n1_ := Az0.mk (bP_ (by repeat first|exact HB.out | refine Up1.w ?_ | refine bS_ ?_ GE235.out) hb); have n2_ := Az0.mk (hbox); have n3_ := Az0.mk ((by rw [hg]; exact (bZ_ (by repeat first|exact HB.out | refine Up1.w ?_ | refine bS_ ?_ GE235.out)) : w.heap.size ≤ gb236)); have n4_ := Az0.mk ((by rw [hg]; exact (bZ_ (by repeat first|exact HB.out | refine Up1.w ?_ | refine bS_ ?_ GE235.out)) : w.heap.size ≤ gb236)); have n5_ := Az0.mk ((by rw [hg]; exact Nat.ne_of_lt (bL_ (Ups.b BK235.out)) : gb235 ≠ gb236)); have n6_ := Az0.mk ((by rw [hg]; exact Nat.ne_of_gt (bL_ (Ups.b BK235.out)) : gb236 ≠ gb235)); clear BK235; clear HB; have BK235 := n0_; have HB := n1_; have BK236 := n2_; have GW236 := n3_; have GE236 := n4_; have NB235_236 := n5_; have NB236_235 := n6_; clear n0_ n1_ n2_ n3_ n4_ n5_ n6_; clear hb hbox hg) | ((with_reducible refine gD_ (N := 4) rfl ?_); refine bE_ ?hg (N := 4) ?hd (cs := #[.bool false, .slice none 0 0]) (t := 75) ?hr ?_; (case hd => rfl); (case hg => rfl); (case hr => first | (go_simp; done) | (go_simp; rfl)); intro gb237 hg w7 hbox hb; have n0_ := Az0.mk (bB_ (Ups.b BK235.out) hb); have n1_ := Az0.mk (bB_ (Ups.b BK236.out) hb); have n2_ := Az0.mk (bP_ (by repeat first|exact HB.out | refine Up1.w ?_ | refine bS_ ?_ GE235.out | refine bS_ ?_ GE236.out) hb); have n3_ := Az0.mk (hbox); have n4_ := Az0.mk ((by rw [hg]; exact (bZ_ (by repeat first|exact HB.out | refine Up1.w ?_ | refine bS_ ?_ GE235.out | refine bS_ ?_ GE236.out)) : w.heap.size ≤ gb237)); have n5_ := Az0.mk ((by rw [hg]; exact (bZ_ (by repeat first|exact HB.out | refine Up1.w ?_ | refine bS_ ?_ GE235.out | refine bS_ ?_ GE236.out)) : w.heap.size ≤ gb237)); have n6_ := Az0.mk ((by rw [hg]; exact Nat.ne_of_lt (bL_ (Ups.b BK235.out)) : gb235 ≠ gb237)); have n7_ := Az0.mk ((by rw [hg]; exact Nat.ne_of_gt (bL_ (Ups.b BK235.out)) : gb237 ≠ gb235)); have n8_ := Az0.mk ((by rw [hg]; exact Nat.ne_of_lt (bL_ (Ups.b BK236.out)) : gb236 ≠ gb237)); have n9_ := Az0.mk ((by rw [hg]; exact Nat.ne_of_gt (bL_ (Ups.b BK236.out)) : gb237 ≠ gb236)); clear BK235; clear BK236; clear HB; have BK235 := n0_; have BK236 := n1_; have HB := n2_; have BK237 := n3_; have GW237 := n4_; have GE237 := n5_; have NB235_237 := n6_; have NB237_235 := n7_; have NB236_237 := n8_; have NB237_236 := n9_; clear n0_ n1_ n2_ n3_ n4_ n5_ n6_ n7_ n8_ n9_; clear hb hbox hg))
 have n0_ := Az0.mk (bW_ BK235.out)
 have n1_ := Az0.mk (bW_ BK236.out)
 have n2_ := Az0.mk (bW_ BK237.out)
 have n3_ := Az0.mk (bD1_ HB.out)
 clear BK235
 clear BK236
 clear BK237
 clear HB
 have BK235 := n0_
 have BK236 := n1_
 have BK237 := n2_
 have HB := n3_
 clear n0_ n1_ n2_ n3_
 refine start_ (n := 12) (S := fun w' => w'.cell? ⟨gb235, 0, none⟩ = some (.bool a0_0) ∧ w'.cell? ⟨gb235, 1, none⟩ = some (.slice A0_1 l0_1.length c0_1) ∧ w'.cell? ⟨gb236, 0, none⟩ = some (.bool a1_0) ∧ w'.cell? ⟨gb236, 1, none⟩ = some (.slice A1_1 l1_1.length c1_1)) (ds := []) (tf 0 12) (by kernel_rfl) rfl rfl ⟨(bkC BK235.out 0).trans rfl, (bkC BK235.out 1).trans rfl, (bkC BK236.out 0).trans rfl, (bkC BK236.out 1).trans rfl⟩ (fun hHeld => ?_); refine with_tabW trishawref01_Times.tab1 trishawref01_Times.bits1 (fun HT_ HW_ => ?_)
 generalize w7.drew = w8 at BK235 BK236 BK237 HB hHeld ⊢
 refine pure_ (i := 0) (N := some 5) (v := ?_) (a' := ?_) (tf 1 11) rfl rfl (any_of HT_.out (by kernel_rfl)) (fun _ _ _ h => h) (Or.inl ⟨by rfl, ?_⟩) ?_ ?_
 rotate_left
 ·intro w'
  go_simp
  with_reducible rfl
 rotate_left
 ·simp only[pS_]
  rfl
 refine pure_ (i := 2) (N := some 7) (v := ?_) (a' := ?_) (bn 12 5) rfl rfl (any_of HT_.out (by kernel_rfl)) (fun _ _ _ h => h) (Or.inl ⟨by rfl, ?_⟩) ?_ ?_
 rotate_left
 ·intro w'
  go_simp
  with_reducible rfl
 rotate_left
 ·simp only[pS_]
  rfl
 refine pure_ (i := 5) (N := some 10) (v := ?_) (a' := ?_) (bn 12 37) rfl rfl (any_of HT_.out (by kernel_rfl)) (fun _ _ _ h => h) (Or.inl ⟨by rfl, ?_⟩) ?_ ?_
 rotate_left
 ·intro w'
  go_simp
  with_reducible rfl
 rotate_left
 ·simp only[pS_]
  rfl
 refine pure_ (i := 7) (N := some 12) (v := ?_) (a' := ?_) (bn 12 165) rfl rfl (any_of HT_.out (by kernel_rfl)) (fun _ _ _ h => h) (Or.inl ⟨by rfl, ?_⟩) ?_ ?_
 rotate_left
 ·intro w'
  go_simp
  with_reducible rfl
 rotate_left
 ·simp only[pS_]
  rfl
 refine take_ (i := 1) (N := some 6) (v := ?_) (a' := ?_) (bn 12 167) rfl rfl (take_ofW HT_.out HW_.out (by kernel_rfl)) (fun _ _ _ h => h) (Or.inl ⟨by rfl, ?_⟩) hHeld ?_ ?_
 rotate_left
 ·rintro w' ⟨s0, s1, s2, s3⟩
  go_simp
  with_reducible rfl
 rotate_left
 ·simp only[pS_]
  rfl
 refine take_ (i := 3) (N := some 8) (v := ?_) (a' := ?_) (bn 12 175) rfl rfl (take_ofW HT_.out HW_.out (by kernel_rfl)) (fun _ _ _ h => h) (Or.inl ⟨by rfl, ?_⟩) hHeld ?_ ?_
 rotate_left
 ·rintro w' ⟨s0, s1, s2, s3⟩
  go_simp
  with_reducible rfl
 rotate_left
 ·simp only[pS_]
  rfl
 refine pure_ (i := 4) (N := some 9) (v := ?_) (a' := ?_) (bn 12 191) rfl rfl (any_of HT_.out (by kernel_rfl)) (fun _ _ _ h => h) (Or.inl ⟨by rfl, ?_⟩) ?_ ?_
 rotate_left
 ·intro w'
  go_simp
  with_reducible rfl
 rotate_left
 ·simp only[pS_]
  rfl
 refine take_ (i := 6) (N := some 11) (v := ?_) (a' := ?_) (tf 8 4) rfl rfl (take_ofW HT_.out HW_.out (by kernel_rfl)) (fun _ _ _ h => h) (Or.inl ⟨by rfl, ?_⟩) hHeld ?_ ?_
 rotate_left
 ·rintro w' ⟨s0, s1, s2, s3⟩
  go_simp
  with_reducible rfl
 rotate_left
 ·simp only[pS_]
  rfl
 refine take_ (i := 8) (N := some 13) (v := ?_) (a' := ?_) (tf 9 3) rfl rfl (take_ofW HT_.out HW_.out (by kernel_rfl)) (fun _ _ _ h => h) (Or.inl ⟨by rfl, ?_⟩) hHeld ?_ ?_
 rotate_left
 ·rintro w' ⟨s0, s1, s2, s3⟩
  go_simp
  with_reducible rfl
 rotate_left
 ·simp only[pS_]
  rfl
 refine one_ (i := 9) (N := some 14) (tf 10 2) rfl rfl (one_of HT_.out (by kernel_rfl)) (by decide) (fun K hK => ?_)
 refine goes_ Try.func104 (by kernel_rfl) rfl #[.slice A0_1 l0_1.length c0_1, .slice A1_1 l1_1.length c1_1] (by rfl) rfl rfl (by (try simp only [List.map_toArray, List.map_cons, List.map_nil]); first | done | rfl | (simp only [List.length_drop, List.length_take]; rfl)) ?_
 with_reducible refine (rMl.calls k _ _ l0_1 _ _ l1_1 t238 _ ?side1 ?side2 ?side3 ?side4 A3.out).mono ?_
 (case side1 => repeat (first | exact (Kd.C_below HR0_1.out HB.out) | refine Up1.c ?_))
 (case side2 => exact HC0_1.out)
 (case side3 => repeat (first | exact (Kd.C_below HR1_1.out HB.out) | refine Up1.c ?_))
 (case side4 => exact HC1_1.out)
 rintro e w9 ⟨v239, rfl, ho0, hb⟩
 refine ⟨_, rfl, ?_⟩
 have n0_ := Az0.mk (Kd.R_lower ho0 (bZ_ (by repeat first|exact HB.out | refine Up1.w ?_ | refine bS_ ?_ GE235.out | refine bS_ ?_ GE236.out | refine bS_ ?_ GE237.out)))
 have n1_ := Az0.mk (bB_ (Ups.b BK235.out) hb)
 have n2_ := Az0.mk (bB_ (Ups.b BK236.out) hb)
 have n3_ := Az0.mk (bB_ (Ups.b BK237.out) hb)
 have n4_ := Az0.mk (bP_ (by repeat first|exact HB.out | refine Up1.w ?_ | refine bS_ ?_ GE235.out | refine bS_ ?_ GE236.out | refine bS_ ?_ GE237.out) hb)
 clear BK235
 clear BK236
 clear BK237
 clear HB
 have HO240 := n0_
 have BK235 := n1_
 have BK236 := n2_
 have BK237 := n3_
 have HB := n4_
 clear n0_ n1_ n2_ n3_ n4_
 (try clear hb)
 (try clear hb2)
 (try clear hk)
 (try clear hi)
 (try clear ho0)
 obtain ⟨Ao10, co10, eo10⟩ := Kd.R_slice HO240.out
 (first | subst eo10 | (injection eo10 with f1_ f2_ f3_; have f4_ := f1_.symm; have f5_ := f3_.symm; clear f1_ f2_ f3_; subst f4_; subst f5_))
 refine hK.out _ _ ⟨(bkC BK235.out 0).trans rfl, (bkC BK235.out 1).trans rfl, (bkC BK236.out 0).trans rfl, (bkC BK236.out 1).trans rfl⟩ (fun hHeld => ?_)
 clear hK K
 refine norm_ (a' := ?_) ?_ ?_
 rotate_left
 ·show Act.put _ (some 14) _ = _
  simp only[pS_]
  rfl
 refine one_ (i := 10) (N := some 15) (tf 11 1) rfl rfl (one_of HT_.out (by kernel_rfl)) (by decide) (fun K hK => ?_)
 refine goes_ Try.func101 (by kernel_rfl) rfl #[.bool (a0_0 != a1_0), .slice Ao10 t238.length co10] (by rfl) rfl rfl (by (try simp only [List.map_toArray, List.map_cons, List.map_nil]); first | done | rfl | (simp only [List.length_drop, List.length_take]; rfl)) ?_
 with_reducible refine (rWh.calls k (a0_0 != a1_0) _ _ t238 t241 t242 _ ?side1 ?side2 A4.out).mono ?_
 (case side1 => repeat (first | exact (Kd.R_reads' HO240.out).2.2 | refine Up1.c ?_))
 (case side2 => exact (Kd.R_reads' HO240.out).2.1)
 rintro e w11 ⟨v243, rfl, ho0, hb⟩
 refine ⟨_, rfl, ?_⟩
 have n0_ := Az0.mk (Kd.R_elder' (by (repeat refine Up1.r ?_); exact HO240.out) (Kd.rB_ ho0) hb)
 have n1_ := Az0.mk (Kd.R_lower (Kd.R_new' ho0 (Kd.R_lt (by (repeat refine Up1.r ?_); exact HO240.out))) (bZ_ (by repeat first|exact HB.out | refine Up1.w ?_ | refine bS_ ?_ GE235.out | refine bS_ ?_ GE236.out | refine bS_ ?_ GE237.out)))
 have n2_ := Az0.mk (bB_ (Ups.b BK235.out) hb)
 have n3_ := Az0.mk (bB_ (Ups.b BK236.out) hb)
 have n4_ := Az0.mk (bB_ (Ups.b BK237.out) hb)
 have n5_ := Az0.mk (bP_ (by repeat first|exact HB.out | refine Up1.w ?_ | refine bS_ ?_ GE235.out | refine bS_ ?_ GE236.out | refine bS_ ?_ GE237.out) hb)
 clear HO240
 clear BK235
 clear BK236
 clear BK237
 clear HB
 have HO240 := n0_
 have HO244 := n1_
 have BK235 := n2_
 have BK236 := n3_
 have BK237 := n4_
 have HB := n5_
 clear n0_ n1_ n2_ n3_ n4_ n5_
 (try clear hb)
 (try clear hb2)
 (try clear hk)
 (try clear hi)
 (try clear ho0)
 obtain ⟨Ao13, co13, eo13⟩ := Kd.R_slice HO244.out
 (first | subst eo13 | (injection eo13 with f1_ f2_ f3_; have f4_ := f1_.symm; have f5_ := f3_.symm; clear f1_ f2_ f3_; subst f4_; subst f5_))
 refine hK.out _ _ ⟨(bkC BK235.out 0).trans rfl, (bkC BK235.out 1).trans rfl, (bkC BK236.out 0).trans rfl, (bkC BK236.out 1).trans rfl⟩ (fun hHeld => ?_)
 clear hK K
 refine norm_ (a' := ?_) ?_ ?_
 rotate_left
 ·show Act.put _ (some 15) _ = _
  simp only[pS_]
  rfl
 refine one_ (i := 11) (N := none) (tf 12 0) rfl rfl (one_of HT_.out (by kernel_rfl)) (by decide) (fun K hK => ?_)
 have hs12 : w11.cell? ⟨gb237, 0, none⟩ = some (.bool false) := (bkC BK237.out 0).trans rfl
 have hfs12 := bF_ BK237.out 0
 have hns12_0 := NB235_237.out
 have hns12_1 := NB236_237.out
 have hms12_0 := NB237_235.out
 have hms12_1 := NB237_236.out
 have hs14 : w11.cell? ⟨gb237, 1, none⟩ = some (.slice none 0 0) := (bkC BK237.out 1).trans rfl
 have hfs14 := bF_ BK237.out 1
 have hns14_0 := NB235_237.out
 have hns14_1 := NB236_237.out
 have hms14_0 := NB237_235.out
 have hms14_1 := NB237_236.out
 refine skip_ (w1 := ?_) (by rfl) rfl ?_ ?_
 rotate_left
 ·go_simp
  rfl
 refine hK.out _ _ ⟨((cell_far (p := ⟨gb237, _, none⟩) NB235_237.out _).trans (((cell_far (p := ⟨gb237, _, none⟩) NB235_237.out _).trans (hHeld.1)))), ((cell_far (p := ⟨gb237, _, none⟩) NB235_237.out _).trans (((cell_far (p := ⟨gb237, _, none⟩) NB235_237.out _).trans (hHeld.2.1)))), ((cell_far (p := ⟨gb237, _, none⟩) NB236_237.out _).trans (((cell_far (p := ⟨gb237, _, none⟩) NB236_237.out _).trans (hHeld.2.2.1)))), ((cell_far (p := ⟨gb237, _, none⟩) NB236_237.out _).trans (((cell_far (p := ⟨gb237, _, none⟩) NB236_237.out _).trans (hHeld.2.2.2))))⟩ (fun hHeld => ?_)
 clear hK K
 refine done_ (done_of HT_.out (by kernel_rfl)) ?_
 try go_wp2
 refine bodyPost_ret (results_cell_row rfl _ _ gb237 75 #[.bool t241, .slice Ao13 t242.length co13] (0, 0) _ rfl (by refine Ups.b ?_; refine blk_put (cs := #[.bool t241, .slice none 0 0]) ?_ 1 _ rfl; refine Ups.b ?_; refine blk_put (cs := #[.bool false, .slice none 0 0]) ?_ 0 _ rfl; refine Ups.b ?_; exact BK237.out) Try.underlying75 rfl (by kernel_rfl)) rfl ?_
 exact ⟨_, by first | rfl | (simp [errW_none, errW_some] <;> rfl) | (simp [*, errW_none, errW_some] <;> rfl), by (repeat refine Up1.r ?_); exact Kd.rM_ (Kd.rF_ (p := ⟨gb237, 1, none⟩) (Kd.rF_ (p := ⟨gb237, 0, none⟩) (Kd.rY_ HO244.out BK237.out (by decide)) (fun _ hk => hk.2) (.bool t241)) (fun _ hk => hk.2) (.slice Ao13 t242.length co13)) (fun _ hk => trivial), by repeat first|exact HB.out | refine Up1.w ?_ | refine bS_ ?_ GE235.out | refine bS_ ?_ GE236.out | refine bS_ ?_ GE237.out⟩
def trishawref01_Of.l0 : Nat → Int → List Int → Bool → Option (Bool × List Int)
  | 0, _, _, _ => none
  | k + 1, x0, x3, x4 => if x0 = 0 then ((rWh.f k x4 x3).bind fun bt246 => (some (bt246.1, bt246.2))) else (if (Int.tmod x0 10000) < 0 then (if x3.length < 17592186044416 then (trishawref01_Of.l0 k (wrap64 (Int.tdiv x0 10000)) (x3 ++ [wrap64 (-(Int.tmod x0 10000))]) x4) else (none)) else (if x3.length < 17592186044416 then (trishawref01_Of.l0 k (wrap64 (Int.tdiv x0 10000)) (x3 ++ [Int.tmod x0 10000]) x4) else (none)))
def trishawref01_Of.f (k : Nat) (a0 : Int) : Option (Bool × List Int) := trishawref01_Of.l0 k a0 ([] : List Int) (decide (a0 < 0))
set_option maxHeartbeats 8000000 in
set_option maxRecDepth 100000 in
theorem trishawref01_Of.calls (k : Nat) (a0 : Int) (r1 : Bool) (r2 : List Int) (w : World) (h : trishawref01_Of.f k a0 = some (r1, r2)) :
  Calls Try.prog 86 #[.int .i64 a0] w fun e w' => ∃ v1_ : Value, e = .returned (.agg #[.bool r1, v1_]) ∧ Kd.R (Kd.int .i64) 3 w' w.heap.size (fun _ => True) v1_ r2 ∧ Below w.heap.size w w' := by
 have hu75 := Try.underlying75
 have HB := Az0.mk (Below.refl w.heap.size w)
 have H : (trishawref01_Of.l0 k a0 ([] : List Int) (decide (a0 < 0))) = some (r1, r2) := h
 clear h
 have H' := Az0.mk H
 clear H
 go_enter Try.func86, Try.ntmps86
 go_wp2_with (first | ((with_reducible refine gD_ (N := 2) rfl ?_); refine bE_ ?hg (N := 2) ?hd (cs := #[.bool false, .slice none 0 0]) (t := 75) ?hr ?_; (case hd => rfl); (case hg => rfl); (case hr => first | (go_simp; done) | (go_simp; rfl)); intro gb245 hg w2 hbox hb; have n0_ := Az0.mk (bP_ (by exact Ups.w HB.out) hb); have n1_ := Az0.mk (hbox); have n2_ := Az0.mk ((by rw [hg]; exact (bZ_ (by exact Ups.w HB.out)) : w.heap.size ≤ gb245)); have n3_ := Az0.mk ((by rw [hg]; exact (bZ_ (by exact Ups.w HB.out)) : w.heap.size ≤ gb245)); clear HB; have HB := n0_; have BK245 := n1_; have GW245 := n2_; have GE245 := n3_; clear n0_ n1_ n2_ n3_; clear hb hbox hg))
 go_loopg [0, 3] k (fun kq v0 v3 w' => ∃ (x0_1 : Int) (x3_1 : List Int), v0 = .int .i64 x0_1 ∧ Az0 (trishawref01_Of.l0 kq x0_1 x3_1 (decide (a0 < 0)) = some (r1, r2)) ∧ Az0 (kq ≤ k) ∧ Az0 (Kd.R (Kd.int .i64) 3 w' w.heap.size (fun _ => True) v3 x3_1) ∧ Az0 (w'.heap[gb245]? = some (.cells #[.bool false, (.slice none 0 0)] 75 (0, 0))) ∧ Az0 (Below w.heap.size w w'))
 case atStart => exact ⟨(a0), (([] : List Int)), (by first | rfl | (simp; done) | (simp [*]; done)), H', ⟨Nat.le_refl _⟩, ⟨by first | exact Kd.R_nil _ _ _ _ _ | exact Kd.N_nil _ _ _ _ _ | exact Kd.V_nil _ _ _ _ _ | exact Kd.Q_nil _ _ _ _ _ | exact Kd.S_nil _ _ _ _ _⟩, ⟨by refine Ups.b ?_; exact BK245.out⟩, ⟨by repeat first|exact HB.out | refine Up1.w ?_ | refine bS_ ?_ GE245.out⟩⟩
 case round =>
  clear H'
  try clear p2
  obtain ⟨x0_1, x3_1, rfl, HA, HK1, HO_3, BK245, HB⟩ := hrel
  cases gk with
  | zero => exact absurd HA.out (by simp [trishawref01_Of.l0])
  | succ k1 =>
   have H := HA.out
   clear HA
   simp only [trishawref01_Of.l0] at H
   by_cases c3 : x0_1 = 0
   ·rw [if_pos c3] at H
    have c3b0 : (x0_1 == 0) = true := beq_iff_eq.mpr c3
    have c3b1 : (x0_1 != 0) = false := bne_eq_false_iff_eq.mpr c3
    clear c3
    replace H := Option.bind_eq_some_iff.mp H
    obtain ⟨⟨t246, t247⟩, A40, H⟩ := H
    try dsimp only at H
    have A4 := Az0.mk A40
    clear A40
    simp only [Option.some.injEq, Prod.mk.injEq] at H
    obtain ⟨rfl, rfl⟩ := H
    obtain ⟨Ao5, co5, eo5⟩ := Kd.R_slice HO_3.out
    subst eo5
    go_wp2_with (first | ((with_reducible refine gate_callee (f := 101) rfl ?_); refine goesL_ (some 24) rfl rfl Try.func101 (by kernel_rfl) rfl #[.bool (decide (a0 < 0)), .slice Ao5 x3_1.length co5] rfl (by (try simp only [List.map_toArray, List.map_cons, List.map_nil]); first | done | rfl | (simp only [List.length_drop, List.length_take]; rfl)) ?_; (with_reducible refine (rWh.calls k1 (decide (a0 < 0)) _ _ x3_1 t246 t247 _ ?side1 ?side2 A4.out).mono ?_); (case side1 => repeat (first | exact (Kd.R_reads' HO_3.out).2.2 | refine Up1.c ?_)); (case side2 => exact (Kd.R_reads' HO_3.out).2.1); rintro e w6 ⟨v248, rfl, ho0, hb⟩; refine ⟨_, rfl, ?_⟩; have n0_ := Az0.mk (Kd.R_elder' (by (repeat refine Up1.r ?_); exact HO_3.out) (Kd.rB_ ho0) hb); have n1_ := Az0.mk (Kd.R_lower (Kd.R_new' ho0 (Kd.R_lt (by (repeat refine Up1.r ?_); exact HO_3.out))) (bZ_ (by repeat first|exact HB.out | refine Up1.w ?_ | refine bS_ ?_ GE245.out))); have n2_ := Az0.mk (bB_ (Ups.b BK245.out) hb); have n3_ := Az0.mk (bP_ (by repeat first|exact HB.out | refine Up1.w ?_ | refine bS_ ?_ GE245.out) hb); clear HO_3; clear BK245; clear HB; have HO_3 := n0_; have HO249 := n1_; have BK245 := n2_; have HB := n3_; clear n0_ n1_ n2_ n3_; (try clear hb); (try clear hb2); (try clear hk); (try clear hi); (try clear ho0); have hcz7_0 : w6.cell? ⟨gb245, 0, none⟩ = some (.bool false) := (bkC BK245.out 0).trans rfl; have hcz7_1 : w6.cell? ⟨gb245, 1, none⟩ = some (.slice none 0 0) := (bkC BK245.out 1).trans rfl; have hfz7_0 := bF_ BK245.out 0; have hfz7_1 := bF_ BK245.out 1; obtain ⟨Ao8, co8, eo8⟩ := Kd.R_slice HO249.out; subst eo8))
    refine bodyPost_ret (results_cell_row rfl _ _ gb245 75 #[.bool t246, .slice Ao8 t247.length co8] (0, 0) _ rfl (by refine Ups.b ?_; refine blk_put (cs := #[.bool t246, .slice none 0 0]) ?_ 1 _ rfl; refine Ups.b ?_; refine blk_put (cs := #[.bool false, .slice none 0 0]) ?_ 0 _ rfl; refine Ups.b ?_; exact BK245.out) Try.underlying75 rfl (by kernel_rfl)) rfl ?_
    exact ⟨_, by first | rfl | (simp [errW_none, errW_some] <;> rfl) | (simp [*, errW_none, errW_some] <;> rfl), by (repeat refine Up1.r ?_); exact Kd.rM_ (Kd.rF_ (p := ⟨gb245, 1, none⟩) (Kd.rF_ (p := ⟨gb245, 0, none⟩) (Kd.rY_ HO249.out BK245.out (by decide)) (fun _ hk => hk.2) (.bool t246)) (fun _ hk => hk.2) (.slice Ao8 t247.length co8)) (fun _ hk => trivial), by repeat first|exact HB.out | refine Up1.w ?_ | refine bS_ ?_ GE245.out⟩
   rw [if_neg c3] at H
   have c3b0 : (x0_1 == 0) = false := beq_eq_false_iff_ne.mpr c3
   have c3b1 : (x0_1 != 0) = true := bne_iff_ne.mpr c3
   by_cases c9 : (Int.tmod x0_1 10000) < 0
   ·rw [if_pos c9] at H
    have c9b0 : decide ((Int.tmod x0_1 10000) < 0) = true := decide_eq_true c9
    clear c9
    by_cases c10 : x3_1.length < 17592186044416
    ·rw [if_pos c10] at H
     have LMc10 := Az0.mk c10
     clear c10
     obtain ⟨y250, hy250⟩ : ∃ y_ : List Int, y_ = (x3_1 ++ [wrap64 (-(Int.tmod x0_1 10000))]) := ⟨_, rfl⟩
     replace H : (trishawref01_Of.l0 k1 (wrap64 (Int.tdiv x0_1 10000)) y250 (decide (a0 < 0))) = some (r1, r2) := by first | (rw [hy250]; with_reducible exact H) | (have H2_ := (Option.bind_some _ _).symm.trans H; rw [hy250]; with_reducible exact H2_) | (have H2_ := (Option.bind_some _ _).symm.trans H; with_reducible exact H2_) | with_reducible exact H | (rw [hy250]; exact H) | exact H
     have Ny250 := Az0.mk hy250
     clear hy250
     have H' := Az0.mk H
     clear H
     go_wp2_with (first | ((with_reducible refine gate_builtin (b := .append) (xs := #[.tmp 16, .tmp 18]) rfl ?_); at_builtin; refine Kd.R_append (Kd.int .i64) (w0 := w) w.heap.size rfl (.tmp 16) (.tmp 18) 24 3 (.int .i64 0) 8 rfl Try.underlying24 info3 rfl (by decide) (by omega) u3 x3_1 (wrap64 (-(Int.tmod x0_1 10000))) [.int .i64 (wrap64 (-(Int.tmod x0_1 10000)))] (fun _ => True) (fun _ => False) rfl rfl ?aP (fun _ hk => hk.elim) ?aF ?aO ?aB ?aS ?aL ?_; (case aP => exact rfl); (case aB => exact (by repeat first|exact HB.out | refine Up1.w ?_ | refine bS_ ?_ GE245.out)); (case aF => exact (fun _ _ => trivial)); (case aO => exact (by (repeat refine Up1.r ?_); exact HO_3.out)); (case aS => exact (bZ_ (by repeat first|exact HB.out | refine Up1.w ?_ | refine bS_ ?_ GE245.out))); (case aL => have := LMc10.out; omega); intro v251 w11 ho hb hg hat; rw [← Ny250.out] at ho; have n0_ := Az0.mk (blk_grown (g := gb245) (o := .cells #[.bool false, .slice none 0 0] 75 (0, 0)) (by refine Ups.b ?_; exact BK245.out) hg (Kd.R_ne HO_3.out BK245.out (by decide))); have n1_ := Az0.mk (hb); have n2_ := Az0.mk (ho); clear BK245; clear HB; clear HO_3; have BK245 := n0_; have HB := n1_; have HO252 := n2_; clear n0_ n1_ n2_; clear ho hb hg hat))
     go_roundg k1
     case measure => have := HK1.out; omega
     case rel => exact ⟨(wrap64 (Int.tdiv x0_1 10000)), (y250), (by first | rfl | (simp; done) | (simp [*]; done)), H', ⟨by have := HK1.out; omega⟩, ⟨by (repeat refine Up1.r ?_); exact HO252.out⟩, ⟨by refine Ups.b ?_; exact BK245.out⟩, ⟨by repeat first|exact HB.out | refine Up1.w ?_ | refine bS_ ?_ GE245.out⟩⟩
    rw [if_neg c10] at H
    exact absurd H (by simp)
   rw [if_neg c9] at H
   have c9b0 : decide ((Int.tmod x0_1 10000) < 0) = false := decide_eq_false c9
   clear c9
   by_cases c12 : x3_1.length < 17592186044416
   ·rw [if_pos c12] at H
    have LMc12 := Az0.mk c12
    clear c12
    obtain ⟨y253, hy253⟩ : ∃ y_ : List Int, y_ = (x3_1 ++ [Int.tmod x0_1 10000]) := ⟨_, rfl⟩
    replace H : (trishawref01_Of.l0 k1 (wrap64 (Int.tdiv x0_1 10000)) y253 (decide (a0 < 0))) = some (r1, r2) := by first | (rw [hy253]; with_reducible exact H) | (have H2_ := (Option.bind_some _ _).symm.trans H; rw [hy253]; with_reducible exact H2_) | (have H2_ := (Option.bind_some _ _).symm.trans H; with_reducible exact H2_) | with_reducible exact H | (rw [hy253]; exact H) | exact H
    have Ny253 := Az0.mk hy253
    clear hy253
    have H' := Az0.mk H
    clear H
    go_wp2_with (first | ((with_reducible refine gate_builtin (b := .append) (xs := #[.tmp 16, .tmp 18]) rfl ?_); at_builtin; refine Kd.R_append (Kd.int .i64) (w0 := w) w.heap.size rfl (.tmp 16) (.tmp 18) 24 3 (.int .i64 0) 8 rfl Try.underlying24 info3 rfl (by decide) (by omega) u3 x3_1 (Int.tmod x0_1 10000) [.int .i64 (Int.tmod x0_1 10000)] (fun _ => True) (fun _ => False) rfl rfl ?aP (fun _ hk => hk.elim) ?aF ?aO ?aB ?aS ?aL ?_; (case aP => exact rfl); (case aB => exact (by repeat first|exact HB.out | refine Up1.w ?_ | refine bS_ ?_ GE245.out)); (case aF => exact (fun _ _ => trivial)); (case aO => exact (by (repeat refine Up1.r ?_); exact HO_3.out)); (case aS => exact (bZ_ (by repeat first|exact HB.out | refine Up1.w ?_ | refine bS_ ?_ GE245.out))); (case aL => have := LMc12.out; omega); intro v254 w13 ho hb hg hat; rw [← Ny253.out] at ho; have n0_ := Az0.mk (blk_grown (g := gb245) (o := .cells #[.bool false, .slice none 0 0] 75 (0, 0)) (by refine Ups.b ?_; exact BK245.out) hg (Kd.R_ne HO_3.out BK245.out (by decide))); have n1_ := Az0.mk (hb); have n2_ := Az0.mk (ho); clear BK245; clear HB; clear HO_3; have BK245 := n0_; have HB := n1_; have HO255 := n2_; clear n0_ n1_ n2_; clear ho hb hg hat))
    go_roundg k1
    case measure => have := HK1.out; omega
    case rel => exact ⟨(wrap64 (Int.tdiv x0_1 10000)), (y253), (by first | rfl | (simp; done) | (simp [*]; done)), H', ⟨by have := HK1.out; omega⟩, ⟨by (repeat refine Up1.r ?_); exact HO255.out⟩, ⟨by refine Ups.b ?_; exact BK245.out⟩, ⟨by repeat first|exact HB.out | refine Up1.w ?_ | refine bS_ ?_ GE245.out⟩⟩
   rw [if_neg c12] at H
   exact absurd H (by simp)
end Go.Proofs.Ytjgbdicbdlollaa.B
namespace Go.Proofs.Ytjgbdicbdlollaa.B
open Go.RowKit Go.Proofs.YtjgbdicbdlollaaW.PrintWords Go.Proofs.YtjgbdicbdlollaaW.PrintLast Go.Proofs.YtjgbdicbdlollaaW.PrintMore
attribute [local go_sem] max2_int min2_int max_two min_two max_three min_three max_four min_four   -- for this text's walks alone
set_option linter.unusedVariables false
set_option linter.unusedSimpArgs false
def trishawref01_Compare.f (k : Nat) (a0_0 : Bool) (l0_1 : List Int) (a1_0 : Bool) (l1_1 : List Int) : Option (Int) := if (a0_0 != a1_0) = true then (if a0_0 = true then (some (-1)) else (some 1)) else ((trishawref01_cmpD.f k l0_1 l1_1).bind fun t258 => (if a0_0 = true then (some (wrap64 (-t258))) else (some t258)))
set_option maxHeartbeats 8000000 in
set_option maxRecDepth 100000 in
theorem trishawref01_Compare.calls (k : Nat) (a0_0 : Bool) (A0_1 : Option Addr) (c0_1 : Nat) (l0_1 : List Int) (a1_0 : Bool) (A1_1 : Option Addr) (c1_1 : Nat) (l1_1 : List Int) (r : Int) (w : World) (hr0_1 : Kd.C (Kd.int .i64) w A0_1 l0_1.length l0_1) (hc0_1 : l0_1.length ≤ c0_1) (hr1_1 : Kd.C (Kd.int .i64) w A1_1 l1_1.length l1_1) (hc1_1 : l1_1.length ≤ c1_1) (h : trishawref01_Compare.f k a0_0 l0_1 a1_0 l1_1 = some r) :
  Calls Try.prog 87 #[.agg #[.bool a0_0, .slice A0_1 l0_1.length c0_1], .agg #[.bool a1_0, .slice A1_1 l1_1.length c1_1]] w fun e w' => e = .returned (.int .i64 r) ∧ Below w.heap.size w w' := by
 have hu75 := Try.underlying75
 have HR0_1 := Az0.mk hr0_1
 have HC0_1 := Az0.mk hc0_1
 clear hr0_1 hc0_1
 have HR1_1 := Az0.mk hr1_1
 have HC1_1 := Az0.mk hc1_1
 clear hr1_1 hc1_1
 have HB := Az0.mk (Below.refl w.heap.size w)
 have H : (if (a0_0 != a1_0) = true then (if a0_0 = true then (some (-1)) else (some 1)) else ((trishawref01_cmpD.f k l0_1 l1_1).bind fun t258 => (if a0_0 = true then (some (wrap64 (-t258))) else (some t258)))) = some r := h
 clear h
 by_cases c3 : (a0_0 != a1_0) = true
 ·rw [if_pos c3] at H
  have c3b0 : (a0_0 != a1_0) = true := c3
  (try (have c3b1 : decide (a0_0 = a1_0) = false := by simpa using c3))
  (try (have c3b2 : (a0_0 == a1_0) = false := by simpa using c3))
  (try (have c3b3 : ¬ (a0_0 = a1_0) := by simpa using c3))
  clear c3
  by_cases c4 : a0_0 = true
  ·subst c4
   have H1 : (some (-1)) = some r := by rw [if_pos rfl] at H; exact H
   clear H
   have H := H1
   clear H1
   obtain rfl := Option.some.inj H
   go_enter Try.func87, Try.ntmps87
   go_wp2_with (first | ((with_reducible refine gD_ (N := 2) rfl ?_); refine bE_ ?hg (N := 2) ?hd (cs := #[.bool true, .slice A0_1 l0_1.length c0_1]) (t := 75) ?hr ?_; (case hd => rfl); (case hg => rfl); (case hr => first | (go_simp; done) | (go_simp; rfl)); intro gb256 hg w5 hbox hb; have n0_ := Az0.mk (bP_ (by exact Ups.w HB.out) hb); have n1_ := Az0.mk (hbox); have n2_ := Az0.mk ((by rw [hg]; exact (bZ_ (by exact Ups.w HB.out)) : w.heap.size ≤ gb256)); have n3_ := Az0.mk ((by rw [hg]; exact (bZ_ (by exact Ups.w HB.out)) : w.heap.size ≤ gb256)); clear HB; have HB := n0_; have BK256 := n1_; have GW256 := n2_; have GE256 := n3_; clear n0_ n1_ n2_ n3_; clear hb hbox hg) | ((with_reducible refine gD_ (N := 3) rfl ?_); refine bE_ ?hg (N := 3) ?hd (cs := #[.bool a1_0, .slice A1_1 l1_1.length c1_1]) (t := 75) ?hr ?_; (case hd => rfl); (case hg => rfl); (case hr => first | (go_simp; done) | (go_simp; rfl)); intro gb257 hg w6 hbox hb; have n0_ := Az0.mk (bB_ (Ups.b BK256.out) hb); have n1_ := Az0.mk (bP_ (by repeat first|exact HB.out | refine Up1.w ?_ | refine bS_ ?_ GE256.out) hb); have n2_ := Az0.mk (hbox); have n3_ := Az0.mk ((by rw [hg]; exact (bZ_ (by repeat first|exact HB.out | refine Up1.w ?_ | refine bS_ ?_ GE256.out)) : w.heap.size ≤ gb257)); have n4_ := Az0.mk ((by rw [hg]; exact (bZ_ (by repeat first|exact HB.out | refine Up1.w ?_ | refine bS_ ?_ GE256.out)) : w.heap.size ≤ gb257)); have n5_ := Az0.mk ((by rw [hg]; exact Nat.ne_of_lt (bL_ (Ups.b BK256.out)) : gb256 ≠ gb257)); have n6_ := Az0.mk ((by rw [hg]; exact Nat.ne_of_gt (bL_ (Ups.b BK256.out)) : gb257 ≠ gb256)); clear BK256; clear HB; have BK256 := n0_; have HB := n1_; have BK257 := n2_; have GW257 := n3_; have GE257 := n4_; have NB256_257 := n5_; have NB257_256 := n6_; clear n0_ n1_ n2_ n3_ n4_ n5_ n6_; clear hb hbox hg; have hnb7 := NB256_257.out; have hnc7 := NB257_256.out; have hcz8_0 : w6.cell? ⟨gb256, 0, none⟩ = some (.bool true) := (bkC BK256.out 0).trans rfl; have hcz8_1 : w6.cell? ⟨gb256, 1, none⟩ = some (.slice A0_1 l0_1.length c0_1) := (bkC BK256.out 1).trans rfl; have hfz8_0 := bF_ BK256.out 0; have hfz8_1 := bF_ BK256.out 1; have hcz9_0 : w6.cell? ⟨gb257, 0, none⟩ = some (.bool a1_0) := (bkC BK257.out 0).trans rfl; have hcz9_1 : w6.cell? ⟨gb257, 1, none⟩ = some (.slice A1_1 l1_1.length c1_1) := (bkC BK257.out 1).trans rfl; have hfz9_0 := bF_ BK257.out 0; have hfz9_1 := bF_ BK257.out 1))
   go_ret
   exact ⟨by first | rfl | (simp [errW_none, errW_some] <;> rfl) | (simp [*, errW_none, errW_some] <;> rfl), by repeat first|exact HB.out | refine Up1.w ?_ | refine bS_ ?_ GE256.out | refine bS_ ?_ GE257.out⟩
  replace c4 := Bool.eq_false_iff.mpr c4
  subst c4
  have H1 : (some 1) = some r := by rw [if_neg (show ¬ (false = true) by decide)] at H; exact H
  clear H
  have H := H1
  clear H1
  obtain rfl := Option.some.inj H
  go_enter Try.func87, Try.ntmps87
  go_wp2_with (first | ((with_reducible refine gD_ (N := 2) rfl ?_); refine bE_ ?hg (N := 2) ?hd (cs := #[.bool false, .slice A0_1 l0_1.length c0_1]) (t := 75) ?hr ?_; (case hd => rfl); (case hg => rfl); (case hr => first | (go_simp; done) | (go_simp; rfl)); intro gb256 hg w10 hbox hb; have n0_ := Az0.mk (bP_ (by exact Ups.w HB.out) hb); have n1_ := Az0.mk (hbox); have n2_ := Az0.mk ((by rw [hg]; exact (bZ_ (by exact Ups.w HB.out)) : w.heap.size ≤ gb256)); have n3_ := Az0.mk ((by rw [hg]; exact (bZ_ (by exact Ups.w HB.out)) : w.heap.size ≤ gb256)); clear HB; have HB := n0_; have BK256 := n1_; have GW256 := n2_; have GE256 := n3_; clear n0_ n1_ n2_ n3_; clear hb hbox hg) | ((with_reducible refine gD_ (N := 3) rfl ?_); refine bE_ ?hg (N := 3) ?hd (cs := #[.bool a1_0, .slice A1_1 l1_1.length c1_1]) (t := 75) ?hr ?_; (case hd => rfl); (case hg => rfl); (case hr => first | (go_simp; done) | (go_simp; rfl)); intro gb257 hg w11 hbox hb; have n0_ := Az0.mk (bB_ (Ups.b BK256.out) hb); have n1_ := Az0.mk (bP_ (by repeat first|exact HB.out | refine Up1.w ?_ | refine bS_ ?_ GE256.out) hb); have n2_ := Az0.mk (hbox); have n3_ := Az0.mk ((by rw [hg]; exact (bZ_ (by repeat first|exact HB.out | refine Up1.w ?_ | refine bS_ ?_ GE256.out)) : w.heap.size ≤ gb257)); have n4_ := Az0.mk ((by rw [hg]; exact (bZ_ (by repeat first|exact HB.out | refine Up1.w ?_ | refine bS_ ?_ GE256.out)) : w.heap.size ≤ gb257)); have n5_ := Az0.mk ((by rw [hg]; exact Nat.ne_of_lt (bL_ (Ups.b BK256.out)) : gb256 ≠ gb257)); have n6_ := Az0.mk ((by rw [hg]; exact Nat.ne_of_gt (bL_ (Ups.b BK256.out)) : gb257 ≠ gb256)); clear BK256; clear HB; have BK256 := n0_; have HB := n1_; have BK257 := n2_; have GW257 := n3_; have GE257 := n4_; have NB256_257 := n5_; have NB257_256 := n6_; clear n0_ n1_ n2_ n3_ n4_ n5_ n6_; clear hb hbox hg; have hnb12 := NB256_257.out; have hnc12 := NB257_256.out; have hcz13_0 : w11.cell? ⟨gb256, 0, none⟩ = some (.bool false) := (bkC BK256.out 0).trans rfl; have hcz13_1 : w11.cell? ⟨gb256, 1, none⟩ = some (.slice A0_1 l0_1.length c0_1) := (bkC BK256.out 1).trans rfl; have hfz13_0 := bF_ BK256.out 0; have hfz13_1 := bF_ BK256.out 1; have hcz14_0 : w11.cell? ⟨gb257, 0, none⟩ = some (.bool a1_0) := (bkC BK257.out 0).trans rfl; have hcz14_1 : w11.cell? ⟨gb257, 1, none⟩ = some (.slice A1_1 l1_1.length c1_1) := (bkC BK257.out 1).trans rfl; have hfz14_0 := bF_ BK257.out 0; have hfz14_1 := bF_ BK257.out 1))
  go_ret
  exact ⟨by first | rfl | (simp [errW_none, errW_some] <;> rfl) | (simp [*, errW_none, errW_some] <;> rfl), by repeat first|exact HB.out | refine Up1.w ?_ | refine bS_ ?_ GE256.out | refine bS_ ?_ GE257.out⟩
 rw [if_neg c3] at H
 have c3b0 : (a0_0 != a1_0) = false := by simpa using c3
 (try (have c3b1 : decide (a0_0 = a1_0) = true := by simpa using c3))
 (try (have c3b2 : (a0_0 == a1_0) = true := by simpa using c3))
 clear c3
 replace H := Option.bind_eq_some_iff.mp H
 obtain ⟨t258, A150, H⟩ := H
 try dsimp only at H
 have A15 := Az0.mk A150
 clear A150
 by_cases c16 : a0_0 = true
 ·subst c16
  have H1 : (some (wrap64 (-t258))) = some r := by rw [if_pos rfl] at H; exact H
  clear H
  have H := H1
  clear H1
  obtain rfl := Option.some.inj H
  go_enter Try.func87, Try.ntmps87
  go_wp2_with (first | ((with_reducible refine gD_ (N := 2) rfl ?_); refine bE_ ?hg (N := 2) ?hd (cs := #[.bool true, .slice A0_1 l0_1.length c0_1]) (t := 75) ?hr ?_; (case hd => rfl); (case hg => rfl); (case hr => first | (go_simp; done) | (go_simp; rfl)); intro gb256 hg w17 hbox hb; have n0_ := Az0.mk (bP_ (by exact Ups.w HB.out) hb); have n1_ := Az0.mk (hbox); have n2_ := Az0.mk ((by rw [hg]; exact (bZ_ (by exact Ups.w HB.out)) : w.heap.size ≤ gb256)); have n3_ := Az0.mk ((by rw [hg]; exact (bZ_ (by exact Ups.w HB.out)) : w.heap.size ≤ gb256)); clear HB; have HB := n0_; have BK256 := n1_; have GW256 := n2_; have GE256 := n3_; clear n0_ n1_ n2_ n3_; clear hb hbox hg) | ((with_reducible refine gD_ (N := 3) rfl ?_); refine bE_ ?hg (N := 3) ?hd (cs := #[.bool a1_0, .slice A1_1 l1_1.length c1_1]) (t := 75) ?hr ?_; (case hd => rfl); (case hg => rfl); (case hr => first | (go_simp; done) | (go_simp; rfl)); intro gb257 hg w18 hbox hb; have n0_ := Az0.mk (bB_ (Ups.b BK256.out) hb); have n1_ := Az0.mk (bP_ (by repeat first|exact HB.out | refine Up1.w ?_ | refine bS_ ?_ GE256.out) hb); have n2_ := Az0.mk (hbox); have n3_ := Az0.mk ((by rw [hg]; exact (bZ_ (by repeat first|exact HB.out | refine Up1.w ?_ | refine bS_ ?_ GE256.out)) : w.heap.size ≤ gb257)); have n4_ := Az0.mk ((by rw [hg]; exact (bZ_ (by repeat first|exact HB.out | refine Up1.w ?_ | refine bS_ ?_ GE256.out)) : w.heap.size ≤ gb257)); have n5_ := Az0.mk ((by rw [hg]; exact Nat.ne_of_lt (bL_ (Ups.b BK256.out)) : gb256 ≠ gb257)); have n6_ := Az0.mk ((by rw [hg]; exact Nat.ne_of_gt (bL_ (Ups.b BK256.out)) : gb257 ≠ gb256)); clear BK256; clear HB; have BK256 := n0_; have HB := n1_; have BK257 := n2_; have GW257 := n3_; have GE257 := n4_; have NB256_257 := n5_; have NB257_256 := n6_; clear n0_ n1_ n2_ n3_ n4_ n5_ n6_; clear hb hbox hg; have hnb19 := NB256_257.out; have hnc19 := NB257_256.out; have hcz20_0 : w18.cell? ⟨gb256, 0, none⟩ = some (.bool true) := (bkC BK256.out 0).trans rfl; have hcz20_1 : w18.cell? ⟨gb256, 1, none⟩ = some (.slice A0_1 l0_1.length c0_1) := (bkC BK256.out 1).trans rfl; have hfz20_0 := bF_ BK256.out 0; have hfz20_1 := bF_ BK256.out 1; have hcz21_0 : w18.cell? ⟨gb257, 0, none⟩ = some (.bool a1_0) := (bkC BK257.out 0).trans rfl; have hcz21_1 : w18.cell? ⟨gb257, 1, none⟩ = some (.slice A1_1 l1_1.length c1_1) := (bkC BK257.out 1).trans rfl; have hfz21_0 := bF_ BK257.out 0; have hfz21_1 := bF_ BK257.out 1) | ((with_reducible refine gate_callee (f := 105) rfl ?_); refine goesL_ (some 17) rfl rfl Try.func105 (by kernel_rfl) rfl #[.slice A0_1 l0_1.length c0_1, .slice A1_1 l1_1.length c1_1] rfl (by (try simp only [List.map_toArray, List.map_cons, List.map_nil]); first | done | rfl | (simp only [List.length_drop, List.length_take]; rfl)) ?_; (with_reducible refine (trishawref01_cmpD.calls k _ _ l0_1 _ _ l1_1 t258 _ ?side1 ?side2 ?side3 ?side4 A15.out).mono ?_); (case side1 => repeat (first | exact (Kd.C_below HR0_1.out HB.out) | refine Up1.c ?_)); (case side2 => exact HC0_1.out); (case side3 => repeat (first | exact (Kd.C_below HR1_1.out HB.out) | refine Up1.c ?_)); (case side4 => exact HC1_1.out); rintro e w' ⟨rfl, ⟨nd, rfl⟩⟩; refine ⟨_, rfl, ?_⟩))
  go_ret
  exact ⟨by first | rfl | (simp [errW_none, errW_some] <;> rfl) | (simp [*, errW_none, errW_some] <;> rfl), by repeat first|exact HB.out | refine Up1.w ?_ | refine bS_ ?_ GE256.out | refine bS_ ?_ GE257.out⟩
 replace c16 := Bool.eq_false_iff.mpr c16
 subst c16
 have H1 : (some t258) = some r := by rw [if_neg (show ¬ (false = true) by decide)] at H; exact H
 clear H
 have H := H1
 clear H1
 obtain rfl := Option.some.inj H
 go_enter Try.func87, Try.ntmps87
 go_wp2_with (first | ((with_reducible refine gD_ (N := 2) rfl ?_); refine bE_ ?hg (N := 2) ?hd (cs := #[.bool false, .slice A0_1 l0_1.length c0_1]) (t := 75) ?hr ?_; (case hd => rfl); (case hg => rfl); (case hr => first | (go_simp; done) | (go_simp; rfl)); intro gb256 hg w22 hbox hb; have n0_ := Az0.mk (bP_ (by exact Ups.w HB.out) hb); have n1_ := Az0.mk (hbox); have n2_ := Az0.mk ((by rw [hg]; exact (bZ_ (by exact Ups.w HB.out)) : w.heap.size ≤ gb256)); have n3_ := Az0.mk ((by rw [hg]; exact (bZ_ (by exact Ups.w HB.out)) : w.heap.size ≤ gb256)); clear HB; have HB := n0_; have BK256 := n1_; have GW256 := n2_; have GE256 := n3_; clear n0_ n1_ n2_ n3_; clear hb hbox hg) | ((with_reducible refine gD_ (N := 3) rfl ?_); refine bE_ ?hg (N := 3) ?hd (cs := #[.bool a1_0, .slice A1_1 l1_1.length c1_1]) (t := 75) ?hr ?_; (case hd => rfl); (case hg => rfl); (case hr => first | (go_simp; done) | (go_simp; rfl)); intro gb257 hg w23 hbox hb; have n0_ := Az0.mk (bB_ (Ups.b BK256.out) hb); have n1_ := Az0.mk (bP_ (by repeat first|exact HB.out | refine Up1.w ?_ | refine bS_ ?_ GE256.out) hb); have n2_ := Az0.mk (hbox); have n3_ := Az0.mk ((by rw [hg]; exact (bZ_ (by repeat first|exact HB.out | refine Up1.w ?_ | refine bS_ ?_ GE256.out)) : w.heap.size ≤ gb257)); have n4_ := Az0.mk ((by rw [hg]; exact (bZ_ (by repeat first|exact HB.out | refine Up1.w ?_ | refine bS_ ?_ GE256.out)) : w.heap.size ≤ gb257)); have n5_ := Az0.mk ((by rw [hg]; exact Nat.ne_of_lt (bL_ (Ups.b BK256.out)) : gb256 ≠ gb257)); have n6_ := Az0.mk ((by rw [hg]; exact Nat.ne_of_gt (bL_ (Ups.b BK256.out)) : gb257 ≠ gb256)); clear BK256; clear HB; have BK256 := n0_; have HB := n1_; have BK257 := n2_; have GW257 := n3_; have GE257 := n4_; have NB256_257 := n5_; have NB257_256 := n6_; clear n0_ n1_ n2_ n3_ n4_ n5_ n6_; clear hb hbox hg; have hnb24 := NB256_257.out; have hnc24 := NB257_256.out; have hcz25_0 : w23.cell? ⟨gb256, 0, none⟩ = some (.bool false) := (bkC BK256.out 0).trans rfl; have hcz25_1 : w23.cell? ⟨gb256, 1, none⟩ = some (.slice A0_1 l0_1.length c0_1) := (bkC BK256.out 1).trans rfl; have hfz25_0 := bF_ BK256.out 0; have hfz25_1 := bF_ BK256.out 1; have hcz26_0 : w23.cell? ⟨gb257, 0, none⟩ = some (.bool a1_0) := (bkC BK257.out 0).trans rfl; have hcz26_1 : w23.cell? ⟨gb257, 1, none⟩ = some (.slice A1_1 l1_1.length c1_1) := (bkC BK257.out 1).trans rfl; have hfz26_0 := bF_ BK257.out 0; have hfz26_1 := bF_ BK257.out 1) | ((with_reducible refine gate_callee (f := 105) rfl ?_); refine goesL_ (some 17) rfl rfl Try.func105 (by kernel_rfl) rfl #[.slice A0_1 l0_1.length c0_1, .slice A1_1 l1_1.length c1_1] rfl (by (try simp only [List.map_toArray, List.map_cons, List.map_nil]); first | done | rfl | (simp only [List.length_drop, List.length_take]; rfl)) ?_; (with_reducible refine (trishawref01_cmpD.calls k _ _ l0_1 _ _ l1_1 t258 _ ?side1 ?side2 ?side3 ?side4 A15.out).mono ?_); (case side1 => repeat (first | exact (Kd.C_below HR0_1.out HB.out) | refine Up1.c ?_)); (case side2 => exact HC0_1.out); (case side3 => repeat (first | exact (Kd.C_below HR1_1.out HB.out) | refine Up1.c ?_)); (case side4 => exact HC1_1.out); rintro e w' ⟨rfl, ⟨nd, rfl⟩⟩; refine ⟨_, rfl, ?_⟩))
 go_ret
 exact ⟨by first | rfl | (simp [errW_none, errW_some] <;> rfl) | (simp [*, errW_none, errW_some] <;> rfl), by repeat first|exact HB.out | refine Up1.w ?_ | refine bS_ ?_ GE256.out | refine bS_ ?_ GE257.out⟩
def trishawref01_Cmp.f (k : Nat) (a0_0 : Bool) (l0_1 : List Int) (a0_2 : Bool) (l0_3 : List Int) (a1_0 : Bool) (l1_1 : List Int) (a1_2 : Bool) (l1_3 : List Int) : Option (Int) := (trishawref01_Times.f k a0_0 l0_1 a1_2 l1_3).bind fun bt261 => ((trishawref01_Times.f k a1_0 l1_1 a0_2 l0_3).bind fun bt265 => ((trishawref01_Compare.f k bt261.1 bt261.2 bt265.1 bt265.2).bind fun t269 => (some t269)))
def trishawref01_Cmp.T1 : Bool × List (List Nat × List Nat) := (true, [([], []), ([0], [0]), ([], []), ([2], [2]), ([1, 3], [1, 3]), ([], []), ([5], [5]), ([], []), ([7], [7]), ([6, 8, 4], [6, 8]), ([4, 9, 9], [4, 9]), ([10, 10, 0, 1, 2, 3, 4, 5, 6, 7, 8, 9, 10], [10])])
def trishawref01_Cmp.B1 : List Nat := [0, 1, 0, 4, 15, 0, 32, 0, 128, 511, 1023, 2047]
theorem trishawref01_Cmp.tab1 : rtab .any (opsOf Try.f57 1) = trishawref01_Cmp.T1 := by kernel_rfl
theorem trishawref01_Cmp.bits1 : waitsOk trishawref01_Cmp.T1.2 trishawref01_Cmp.B1 = true := by kernel_rfl
set_option maxHeartbeats 8000000 in
set_option maxRecDepth 100000 in
theorem trishawref01_Cmp.calls (k : Nat) (a0_0 : Bool) (A0_1 : Option Addr) (c0_1 : Nat) (l0_1 : List Int) (a0_2 : Bool) (A0_3 : Option Addr) (c0_3 : Nat) (l0_3 : List Int) (a1_0 : Bool) (A1_1 : Option Addr) (c1_1 : Nat) (l1_1 : List Int) (a1_2 : Bool) (A1_3 : Option Addr) (c1_3 : Nat) (l1_3 : List Int) (r : Int) (w : World) (hr0_1 : Kd.C (Kd.int .i64) w A0_1 l0_1.length l0_1) (hc0_1 : l0_1.length ≤ c0_1) (hr0_3 : Kd.C (Kd.int .i64) w A0_3 l0_3.length l0_3) (hc0_3 : l0_3.length ≤ c0_3) (hr1_1 : Kd.C (Kd.int .i64) w A1_1 l1_1.length l1_1) (hc1_1 : l1_1.length ≤ c1_1) (hr1_3 : Kd.C (Kd.int .i64) w A1_3 l1_3.length l1_3) (hc1_3 : l1_3.length ≤ c1_3) (h : trishawref01_Cmp.f k a0_0 l0_1 a0_2 l0_3 a1_0 l1_1 a1_2 l1_3 = some r) :
  Calls Try.prog 57 #[.agg #[.bool a0_0, .slice A0_1 l0_1.length c0_1, .bool a0_2, .slice A0_3 l0_3.length c0_3], .agg #[.bool a1_0, .slice A1_1 l1_1.length c1_1, .bool a1_2, .slice A1_3 l1_3.length c1_3]] w fun e w' => e = .returned (.int .i64 r) ∧ Below w.heap.size w w' := by
 have hu77 := Try.underlying77
 have hu75 := Try.underlying75
 have HR0_1 := Az0.mk hr0_1
 have HC0_1 := Az0.mk hc0_1
 clear hr0_1 hc0_1
 have HR0_3 := Az0.mk hr0_3
 have HC0_3 := Az0.mk hc0_3
 clear hr0_3 hc0_3
 have HR1_1 := Az0.mk hr1_1
 have HC1_1 := Az0.mk hc1_1
 clear hr1_1 hc1_1
 have HR1_3 := Az0.mk hr1_3
 have HC1_3 := Az0.mk hc1_3
 clear hr1_3 hc1_3
 have HB := Az0.mk (Below.refl w.heap.size w)
 have H : ((trishawref01_Times.f k a0_0 l0_1 a1_2 l1_3).bind fun bt261 => ((trishawref01_Times.f k a1_0 l1_1 a0_2 l0_3).bind fun bt265 => ((trishawref01_Compare.f k bt261.1 bt261.2 bt265.1 bt265.2).bind fun t269 => (some t269)))) = some r := h
 clear h
 replace H := Option.bind_eq_some_iff.mp H
 obtain ⟨⟨t261, t262⟩, A30, H⟩ := H
 try dsimp only at H
 have A3 := Az0.mk A30
 clear A30
 replace H := Option.bind_eq_some_iff.mp H
 obtain ⟨⟨t265, t266⟩, A40, H⟩ := H
 try dsimp only at H
 have A4 := Az0.mk A40
 clear A40
 replace H := Option.bind_eq_some_iff.mp H
 obtain ⟨t269, A50, H⟩ := H
 try dsimp only at H
 have A5 := Az0.mk A50
 clear A50
 obtain rfl := Option.some.inj H
 go_enter Try.func57, Try.ntmps57
 try go_wp2_with (first | ((with_reducible refine gD_ (N := 2) rfl ?_); refine bE_ ?hg (N := 2) ?hd (cs := #[.bool a0_0, .slice A0_1 l0_1.length c0_1, .bool a0_2, .slice A0_3 l0_3.length c0_3]) (t := 77) ?hr ?_; (case hd => rfl); (case hg => rfl); (case hr => first | (go_simp; done) | (go_simp; rfl)); intro gb259 hg w6 hbox hb; have n0_ := Az0.mk (bP_ (by exact Ups.w HB.out) hb); have n1_ := Az0.mk (hbox); have n2_ := Az0.mk ((by rw [hg]; exact (bZ_ (by exact Ups.w HB.out)) : w.heap.size ≤ gb259)); have n3_ := Az0.mk ((by rw [hg]; exact (bZ_ (by exact Ups.w HB.out)) : w.heap.size ≤ gb259)); clear HB; have HB := n0_; have BK259 := n1_; have GW259 := n2_; have GE259 := n3_; clear n0_ n1_ n2_ n3_; clear hb hbox hg) | ((with_reducible refine gD_ (N := 3) rfl ?_); refine bE_ ?hg (N := 3) ?hd (cs := #[.bool a1_0, .slice A1_1 l1_1.length c1_1, .bool a1_2, .slice A1_3 l1_3.length c1_3]) (t := 77) ?hr ?_; (case hd => rfl); (case hg => rfl); (case hr => first | (go_simp; done) | (go_simp; rfl)); intro gb260 hg w7 hbox hb; have n0_ := Az0.mk (bB_ (Ups.b BK259.out) hb); have n1_ := Az0.mk (bP_ (by repeat first|exact HB.out | refine Up1.w ?_ | refine bS_ ?_ GE259.out) hb); have n2_ := Az0.mk (hbox); have n3_ := Az0.mk ((by rw [hg]; exact (bZ_ (by repeat first|exact HB.out | refine Up1.w ?_ | refine bS_ ?_ GE259.out)) : w.heap.size ≤ gb260)); have n4_ := Az0.mk ((by rw [hg]; exact (bZ_ (by repeat first|exact HB.out | refine Up1.w ?_ | refine bS_ ?_ GE259.out)) : w.heap.size ≤ gb260)); have n5_ := Az0.mk ((by rw [hg]; exact Nat.ne_of_lt (bL_ (Ups.b BK259.out)) : gb259 ≠ gb260)); have n6_ := Az0.mk ((by rw [hg]; exact Nat.ne_of_gt (bL_ (Ups.b BK259.out)) : gb260 ≠ gb259)); clear BK259; clear HB; have BK259 := n0_; have HB := n1_; have BK260 := n2_; have GW260 := n3_; have GE260 := n4_; have NB259_260 := n5_; have NB260_259 := n6_; clear n0_ n1_ n2_ n3_ n4_ n5_ n6_; clear hb hbox hg))
 have n0_ := Az0.mk (bW_ BK259.out)
 have n1_ := Az0.mk (bW_ BK260.out)
 have n2_ := Az0.mk (bD1_ HB.out)
 clear BK259
 clear BK260
 clear HB
 have BK259 := n0_
 have BK260 := n1_
 have HB := n2_
 clear n0_ n1_ n2_
 refine start_ (n := 12) (S := fun w' => w'.cell? ⟨gb259, 0, none⟩ = some (.bool a0_0) ∧ w'.cell? ⟨gb259, 1, none⟩ = some (.slice A0_1 l0_1.length c0_1) ∧ w'.cell? ⟨gb259, 2, none⟩ = some (.bool a0_2) ∧ w'.cell? ⟨gb259, 3, none⟩ = some (.slice A0_3 l0_3.length c0_3) ∧ w'.cell? ⟨gb260, 0, none⟩ = some (.bool a1_0) ∧ w'.cell? ⟨gb260, 1, none⟩ = some (.slice A1_1 l1_1.length c1_1) ∧ w'.cell? ⟨gb260, 2, none⟩ = some (.bool a1_2) ∧ w'.cell? ⟨gb260, 3, none⟩ = some (.slice A1_3 l1_3.length c1_3)) (ds := []) (tf 0 12) (by kernel_rfl) rfl rfl ⟨(bkC BK259.out 0).trans rfl, (bkC BK259.out 1).trans rfl, (bkC BK259.out 2).trans rfl, (bkC BK259.out 3).trans rfl, (bkC BK260.out 0).trans rfl, (bkC BK260.out 1).trans rfl, (bkC BK260.out 2).trans rfl, (bkC BK260.out 3).trans rfl⟩ (fun hHeld => ?_); refine with_tabW trishawref01_Cmp.tab1 trishawref01_Cmp.bits1 (fun HT_ HW_ => ?_)
 generalize w7.drew = w8 at BK259 BK260 HB hHeld ⊢
 refine pure_ (i := 0) (N := some 5) (v := ?_) (a' := ?_) (tf 1 11) rfl rfl (any_of HT_.out (by kernel_rfl)) (fun _ _ _ h => h) (Or.inl ⟨by rfl, ?_⟩) ?_ ?_
 rotate_left
 ·intro w'
  go_simp
  with_reducible rfl
 rotate_left
 ·simp only[pS_]
  rfl
 refine pure_ (i := 2) (N := some 7) (v := ?_) (a' := ?_) (bn 12 5) rfl rfl (any_of HT_.out (by kernel_rfl)) (fun _ _ _ h => h) (Or.inl ⟨by rfl, ?_⟩) ?_ ?_
 rotate_left
 ·intro w'
  go_simp
  with_reducible rfl
 rotate_left
 ·simp only[pS_]
  rfl
 refine pure_ (i := 5) (N := some 10) (v := ?_) (a' := ?_) (bn 12 37) rfl rfl (any_of HT_.out (by kernel_rfl)) (fun _ _ _ h => h) (Or.inl ⟨by rfl, ?_⟩) ?_ ?_
 rotate_left
 ·intro w'
  go_simp
  with_reducible rfl
 rotate_left
 ·simp only[pS_]
  rfl
 refine pure_ (i := 7) (N := some 12) (v := ?_) (a' := ?_) (bn 12 165) rfl rfl (any_of HT_.out (by kernel_rfl)) (fun _ _ _ h => h) (Or.inl ⟨by rfl, ?_⟩) ?_ ?_
 rotate_left
 ·intro w'
  go_simp
  with_reducible rfl
 rotate_left
 ·simp only[pS_]
  rfl
 refine take_ (i := 1) (N := some 6) (v := ?_) (a' := ?_) (bn 12 167) rfl rfl (take_ofW HT_.out HW_.out (by kernel_rfl)) (fun _ _ _ h => h) (Or.inl ⟨by rfl, ?_⟩) hHeld ?_ ?_
 rotate_left
 ·rintro w' ⟨s0, s1, s2, s3, s4, s5, s6, s7⟩
  go_simp
  with_reducible rfl
 rotate_left
 ·simp only[pS_]
  rfl
 refine take_ (i := 3) (N := some 8) (v := ?_) (a' := ?_) (bn 12 175) rfl rfl (take_ofW HT_.out HW_.out (by kernel_rfl)) (fun _ _ _ h => h) (Or.inl ⟨by rfl, ?_⟩) hHeld ?_ ?_
 rotate_left
 ·rintro w' ⟨s0, s1, s2, s3, s4, s5, s6, s7⟩
  go_simp
  with_reducible rfl
 rotate_left
 ·simp only[pS_]
  rfl
 refine take_ (i := 6) (N := some 11) (v := ?_) (a' := ?_) (bn 12 239) rfl rfl (take_ofW HT_.out HW_.out (by kernel_rfl)) (fun _ _ _ h => h) (Or.inl ⟨by rfl, ?_⟩) hHeld ?_ ?_
 rotate_left
 ·rintro w' ⟨s0, s1, s2, s3, s4, s5, s6, s7⟩
  go_simp
  with_reducible rfl
 rotate_left
 ·simp only[pS_]
  rfl
 refine take_ (i := 8) (N := some 13) (v := ?_) (a' := ?_) (bn 12 495) rfl rfl (take_ofW HT_.out HW_.out (by kernel_rfl)) (fun _ _ _ h => h) (Or.inl ⟨by rfl, ?_⟩) hHeld ?_ ?_
 rotate_left
 ·rintro w' ⟨s0, s1, s2, s3, s4, s5, s6, s7⟩
  go_simp
  with_reducible rfl
 rotate_left
 ·simp only[pS_]
  rfl
 refine one_ (i := 4) (N := some 9) (tf 9 3) rfl rfl (one_of HT_.out (by kernel_rfl)) (by decide) (fun K hK => ?_)
 refine goes_ Try.func85 (by kernel_rfl) rfl #[.agg #[.bool a0_0, .slice A0_1 l0_1.length c0_1], .agg #[.bool a1_2, .slice A1_3 l1_3.length c1_3]] (by rfl) rfl rfl (by (try simp only [List.map_toArray, List.map_cons, List.map_nil]); first | done | rfl | (simp only [List.length_drop, List.length_take]; rfl)) ?_
 with_reducible refine (trishawref01_Times.calls k a0_0 _ _ l0_1 a1_2 _ _ l1_3 t261 t262 _ ?side1 ?side2 ?side3 ?side4 A3.out).mono ?_
 (case side1 => repeat (first | exact (Kd.C_below HR0_1.out HB.out) | refine Up1.c ?_))
 (case side2 => exact HC0_1.out)
 (case side3 => repeat (first | exact (Kd.C_below HR1_3.out HB.out) | refine Up1.c ?_))
 (case side4 => exact HC1_3.out)
 rintro e w9 ⟨v263, rfl, ho0, hb⟩
 refine ⟨_, rfl, ?_⟩
 have n0_ := Az0.mk (Kd.R_lower ho0 (bZ_ (by repeat first|exact HB.out | refine Up1.w ?_ | refine bS_ ?_ GE259.out | refine bS_ ?_ GE260.out)))
 have n1_ := Az0.mk (bB_ (Ups.b BK259.out) hb)
 have n2_ := Az0.mk (bB_ (Ups.b BK260.out) hb)
 have n3_ := Az0.mk (bP_ (by repeat first|exact HB.out | refine Up1.w ?_ | refine bS_ ?_ GE259.out | refine bS_ ?_ GE260.out) hb)
 clear BK259
 clear BK260
 clear HB
 have HO264 := n0_
 have BK259 := n1_
 have BK260 := n2_
 have HB := n3_
 clear n0_ n1_ n2_ n3_
 (try clear hb)
 (try clear hb2)
 (try clear hk)
 (try clear hi)
 (try clear ho0)
 refine hK.out _ _ ⟨(bkC BK259.out 0).trans rfl, (bkC BK259.out 1).trans rfl, (bkC BK259.out 2).trans rfl, (bkC BK259.out 3).trans rfl, (bkC BK260.out 0).trans rfl, (bkC BK260.out 1).trans rfl, (bkC BK260.out 2).trans rfl, (bkC BK260.out 3).trans rfl⟩ (fun hHeld => ?_)
 clear hK K
 refine norm_ (a' := ?_) ?_ ?_
 rotate_left
 ·show Act.put _ (some 9) _ = _
  simp only[pS_]
  rfl
 refine one_ (i := 9) (N := some 14) (tf 10 2) rfl rfl (one_of HT_.out (by kernel_rfl)) (by decide) (fun K hK => ?_)
 refine goes_ Try.func85 (by kernel_rfl) rfl #[.agg #[.bool a1_0, .slice A1_1 l1_1.length c1_1], .agg #[.bool a0_2, .slice A0_3 l0_3.length c0_3]] (by rfl) rfl rfl (by (try simp only [List.map_toArray, List.map_cons, List.map_nil]); first | done | rfl | (simp only [List.length_drop, List.length_take]; rfl)) ?_
 with_reducible refine (trishawref01_Times.calls k a1_0 _ _ l1_1 a0_2 _ _ l0_3 t265 t266 _ ?side1 ?side2 ?side3 ?side4 A4.out).mono ?_
 (case side1 => repeat (first | exact (Kd.C_below HR1_1.out HB.out) | refine Up1.c ?_))
 (case side2 => exact HC1_1.out)
 (case side3 => repeat (first | exact (Kd.C_below HR0_3.out HB.out) | refine Up1.c ?_))
 (case side4 => exact HC0_3.out)
 rintro e w10 ⟨v267, rfl, ho0, hb⟩
 refine ⟨_, rfl, ?_⟩
 have n0_ := Az0.mk (Kd.R_elder' (by (repeat refine Up1.r ?_); exact HO264.out) (Kd.rB_ ho0) hb)
 have n1_ := Az0.mk (Kd.R_lower (Kd.R_new' ho0 (Kd.R_lt (by (repeat refine Up1.r ?_); exact HO264.out))) (bZ_ (by repeat first|exact HB.out | refine Up1.w ?_ | refine bS_ ?_ GE259.out | refine bS_ ?_ GE260.out)))
 have n2_ := Az0.mk (bB_ (Ups.b BK259.out) hb)
 have n3_ := Az0.mk (bB_ (Ups.b BK260.out) hb)
 have n4_ := Az0.mk (bP_ (by repeat first|exact HB.out | refine Up1.w ?_ | refine bS_ ?_ GE259.out | refine bS_ ?_ GE260.out) hb)
 clear HO264
 clear BK259
 clear BK260
 clear HB
 have HO264 := n0_
 have HO268 := n1_
 have BK259 := n2_
 have BK260 := n3_
 have HB := n4_
 clear n0_ n1_ n2_ n3_ n4_
 (try clear hb)
 (try clear hb2)
 (try clear hk)
 (try clear hi)
 (try clear ho0)
 obtain ⟨Ao11, co11, eo11⟩ := Kd.R_slice HO264.out
 (first | subst eo11 | (injection eo11 with f1_ f2_ f3_; have f4_ := f1_.symm; have f5_ := f3_.symm; clear f1_ f2_ f3_; subst f4_; subst f5_))
 obtain ⟨Ao12, co12, eo12⟩ := Kd.R_slice HO268.out
 (first | subst eo12 | (injection eo12 with f1_ f2_ f3_; have f4_ := f1_.symm; have f5_ := f3_.symm; clear f1_ f2_ f3_; subst f4_; subst f5_))
 refine hK.out _ _ ⟨(bkC BK259.out 0).trans rfl, (bkC BK259.out 1).trans rfl, (bkC BK259.out 2).trans rfl, (bkC BK259.out 3).trans rfl, (bkC BK260.out 0).trans rfl, (bkC BK260.out 1).trans rfl, (bkC BK260.out 2).trans rfl, (bkC BK260.out 3).trans rfl⟩ (fun hHeld => ?_)
 clear hK K
 refine norm_ (a' := ?_) ?_ ?_
 rotate_left
 ·show Act.put _ (some 14) _ = _
  simp only[pS_]
  rfl
 refine one_ (i := 10) (N := some 15) (tf 11 1) rfl rfl (one_of HT_.out (by kernel_rfl)) (by decide) (fun K hK => ?_)
 refine goes_ Try.func87 (by kernel_rfl) rfl #[.agg #[.bool t261, .slice Ao11 t262.length co11], .agg #[.bool t265, .slice Ao12 t266.length co12]] (by rfl) rfl rfl (by (try simp only [List.map_toArray, List.map_cons, List.map_nil]); first | done | rfl | (simp only [List.length_drop, List.length_take]; rfl)) ?_
 with_reducible refine (trishawref01_Compare.calls k t261 _ _ t262 t265 _ _ t266 t269 _ ?side1 ?side2 ?side3 ?side4 A5.out).mono ?_
 (case side1 => repeat (first | exact (Kd.R_reads' HO264.out).2.2 | refine Up1.c ?_))
 (case side2 => exact (Kd.R_reads' HO264.out).2.1)
 (case side3 => repeat (first | exact (Kd.R_reads' HO268.out).2.2 | refine Up1.c ?_))
 (case side4 => exact (Kd.R_reads' HO268.out).2.1)
 rintro e w13 ⟨rfl, hb⟩
 refine ⟨_, rfl, ?_⟩
 have n2_ := Az0.mk (bB_ (Ups.b BK259.out) hb)
 have n3_ := Az0.mk (bB_ (Ups.b BK260.out) hb)
 have n4_ := Az0.mk (bP_ (by repeat first|exact HB.out | refine Up1.w ?_ | refine bS_ ?_ GE259.out | refine bS_ ?_ GE260.out) hb)
 clear BK259
 clear BK260
 clear HB
 have BK259 := n2_
 have BK260 := n3_
 have HB := n4_
 clear n2_ n3_ n4_
 (try clear hb)
 (try clear hb2)
 (try clear hk)
 (try clear hi)
 refine hK.out _ _ ⟨(bkC BK259.out 0).trans rfl, (bkC BK259.out 1).trans rfl, (bkC BK259.out 2).trans rfl, (bkC BK259.out 3).trans rfl, (bkC BK260.out 0).trans rfl, (bkC BK260.out 1).trans rfl, (bkC BK260.out 2).trans rfl, (bkC BK260.out 3).trans rfl⟩ (fun hHeld => ?_)
 clear hK K
 refine norm_ (a' := ?_) ?_ ?_
 rotate_left
 ·show Act.put _ (some 15) _ = _
  simp only[pS_]
  rfl
 refine pure_ (i := 11) (N := some 4) (v := ?_) (a' := ?_) (tf 12 0) rfl rfl (any_of HT_.out (by kernel_rfl)) (fun _ _ _ h => h) (Or.inl ⟨by rfl, ?_⟩) ?_ ?_
 rotate_left
 ·intro w'
  go_simp
  with_reducible rfl
 rotate_left
 ·simp only[pS_]
  rfl
 refine done_ (done_of HT_.out (by kernel_rfl)) ?_
 try go_wp2
 go_ret
 exact ⟨by first | rfl | (simp [errW_none, errW_some] <;> rfl) | (simp [*, errW_none, errW_some] <;> rfl), by repeat first|exact HB.out | refine Up1.w ?_ | refine bS_ ?_ GE259.out | refine bS_ ?_ GE260.out⟩
def trishawref01_gcdD.l0 : Nat → List Int → List Int → Option (List Int)
  | 0, _, _ => none
  | k + 1, x0, x1 => if (x1.length : Int) > 0 then ((rDv.f k x0 x1).bind fun bt276 => (trishawref01_gcdD.l0 k x1 bt276.2)) else (some x0)
def trishawref01_gcdD.f (k : Nat) (l0 : List Int) (l1 : List Int) : Option (List Int) := trishawref01_gcdD.l0 k l0 l1
set_option maxHeartbeats 8000000 in
set_option maxRecDepth 100000 in
theorem trishawref01_gcdD.calls (k : Nat) (P0_ : Nat → Prop) (A0 : Option Addr) (c0 : Nat) (l0 : List Int) (P1_ : Nat → Prop) (A1 : Option Addr) (c1 : Nat) (l1 : List Int) (r : List Int) (w : World) (hs0 : Kd.V (Kd.int .i64) 3 w w.heap.size (fun k_ => P0_ k_) (.slice A0 l0.length c0) l0) (hs1 : Kd.V (Kd.int .i64) 3 w w.heap.size (fun k_ => P1_ k_) (.slice A1 l1.length c1) l1) (h : trishawref01_gcdD.f k l0 l1 = some r) :
  Calls Try.prog 102 #[.slice A0 l0.length c0, .slice A1 l1.length c1] w fun e w' => ∃ v0_ : Value, e = .returned (v0_) ∧ Kd.V (Kd.int .i64) 3 w' w.heap.size (fun k_ => ((P0_ k_ ∨ P1_ k_) ∨ w.heap.size ≤ k_)) v0_ r ∧ Below w.heap.size w w' := by
 have HO0 := Az0.mk (show Kd.V (Kd.int .i64) 3 w w.heap.size (fun k_ => ((P0_ k_ ∨ P1_ k_) ∨ w.heap.size ≤ k_)) (.slice A0 l0.length c0) l0 from Kd.V_mono hs0 (fun k_ hk => .inl (.inl hk)))
 have HO1 := Az0.mk (show Kd.V (Kd.int .i64) 3 w w.heap.size (fun k_ => ((P0_ k_ ∨ P1_ k_) ∨ w.heap.size ≤ k_)) (.slice A1 l1.length c1) l1 from Kd.V_mono hs1 (fun k_ hk => .inl (.inr hk)))
 have HB := Az0.mk (Below.refl w.heap.size w)
 have H : (trishawref01_gcdD.l0 k l0 l1) = some r := h
 clear h
 have H' := Az0.mk H
 clear H
 go_enter Try.func102, Try.ntmps102
 go_wp2
 go_loopg [0, 1] k (fun kq v0 v1 w' => ∃ (x0_1 : List Int) (x1_1 : List Int), Az0 (trishawref01_gcdD.l0 kq x0_1 x1_1 = some r) ∧ Az0 (kq ≤ k) ∧ Az0 (Kd.V (Kd.int .i64) 3 w' w.heap.size (fun k_ => ((P0_ k_ ∨ P1_ k_) ∨ w.heap.size ≤ k_)) v0 x0_1) ∧ Az0 (Kd.V (Kd.int .i64) 3 w' w.heap.size (fun k_ => ((P0_ k_ ∨ P1_ k_) ∨ w.heap.size ≤ k_)) v1 x1_1) ∧ Az0 (Below w.heap.size w w'))
 case atStart => exact ⟨(l0), (l1), H', ⟨Nat.le_refl _⟩, ⟨by (with_reducible repeat (first | apply Kd.V_alloc | apply Kd.V_drewN | apply Kd.V_drew)); exact HO0.out⟩, ⟨by (with_reducible repeat (first | apply Kd.V_alloc | apply Kd.V_drewN | apply Kd.V_drew)); exact HO1.out⟩, ⟨by exact Ups.w HB.out⟩⟩
 case round =>
  clear H'
  try clear c1
  try clear p2
  obtain ⟨x0_1, x1_1, HA, HK1, HO_0, HO_1, HB⟩ := hrel
  cases gk with
  | zero => exact absurd HA.out (by simp [trishawref01_gcdD.l0])
  | succ k1 =>
   have H := HA.out
   clear HA
   simp only [trishawref01_gcdD.l0] at H
   by_cases c3 : (x1_1.length : Int) > 0
   ·rw [if_pos c3] at H
    have c3b0 : decide (0 < (x1_1.length : Int)) = true := decide_eq_true c3
    have c3b1 : decide (0 < x1_1.length) = true := decide_eq_true (by omega)
    clear c3
    replace H := Option.bind_eq_some_iff.mp H
    obtain ⟨⟨t276, t277⟩, A40, H⟩ := H
    try dsimp only at H
    have A4 := Az0.mk A40
    clear A40
    have H' := Az0.mk H
    clear H
    obtain ⟨Ao5, co5, eo5⟩ := Kd.V_slice HO_1.out
    subst eo5
    obtain ⟨Ao6, co6, eo6⟩ := Kd.V_slice HO_0.out
    subst eo6
    go_wp2_with (first | ((with_reducible refine gate_callee (f := 117) rfl ?_); refine goesL_ (some 13) rfl rfl Try.func117 (by kernel_rfl) rfl #[.slice Ao6 x0_1.length co6, .slice Ao5 x1_1.length co5] rfl (by (try simp only [List.map_toArray, List.map_cons, List.map_nil]); first | done | rfl | (simp only [List.length_drop, List.length_take]; rfl)) ?_; (with_reducible refine (rDv.calls k1 _ _ x0_1 _ _ x1_1 t276 t277 _ ?side1 ?side2 ?side3 ?side4 A4.out).mono ?_); (case side1 => repeat (first | exact (Kd.V_reads' HO_0.out).2.2 | refine Up1.c ?_)); (case side2 => exact (Kd.V_reads' HO_0.out).2.1); (case side3 => repeat (first | exact (Kd.V_reads' HO_1.out).2.2 | refine Up1.c ?_)); (case side4 => exact (Kd.V_reads' HO_1.out).2.1); rintro e w7 ⟨v278, v280, rfl, ho0, ho1, hb⟩; refine ⟨_, rfl, ?_⟩; have n0_ := Az0.mk (Kd.V_mono (Kd.V_told (Kd.V_told (Kd.V_old (by (with_reducible repeat (first | apply Kd.V_alloc | apply Kd.V_drewN | apply Kd.V_drew)); exact HO_0.out) hb) (Kd.rB_ ho0)) (Kd.rB_ ho1)) (fun _ h_ => h_.1)); have n1_ := Az0.mk (Kd.V_mono (Kd.V_told (Kd.V_told (Kd.V_old (by (with_reducible repeat (first | apply Kd.V_alloc | apply Kd.V_drewN | apply Kd.V_drew)); exact HO_1.out) hb) (Kd.rB_ ho0)) (Kd.rB_ ho1)) (fun _ h_ => h_.1)); have n2_ := Az0.mk (Kd.R_lower (Kd.R_newM (M := fun k_ => (w.heap.size ≤ k_)) ho0 (bZ_ (by exact Ups.w HB.out)) (fun k_ h_ => h_)) (bZ_ (by exact Ups.w HB.out))); have n3_ := Az0.mk (Kd.R_lower (Kd.R_newM (M := fun k_ => (w.heap.size ≤ k_)) ho1 (bZ_ (by exact Ups.w HB.out)) (fun k_ h_ => h_)) (bZ_ (by exact Ups.w HB.out))); have n4_ := Az0.mk (bP_ (by exact Ups.w HB.out) hb); clear HO_0; clear HO_1; clear HB; have HO_0 := n0_; have HO_1 := n1_; have HO279 := n2_; have HO281 := n3_; have HB := n4_; clear n0_ n1_ n2_ n3_ n4_; (try clear hb); (try clear hb2); (try clear hk); (try clear hi); (try clear ho0); (try clear ho1)))
    go_roundg k1
    case measure => have := HK1.out; omega
    case rel => exact ⟨(x1_1), (t277), H', ⟨by have := HK1.out; omega⟩, ⟨by (with_reducible repeat (first | apply Kd.V_alloc | apply Kd.V_drewN | apply Kd.V_drew)); exact Kd.V_mono HO_1.out (fun _ hk => hk.1.1)⟩, ⟨Kd.V_mono (Kd.R_V (by (repeat refine Up1.r ?_); exact Kd.rM_ HO281.out (fun _ hk => hk.1))) (fun k_ hk => by first | exact ⟨(.inr (hk.1)), hk.2⟩ | exact (.inr (hk)))⟩, ⟨by exact Ups.w HB.out⟩⟩
   rw [if_neg c3] at H
   have c3b0 : decide (0 < (x1_1.length : Int)) = false := decide_eq_false c3
   have c3b1 : decide (0 < x1_1.length) = false := decide_eq_false (by omega)
   clear c3
   obtain rfl := Option.some.inj H
   obtain ⟨Ao8, co8, eo8⟩ := Kd.V_slice HO_1.out
   subst eo8
   go_wp2
   go_ret
   exact ⟨_, by first | rfl | (simp [errW_none, errW_some] <;> rfl) | (simp [*, errW_none, errW_some] <;> rfl), by (with_reducible repeat (first | apply Kd.V_alloc | apply Kd.V_drewN | apply Kd.V_drew)); exact HO_0.out, by exact Ups.w HB.out⟩
end Go.Proofs.Ytjgbdicbdlollaa.B
namespace Go.Proofs.Ytjgbdicbdlollaa.B
open Go.RowKit Go.Proofs.YtjgbdicbdlollaaW.PrintWords Go.Proofs.YtjgbdicbdlollaaW.PrintLast Go.Proofs.YtjgbdicbdlollaaW.PrintMore
set_option linter.unusedVariables false
set_option linter.unusedSimpArgs false
/-- lowest's own function (of a d that is not negative). -/
def rLo.t (k : Nat) (a0 : Bool) (l0 : List Int) (l1 : List Int) : Option (Bool × List Int × Bool × List Int) :=
  (trishawref01_gcdD.f k l0 l1).bind fun g => (rWh.f k false g).bind fun w => (trishawref01_Over.f k a0 l0 w.1 w.2).bind fun x => (trishawref01_Over.f k false l1 w.1 w.2).bind fun y => some (x.1, x.2.1, y.1, y.2.1)
def rLo.f (k : Nat) (a0 : Bool) (l0 : List Int) (a1 : Bool) (l1 : List Int) : Option (Bool × List Int × Bool × List Int) :=
  if a1 = true then none else rLo.t k a0 l0 l1
/-- Nothing but one block has changed. -/
structure Far (g : Nat) (W W' : World) : Prop where
  os : W'.os = W.os
  tape : W'.tape = W.tape
  output : W'.output = W.output
  size : W'.heap.size = W.heap.size
  blk : ∀ k, k ≠ g → W'.heap[k]? = W.heap[k]?
theorem Far.set {W : World} {g j : Nat} {v : Value} {cs : Array Value} {t : TypeId} (hb : W.heap[g]? = some (.cells cs t (0, 0))) : Far g W (W.setCell ⟨g, j, none⟩ v) := by
  have h := (Below.mk (B := 0) (w := W) (w' := W) rfl rfl rfl (Nat.le_refl _) (fun k hk => absurd hk (Nat.not_lt_zero _))).setCell (p := ⟨g, j, none⟩) (Nat.zero_le _) v
  exact ⟨h.os, h.tape, h.output, by simp, fun k hk => Below.heap_setCell _ ⟨g, j, none⟩ _ k hk⟩
theorem Far.trans {W W1 W2 : World} {g : Nat} (h : Far g W W1) (k : Far g W1 W2) : Far g W W2 := ⟨k.os.trans h.os, k.tape.trans h.tape, k.output.trans h.output, k.size.trans h.size, fun q hq => (k.blk q hq).trans (h.blk q hq)⟩
theorem Far.below {w W W' : World} {g : Nat} (h : Far g W W') (hb : Below w.heap.size w W) (hg : w.heap.size ≤ g) : Below w.heap.size w W' := ⟨h.os.trans hb.os, h.tape.trans hb.tape, h.output.trans hb.output, by rw [h.size]; exact hb.size, fun k hk => (h.blk k (by omega)).trans (hb.block k hk)⟩
theorem Far.keep {W W' : World} {g b : Nat} {x : Obj} (h : Far g W W') (hb : W.heap[b]? = some x) (hn : b ≠ g) : W'.heap[b]? = some x := (h.blk b hn).trans hb
theorem Far.row {W W' : World} {g base : Nat} {v : Value} {xs : List Int} {cs : Array Value} {t : TypeId} (h : Far g W W') (hb : W.heap[g]? = some (.cells cs t (0, 0))) (ht : t ≠ 3) (hr : Kd.R (Kd.int .i64) 3 W base (fun _ => True) v xs) : Kd.R (Kd.int .i64) 3 W' base (fun _ => True) v xs :=
  Kd.rM_ (Kd.R_step (Kd.rY_ hr hb (fun q hq => by
    rcases List.mem_cons.1 hq with rfl | hq
    · exact fun e => ht e.symm
    cases hq)) (fun k hk _ => h.blk k hk.2)) (fun _ _ => trivial)
theorem put2 {W : World} {g : Nat} {x0 x1 v0 v1 : Value} {t : TypeId} (hb : W.heap[g]? = some (.cells #[x0, x1] t (0, 0))) : ((W.setCell ⟨g, 0, none⟩ v0).setCell ⟨g, 1, none⟩ v1).heap[g]? = some (.cells #[v0, v1] t (0, 0)) ∧ Far g W ((W.setCell ⟨g, 0, none⟩ v0).setCell ⟨g, 1, none⟩ v1) := by
  have h1 : (W.setCell ⟨g, 0, none⟩ v0).heap[g]? = some (.cells #[v0, x1] t (0, 0)) := blk_put (cs := #[x0, x1]) hb 0 v0 rfl
  exact ⟨blk_put (cs := #[v0, x1]) h1 1 v1 rfl, (Far.set hb).trans (Far.set h1)⟩
theorem put4 {W : World} {g : Nat} {x0 x1 x2 x3 v0 v1 v2 v3 : Value} {t : TypeId} (hb : W.heap[g]? = some (.cells #[x0, x1, x2, x3] t (0, 0))) : ((((W.setCell ⟨g, 0, none⟩ v0).setCell ⟨g, 1, none⟩ v1).setCell ⟨g, 2, none⟩ v2).setCell ⟨g, 3, none⟩ v3).heap[g]? = some (.cells #[v0, v1, v2, v3] t (0, 0)) ∧ Far g W ((((W.setCell ⟨g, 0, none⟩ v0).setCell ⟨g, 1, none⟩ v1).setCell ⟨g, 2, none⟩ v2).setCell ⟨g, 3, none⟩ v3) := by
  have h1 : (W.setCell ⟨g, 0, none⟩ v0).heap[g]? = some (.cells #[v0, x1, x2, x3] t (0, 0)) := blk_put (cs := #[x0, x1, x2, x3]) hb 0 v0 rfl
  have h2 : ((W.setCell ⟨g, 0, none⟩ v0).setCell ⟨g, 1, none⟩ v1).heap[g]? = some (.cells #[v0, v1, x2, x3] t (0, 0)) := blk_put (cs := #[v0, x1, x2, x3]) h1 1 v1 rfl
  have h3 : (((W.setCell ⟨g, 0, none⟩ v0).setCell ⟨g, 1, none⟩ v1).setCell ⟨g, 2, none⟩ v2).heap[g]? = some (.cells #[v0, v1, v2, x3] t (0, 0)) := blk_put (cs := #[v0, v1, x2, x3]) h2 2 v2 rfl
  exact ⟨blk_put (cs := #[v0, v1, v2, x3]) h3 3 v3 rfl, (((Far.set hb).trans (Far.set h1)).trans (Far.set h2)).trans (Far.set h3)⟩
theorem vOf {W : World} {A : Option Addr} {c : Nat} {l : List Int} (hc : l.length ≤ c) (hr : Kd.C (Kd.int .i64) W A l.length l) : Kd.V (Kd.int .i64) 3 W W.heap.size (fun _ => True) (.slice A l.length c) l :=
  Kd.V_mk hc (fun W' hW => (Kd.heap_int .i64).C (fun k hk => hW k trivial hk) hr)
set_option maxHeartbeats 4000000 in
set_option maxRecDepth 100000 in
theorem rLo.calls (k : Nat) (a0_0 : Bool) (A0_1 : Option Addr) (c0_1 : Nat) (l0_1 : List Int) (a1_0 : Bool) (A1_1 : Option Addr) (c1_1 : Nat) (l1_1 : List Int) (r1 : Bool) (r2 : List Int) (r3 : Bool) (r4 : List Int) (w : World) (hr0_1 : Kd.C (Kd.int .i64) w A0_1 l0_1.length l0_1) (hc0_1 : l0_1.length ≤ c0_1) (hr1_1 : Kd.C (Kd.int .i64) w A1_1 l1_1.length l1_1) (hc1_1 : l1_1.length ≤ c1_1) (h : rLo.f k a0_0 l0_1 a1_0 l1_1 = some (r1, r2, r3, r4)) :
  Calls Try.prog 84 #[.agg #[.bool a0_0, .slice A0_1 l0_1.length c0_1], .agg #[.bool a1_0, .slice A1_1 l1_1.length c1_1]] w fun e w' => ∃ v1_ v3_ : Value, e = .returned (.agg #[.bool r1, v1_, .bool r3, v3_]) ∧ Kd.R (Kd.int .i64) 3 w' w.heap.size (fun k_ => some k_ ≠ (v3_ : Value).ownBlock) v1_ r2 ∧ Kd.R (Kd.int .i64) 3 w' w.heap.size (fun k_ => some k_ ≠ (v1_ : Value).ownBlock) v3_ r4 ∧ Below w.heap.size w w' := by
 have hu75 := Try.underlying75
 have hu77 := Try.underlying77
 have HR0 := Az0.mk hr0_1
 have HC0 := Az0.mk hc0_1
 have HR1 := Az0.mk hr1_1
 have HC1 := Az0.mk hc1_1
 clear hr0_1 hc0_1 hr1_1 hc1_1
 have HB := Az0.mk (Below.refl w.heap.size w)
 unfold rLo.f at h
 by_cases h1 : a1_0 = true
 ·rw [if_pos h1] at h; exact absurd h (by simp)
 rw [if_neg h1] at h
 obtain rfl : a1_0 = false := by simpa using h1
 clear h1
 unfold rLo.t at h
 obtain ⟨g, hg, h⟩ := Option.bind_eq_some_iff.1 h
 have G1 := Az0.mk hg
 clear hg
 obtain ⟨⟨wn, wd⟩, hg, h⟩ := Option.bind_eq_some_iff.1 h
 have G2 := Az0.mk hg
 clear hg
 obtain ⟨⟨x1, x2, x3, x4⟩, hg, h⟩ := Option.bind_eq_some_iff.1 h
 have G3 := Az0.mk hg
 clear hg
 obtain ⟨⟨y1, y2, y3, y4⟩, hg, h⟩ := Option.bind_eq_some_iff.1 h
 have G4 := Az0.mk hg
 clear hg
 simp only [Option.some.injEq, Prod.mk.injEq] at h
 obtain ⟨rfl, rfl, rfl, rfl⟩ := h
 go_enter Try.func84, Try.ntmps84
 go_wp2_with (first | ((with_reducible refine gD_ (N := 2) rfl ?_); refine bE_ ?hg (N := 2) ?hd (cs := #[.bool a0_0, .slice A0_1 l0_1.length c0_1]) (t := 75) ?hr ?_; (case hd => rfl); (case hg => rfl); (case hr => first | (go_simp; done) | (go_simp; rfl)); intro g2 hg w1 hbox hb; have GB2 := Az0.mk (by rw [hg]; exact HB.out.size : w.heap.size ≤ g2); have nB_ := Az0.mk (bP_ HB.out hb); clear HB; have HB := nB_; clear nB_ ; have B2 := Az0.mk hbox; clear hbox hb hg; have hcB2_0 : w1.cell? ⟨g2, 0, none⟩ = some (.bool a0_0) := (bkC B2.out 0).trans rfl; have hfB2_0 := bF_ B2.out 0; have hcB2_1 : w1.cell? ⟨g2, 1, none⟩ = some (.slice A0_1 l0_1.length c0_1) := (bkC B2.out 1).trans rfl; have hfB2_1 := bF_ B2.out 1) | ((with_reducible refine gD_ (N := 3) rfl ?_); refine bE_ ?hg (N := 3) ?hd (cs := #[.bool false, .slice A1_1 l1_1.length c1_1]) (t := 75) ?hr ?_; (case hd => rfl); (case hg => rfl); (case hr => first | (go_simp; done) | (go_simp; rfl)); intro g3 hg w2 hbox hb; have GB3 := Az0.mk (by rw [hg]; exact HB.out.size : w.heap.size ≤ g3); have NB2B3 := Az0.mk (by rw [hg]; exact Nat.ne_of_lt (bL_ B2.out) : g2 ≠ g3); (try clear hcB2_0); (try clear hfB2_0); (try clear hcB2_1); (try clear hfB2_1); have nB_ := Az0.mk (bP_ HB.out hb); have nB2_ := Az0.mk (bB_ B2.out hb); clear HB B2; have HB := nB_; have B2 := nB2_; clear nB_ nB2_; have B3 := Az0.mk hbox; clear hbox hb hg; have hcB2_0 : w2.cell? ⟨g2, 0, none⟩ = some (.bool a0_0) := (bkC B2.out 0).trans rfl; have hfB2_0 := bF_ B2.out 0; have hcB2_1 : w2.cell? ⟨g2, 1, none⟩ = some (.slice A0_1 l0_1.length c0_1) := (bkC B2.out 1).trans rfl; have hfB2_1 := bF_ B2.out 1; have hcB3_0 : w2.cell? ⟨g3, 0, none⟩ = some (.bool false) := (bkC B3.out 0).trans rfl; have hfB3_0 := bF_ B3.out 0; have hcB3_1 : w2.cell? ⟨g3, 1, none⟩ = some (.slice A1_1 l1_1.length c1_1) := (bkC B3.out 1).trans rfl; have hfB3_1 := bF_ B3.out 1) | ((with_reducible refine gD_ (N := 4) rfl ?_); refine bE_ ?hg (N := 4) ?hd (cs := #[.bool false, .slice none 0 0, .bool false, .slice none 0 0]) (t := 77) ?hr ?_; (case hd => rfl); (case hg => rfl); (case hr => first | (go_simp; done) | (go_simp; rfl)); intro g4 hg w3 hbox hb; have GB4 := Az0.mk (by rw [hg]; exact HB.out.size : w.heap.size ≤ g4); have NB2B4 := Az0.mk (by rw [hg]; exact Nat.ne_of_lt (bL_ B2.out) : g2 ≠ g4); have NB3B4 := Az0.mk (by rw [hg]; exact Nat.ne_of_lt (bL_ B3.out) : g3 ≠ g4); (try clear hcB2_0); (try clear hfB2_0); (try clear hcB2_1); (try clear hfB2_1); (try clear hcB3_0); (try clear hfB3_0); (try clear hcB3_1); (try clear hfB3_1); have nB_ := Az0.mk (bP_ HB.out hb); have nB2_ := Az0.mk (bB_ B2.out hb); have nB3_ := Az0.mk (bB_ B3.out hb); clear HB B2 B3; have HB := nB_; have B2 := nB2_; have B3 := nB3_; clear nB_ nB2_ nB3_; have B4 := Az0.mk hbox; clear hbox hb hg; have hcB2_0 : w3.cell? ⟨g2, 0, none⟩ = some (.bool a0_0) := (bkC B2.out 0).trans rfl; have hfB2_0 := bF_ B2.out 0; have hcB2_1 : w3.cell? ⟨g2, 1, none⟩ = some (.slice A0_1 l0_1.length c0_1) := (bkC B2.out 1).trans rfl; have hfB2_1 := bF_ B2.out 1; have hcB3_0 : w3.cell? ⟨g3, 0, none⟩ = some (.bool false) := (bkC B3.out 0).trans rfl; have hfB3_0 := bF_ B3.out 0; have hcB3_1 : w3.cell? ⟨g3, 1, none⟩ = some (.slice A1_1 l1_1.length c1_1) := (bkC B3.out 1).trans rfl; have hfB3_1 := bF_ B3.out 1; have hcB4_0 : w3.cell? ⟨g4, 0, none⟩ = some (.bool false) := (bkC B4.out 0).trans rfl; have hfB4_0 := bF_ B4.out 0; have hcB4_1 : w3.cell? ⟨g4, 1, none⟩ = some (.slice none 0 0) := (bkC B4.out 1).trans rfl; have hfB4_1 := bF_ B4.out 1; have hcB4_2 : w3.cell? ⟨g4, 2, none⟩ = some (.bool false) := (bkC B4.out 2).trans rfl; have hfB4_2 := bF_ B4.out 2; have hcB4_3 : w3.cell? ⟨g4, 3, none⟩ = some (.slice none 0 0) := (bkC B4.out 3).trans rfl; have hfB4_3 := bF_ B4.out 3) | ((with_reducible refine gate_callee (f := 102) rfl ?_); refine goesL_ (some 20) rfl rfl Try.func102 (by kernel_rfl) rfl #[.slice A0_1 l0_1.length c0_1, .slice A1_1 l1_1.length c1_1] rfl (by (try simp only [List.map_toArray, List.map_cons, List.map_nil]); first | done | rfl) ?_; (with_reducible refine (trishawref01_gcdD.calls k (fun _ => True) _ _ l0_1 (fun _ => True) _ _ l1_1 g _ (vOf HC0.out (Kd.C_below HR0.out HB.out)) (vOf HC1.out (Kd.C_below HR1.out HB.out)) G1.out).mono ?_); rintro e w4 ⟨vg, rfl, hV, hb⟩; refine ⟨_, rfl, ?_⟩; have RV := Az0.mk hV; clear hV; obtain ⟨Ag, cg, eg⟩ := Kd.V_slice RV.out; subst eg; (try clear hcB2_0); (try clear hfB2_0); (try clear hcB2_1); (try clear hfB2_1); (try clear hcB3_0); (try clear hfB3_0); (try clear hcB3_1); (try clear hfB3_1); (try clear hcB4_0); (try clear hfB4_0); (try clear hcB4_1); (try clear hfB4_1); (try clear hcB4_2); (try clear hfB4_2); (try clear hcB4_3); (try clear hfB4_3); have nB_ := Az0.mk (bP_ HB.out hb); have nB2_ := Az0.mk (bB_ B2.out hb); have nB3_ := Az0.mk (bB_ B3.out hb); have nB4_ := Az0.mk (bB_ B4.out hb); clear HB B2 B3 B4; have HB := nB_; have B2 := nB2_; have B3 := nB3_; have B4 := nB4_; clear nB_ nB2_ nB3_ nB4_; clear hb ; have hcB2_0 : w4.cell? ⟨g2, 0, none⟩ = some (.bool a0_0) := (bkC B2.out 0).trans rfl; have hfB2_0 := bF_ B2.out 0; have hcB2_1 : w4.cell? ⟨g2, 1, none⟩ = some (.slice A0_1 l0_1.length c0_1) := (bkC B2.out 1).trans rfl; have hfB2_1 := bF_ B2.out 1; have hcB3_0 : w4.cell? ⟨g3, 0, none⟩ = some (.bool false) := (bkC B3.out 0).trans rfl; have hfB3_0 := bF_ B3.out 0; have hcB3_1 : w4.cell? ⟨g3, 1, none⟩ = some (.slice A1_1 l1_1.length c1_1) := (bkC B3.out 1).trans rfl; have hfB3_1 := bF_ B3.out 1; have hcB4_0 : w4.cell? ⟨g4, 0, none⟩ = some (.bool false) := (bkC B4.out 0).trans rfl; have hfB4_0 := bF_ B4.out 0; have hcB4_1 : w4.cell? ⟨g4, 1, none⟩ = some (.slice none 0 0) := (bkC B4.out 1).trans rfl; have hfB4_1 := bF_ B4.out 1; have hcB4_2 : w4.cell? ⟨g4, 2, none⟩ = some (.bool false) := (bkC B4.out 2).trans rfl; have hfB4_2 := bF_ B4.out 2; have hcB4_3 : w4.cell? ⟨g4, 3, none⟩ = some (.slice none 0 0) := (bkC B4.out 3).trans rfl; have hfB4_3 := bF_ B4.out 3) | ((with_reducible refine gate_callee (f := 101) rfl ?_); refine goesL_ (some 21) rfl rfl Try.func101 (by kernel_rfl) rfl #[.bool false, .slice Ag g.length cg] rfl (by (try simp only [List.map_toArray, List.map_cons, List.map_nil]); first | done | rfl) ?_; (with_reducible refine (rWh.calls k false _ _ g wn wd _ (Kd.V_reads' RV.out).2.2 (Kd.V_reads' RV.out).2.1 G2.out).mono ?_); rintro e w5 ⟨vw, rfl, hn0,  hb⟩; refine ⟨_, rfl, ?_⟩; have RW := Az0.mk (Kd.R_lower hn0 HB.out.size); (try clear hcB2_0); (try clear hfB2_0); (try clear hcB2_1); (try clear hfB2_1); (try clear hcB3_0); (try clear hfB3_0); (try clear hcB3_1); (try clear hfB3_1); (try clear hcB4_0); (try clear hfB4_0); (try clear hcB4_1); (try clear hfB4_1); (try clear hcB4_2); (try clear hfB4_2); (try clear hcB4_3); (try clear hfB4_3); have nB_ := Az0.mk (bP_ HB.out hb); have nB2_ := Az0.mk (bB_ B2.out hb); have nB3_ := Az0.mk (bB_ B3.out hb); have nB4_ := Az0.mk (bB_ B4.out hb); clear HB B2 B3 B4; have HB := nB_; have B2 := nB2_; have B3 := nB3_; have B4 := nB4_; clear nB_ nB2_ nB3_ nB4_; clear hb hn0; obtain ⟨Aw, cw, ew⟩ := Kd.R_slice RW.out; subst ew; have hcB2_0 : w5.cell? ⟨g2, 0, none⟩ = some (.bool a0_0) := (bkC B2.out 0).trans rfl; have hfB2_0 := bF_ B2.out 0; have hcB2_1 : w5.cell? ⟨g2, 1, none⟩ = some (.slice A0_1 l0_1.length c0_1) := (bkC B2.out 1).trans rfl; have hfB2_1 := bF_ B2.out 1; have hcB3_0 : w5.cell? ⟨g3, 0, none⟩ = some (.bool false) := (bkC B3.out 0).trans rfl; have hfB3_0 := bF_ B3.out 0; have hcB3_1 : w5.cell? ⟨g3, 1, none⟩ = some (.slice A1_1 l1_1.length c1_1) := (bkC B3.out 1).trans rfl; have hfB3_1 := bF_ B3.out 1; have hcB4_0 : w5.cell? ⟨g4, 0, none⟩ = some (.bool false) := (bkC B4.out 0).trans rfl; have hfB4_0 := bF_ B4.out 0; have hcB4_1 : w5.cell? ⟨g4, 1, none⟩ = some (.slice none 0 0) := (bkC B4.out 1).trans rfl; have hfB4_1 := bF_ B4.out 1; have hcB4_2 : w5.cell? ⟨g4, 2, none⟩ = some (.bool false) := (bkC B4.out 2).trans rfl; have hfB4_2 := bF_ B4.out 2; have hcB4_3 : w5.cell? ⟨g4, 3, none⟩ = some (.slice none 0 0) := (bkC B4.out 3).trans rfl; have hfB4_3 := bF_ B4.out 3) | ((with_reducible refine gD_ (N := 5) rfl ?_); refine bE_ ?hg (N := 5) ?hd (cs := #[.bool false, .slice none 0 0]) (t := 75) ?hr ?_; (case hd => rfl); (case hg => rfl); (case hr => first | (go_simp; done) | (go_simp; rfl)); intro g5 hg w6 hbox hb; have GB5 := Az0.mk (by rw [hg]; exact HB.out.size : w.heap.size ≤ g5); have NB2B5 := Az0.mk (by rw [hg]; exact Nat.ne_of_lt (bL_ B2.out) : g2 ≠ g5); have NB3B5 := Az0.mk (by rw [hg]; exact Nat.ne_of_lt (bL_ B3.out) : g3 ≠ g5); have NB4B5 := Az0.mk (by rw [hg]; exact Nat.ne_of_lt (bL_ B4.out) : g4 ≠ g5); (try clear hcB2_0); (try clear hfB2_0); (try clear hcB2_1); (try clear hfB2_1); (try clear hcB3_0); (try clear hfB3_0); (try clear hcB3_1); (try clear hfB3_1); (try clear hcB4_0); (try clear hfB4_0); (try clear hcB4_1); (try clear hfB4_1); (try clear hcB4_2); (try clear hfB4_2); (try clear hcB4_3); (try clear hfB4_3); have nB_ := Az0.mk (bP_ HB.out hb); have nB2_ := Az0.mk (bB_ B2.out hb); have nB3_ := Az0.mk (bB_ B3.out hb); have nB4_ := Az0.mk (bB_ B4.out hb); have nRW_ := Az0.mk (Kd.rW_ RW.out hb); clear HB B2 B3 B4 RW; have HB := nB_; have B2 := nB2_; have B3 := nB3_; have B4 := nB4_; have RW := nRW_; clear nB_ nB2_ nB3_ nB4_ nRW_; have B5 := Az0.mk hbox; clear hbox hb hg; have hcB2_0 : w6.cell? ⟨g2, 0, none⟩ = some (.bool a0_0) := (bkC B2.out 0).trans rfl; have hfB2_0 := bF_ B2.out 0; have hcB2_1 : w6.cell? ⟨g2, 1, none⟩ = some (.slice A0_1 l0_1.length c0_1) := (bkC B2.out 1).trans rfl; have hfB2_1 := bF_ B2.out 1; have hcB3_0 : w6.cell? ⟨g3, 0, none⟩ = some (.bool false) := (bkC B3.out 0).trans rfl; have hfB3_0 := bF_ B3.out 0; have hcB3_1 : w6.cell? ⟨g3, 1, none⟩ = some (.slice A1_1 l1_1.length c1_1) := (bkC B3.out 1).trans rfl; have hfB3_1 := bF_ B3.out 1; have hcB4_0 : w6.cell? ⟨g4, 0, none⟩ = some (.bool false) := (bkC B4.out 0).trans rfl; have hfB4_0 := bF_ B4.out 0; have hcB4_1 : w6.cell? ⟨g4, 1, none⟩ = some (.slice none 0 0) := (bkC B4.out 1).trans rfl; have hfB4_1 := bF_ B4.out 1; have hcB4_2 : w6.cell? ⟨g4, 2, none⟩ = some (.bool false) := (bkC B4.out 2).trans rfl; have hfB4_2 := bF_ B4.out 2; have hcB4_3 : w6.cell? ⟨g4, 3, none⟩ = some (.slice none 0 0) := (bkC B4.out 3).trans rfl; have hfB4_3 := bF_ B4.out 3; have hcB5_0 : w6.cell? ⟨g5, 0, none⟩ = some (.bool false) := (bkC B5.out 0).trans rfl; have hfB5_0 := bF_ B5.out 0; have hcB5_1 : w6.cell? ⟨g5, 1, none⟩ = some (.slice none 0 0) := (bkC B5.out 1).trans rfl; have hfB5_1 := bF_ B5.out 1) | ((with_reducible refine gate_store (t := 75) (p := 5) rfl ?_); refine store_event (t := 75) (p := 5) (v := ?vo_w7) (w1 := ?ww_w7) ?hg ?ho ?hn ?hr ?_; (case ho => rfl); (case hg => rfl); (case hn => rfl); (case hr => go_simp; rfl); intro w7 hw; have hp_ := put2 B5.out (v0 := .bool wn) (v1 := .slice Aw wd.length cw); rw [← hw] at hp_; clear hw; (try clear hcB2_0); (try clear hfB2_0); (try clear hcB2_1); (try clear hfB2_1); (try clear hcB3_0); (try clear hfB3_0); (try clear hcB3_1); (try clear hfB3_1); (try clear hcB4_0); (try clear hfB4_0); (try clear hcB4_1); (try clear hfB4_1); (try clear hcB4_2); (try clear hfB4_2); (try clear hcB4_3); (try clear hfB4_3); (try clear hcB5_0); (try clear hfB5_0); (try clear hcB5_1); (try clear hfB5_1); have nB_ := Az0.mk (hp_.2.below HB.out GB5.out); have nB2_ := Az0.mk (hp_.2.keep B2.out NB2B5.out); have nB3_ := Az0.mk (hp_.2.keep B3.out NB3B5.out); have nB4_ := Az0.mk (hp_.2.keep B4.out NB4B5.out); have nRW_ := Az0.mk (hp_.2.row B5.out (by decide) RW.out); have nB5_ := Az0.mk hp_.1; clear hp_; clear HB B2 B3 B4 B5 RW; have HB := nB_; have B2 := nB2_; have B3 := nB3_; have B4 := nB4_; have B5 := nB5_; have RW := nRW_; clear nB_ nB2_ nB3_ nB4_ nB5_ nRW_; have hcB2_0 : w7.cell? ⟨g2, 0, none⟩ = some (.bool a0_0) := (bkC B2.out 0).trans rfl; have hfB2_0 := bF_ B2.out 0; have hcB2_1 : w7.cell? ⟨g2, 1, none⟩ = some (.slice A0_1 l0_1.length c0_1) := (bkC B2.out 1).trans rfl; have hfB2_1 := bF_ B2.out 1; have hcB3_0 : w7.cell? ⟨g3, 0, none⟩ = some (.bool false) := (bkC B3.out 0).trans rfl; have hfB3_0 := bF_ B3.out 0; have hcB3_1 : w7.cell? ⟨g3, 1, none⟩ = some (.slice A1_1 l1_1.length c1_1) := (bkC B3.out 1).trans rfl; have hfB3_1 := bF_ B3.out 1; have hcB4_0 : w7.cell? ⟨g4, 0, none⟩ = some (.bool false) := (bkC B4.out 0).trans rfl; have hfB4_0 := bF_ B4.out 0; have hcB4_1 : w7.cell? ⟨g4, 1, none⟩ = some (.slice none 0 0) := (bkC B4.out 1).trans rfl; have hfB4_1 := bF_ B4.out 1; have hcB4_2 : w7.cell? ⟨g4, 2, none⟩ = some (.bool false) := (bkC B4.out 2).trans rfl; have hfB4_2 := bF_ B4.out 2; have hcB4_3 : w7.cell? ⟨g4, 3, none⟩ = some (.slice none 0 0) := (bkC B4.out 3).trans rfl; have hfB4_3 := bF_ B4.out 3; have hcB5_0 : w7.cell? ⟨g5, 0, none⟩ = some (.bool wn) := (bkC B5.out 0).trans rfl; have hfB5_0 := bF_ B5.out 0; have hcB5_1 : w7.cell? ⟨g5, 1, none⟩ = some (.slice Aw wd.length cw) := (bkC B5.out 1).trans rfl; have hfB5_1 := bF_ B5.out 1) | ((with_reducible refine gate_callee (f := 103) rfl ?_); refine goesL_ (some 25) rfl rfl Try.func103 (by kernel_rfl) rfl #[.agg #[.bool a0_0, .slice A0_1 l0_1.length c0_1], .agg #[.bool wn, .slice Aw wd.length cw]] rfl (by (try simp only [List.map_toArray, List.map_cons, List.map_nil]); first | done | rfl) ?_; (with_reducible refine (trishawref01_Over.calls k a0_0 _ _ l0_1 wn _ _ wd x1 x2 x3 x4 _ (Kd.C_below HR0.out HB.out) HC0.out (Kd.R_reads' RW.out).2.2 (Kd.R_reads' RW.out).2.1 G3.out).mono ?_); rintro e w8 ⟨va, va2, rfl, hn0, hn1,  hb⟩; refine ⟨_, rfl, ?_⟩; have RA := Az0.mk (Kd.rM_ (Kd.R_lower hn0 HB.out.size) (fun _ _ => trivial)); have RA2 := Az0.mk (Kd.rM_ (Kd.R_lower hn1 HB.out.size) (fun _ _ => trivial)); (try clear hcB2_0); (try clear hfB2_0); (try clear hcB2_1); (try clear hfB2_1); (try clear hcB3_0); (try clear hfB3_0); (try clear hcB3_1); (try clear hfB3_1); (try clear hcB4_0); (try clear hfB4_0); (try clear hcB4_1); (try clear hfB4_1); (try clear hcB4_2); (try clear hfB4_2); (try clear hcB4_3); (try clear hfB4_3); (try clear hcB5_0); (try clear hfB5_0); (try clear hcB5_1); (try clear hfB5_1); have nB_ := Az0.mk (bP_ HB.out hb); have nB2_ := Az0.mk (bB_ B2.out hb); have nB3_ := Az0.mk (bB_ B3.out hb); have nB4_ := Az0.mk (bB_ B4.out hb); have nB5_ := Az0.mk (bB_ B5.out hb); have nRW_ := Az0.mk (Kd.rW_ RW.out hb); clear HB B2 B3 B4 B5 RW; have HB := nB_; have B2 := nB2_; have B3 := nB3_; have B4 := nB4_; have B5 := nB5_; have RW := nRW_; clear nB_ nB2_ nB3_ nB4_ nB5_ nRW_; clear hb hn0 hn1; obtain ⟨Aa, ca, ea⟩ := Kd.R_slice RA.out; subst ea; obtain ⟨Aa2, ca2, ea2⟩ := Kd.R_slice RA2.out; subst ea2; have hcB2_0 : w8.cell? ⟨g2, 0, none⟩ = some (.bool a0_0) := (bkC B2.out 0).trans rfl; have hfB2_0 := bF_ B2.out 0; have hcB2_1 : w8.cell? ⟨g2, 1, none⟩ = some (.slice A0_1 l0_1.length c0_1) := (bkC B2.out 1).trans rfl; have hfB2_1 := bF_ B2.out 1; have hcB3_0 : w8.cell? ⟨g3, 0, none⟩ = some (.bool false) := (bkC B3.out 0).trans rfl; have hfB3_0 := bF_ B3.out 0; have hcB3_1 : w8.cell? ⟨g3, 1, none⟩ = some (.slice A1_1 l1_1.length c1_1) := (bkC B3.out 1).trans rfl; have hfB3_1 := bF_ B3.out 1; have hcB4_0 : w8.cell? ⟨g4, 0, none⟩ = some (.bool false) := (bkC B4.out 0).trans rfl; have hfB4_0 := bF_ B4.out 0; have hcB4_1 : w8.cell? ⟨g4, 1, none⟩ = some (.slice none 0 0) := (bkC B4.out 1).trans rfl; have hfB4_1 := bF_ B4.out 1; have hcB4_2 : w8.cell? ⟨g4, 2, none⟩ = some (.bool false) := (bkC B4.out 2).trans rfl; have hfB4_2 := bF_ B4.out 2; have hcB4_3 : w8.cell? ⟨g4, 3, none⟩ = some (.slice none 0 0) := (bkC B4.out 3).trans rfl; have hfB4_3 := bF_ B4.out 3; have hcB5_0 : w8.cell? ⟨g5, 0, none⟩ = some (.bool wn) := (bkC B5.out 0).trans rfl; have hfB5_0 := bF_ B5.out 0; have hcB5_1 : w8.cell? ⟨g5, 1, none⟩ = some (.slice Aw wd.length cw) := (bkC B5.out 1).trans rfl; have hfB5_1 := bF_ B5.out 1; (try clear hcB2_0); (try clear hfB2_0); (try clear hcB2_1); (try clear hfB2_1); clear B2) | ((with_reducible refine gD_ (N := 6) rfl ?_); refine bE_ ?hg (N := 6) ?hd (cs := #[.bool false, .slice none 0 0]) (t := 75) ?hr ?_; (case hd => rfl); (case hg => rfl); (case hr => first | (go_simp; done) | (go_simp; rfl)); intro g6 hg w9 hbox hb; have GB6 := Az0.mk (by rw [hg]; exact HB.out.size : w.heap.size ≤ g6); have NB3B6 := Az0.mk (by rw [hg]; exact Nat.ne_of_lt (bL_ B3.out) : g3 ≠ g6); have NB4B6 := Az0.mk (by rw [hg]; exact Nat.ne_of_lt (bL_ B4.out) : g4 ≠ g6); have NB5B6 := Az0.mk (by rw [hg]; exact Nat.ne_of_lt (bL_ B5.out) : g5 ≠ g6); (try clear hcB3_0); (try clear hfB3_0); (try clear hcB3_1); (try clear hfB3_1); (try clear hcB4_0); (try clear hfB4_0); (try clear hcB4_1); (try clear hfB4_1); (try clear hcB4_2); (try clear hfB4_2); (try clear hcB4_3); (try clear hfB4_3); (try clear hcB5_0); (try clear hfB5_0); (try clear hcB5_1); (try clear hfB5_1); have nB_ := Az0.mk (bP_ HB.out hb); have nB3_ := Az0.mk (bB_ B3.out hb); have nB4_ := Az0.mk (bB_ B4.out hb); have nB5_ := Az0.mk (bB_ B5.out hb); have nRW_ := Az0.mk (Kd.rW_ RW.out hb); have nRA_ := Az0.mk (Kd.rW_ RA.out hb); have nRA2_ := Az0.mk (Kd.rW_ RA2.out hb); clear HB B3 B4 B5 RW RA RA2; have HB := nB_; have B3 := nB3_; have B4 := nB4_; have B5 := nB5_; have RW := nRW_; have RA := nRA_; have RA2 := nRA2_; clear nB_ nB3_ nB4_ nB5_ nRW_ nRA_ nRA2_; have B6 := Az0.mk hbox; clear hbox hb hg; have hcB3_0 : w9.cell? ⟨g3, 0, none⟩ = some (.bool false) := (bkC B3.out 0).trans rfl; have hfB3_0 := bF_ B3.out 0; have hcB3_1 : w9.cell? ⟨g3, 1, none⟩ = some (.slice A1_1 l1_1.length c1_1) := (bkC B3.out 1).trans rfl; have hfB3_1 := bF_ B3.out 1; have hcB4_0 : w9.cell? ⟨g4, 0, none⟩ = some (.bool false) := (bkC B4.out 0).trans rfl; have hfB4_0 := bF_ B4.out 0; have hcB4_1 : w9.cell? ⟨g4, 1, none⟩ = some (.slice none 0 0) := (bkC B4.out 1).trans rfl; have hfB4_1 := bF_ B4.out 1; have hcB4_2 : w9.cell? ⟨g4, 2, none⟩ = some (.bool false) := (bkC B4.out 2).trans rfl; have hfB4_2 := bF_ B4.out 2; have hcB4_3 : w9.cell? ⟨g4, 3, none⟩ = some (.slice none 0 0) := (bkC B4.out 3).trans rfl; have hfB4_3 := bF_ B4.out 3; have hcB5_0 : w9.cell? ⟨g5, 0, none⟩ = some (.bool wn) := (bkC B5.out 0).trans rfl; have hfB5_0 := bF_ B5.out 0; have hcB5_1 : w9.cell? ⟨g5, 1, none⟩ = some (.slice Aw wd.length cw) := (bkC B5.out 1).trans rfl; have hfB5_1 := bF_ B5.out 1; have hcB6_0 : w9.cell? ⟨g6, 0, none⟩ = some (.bool false) := (bkC B6.out 0).trans rfl; have hfB6_0 := bF_ B6.out 0; have hcB6_1 : w9.cell? ⟨g6, 1, none⟩ = some (.slice none 0 0) := (bkC B6.out 1).trans rfl; have hfB6_1 := bF_ B6.out 1) | ((with_reducible refine gD_ (N := 7) rfl ?_); refine bE_ ?hg (N := 7) ?hd (cs := #[.bool false, .slice none 0 0]) (t := 75) ?hr ?_; (case hd => rfl); (case hg => rfl); (case hr => first | (go_simp; done) | (go_simp; rfl)); intro g7 hg w10 hbox hb; have GB7 := Az0.mk (by rw [hg]; exact HB.out.size : w.heap.size ≤ g7); have NB3B7 := Az0.mk (by rw [hg]; exact Nat.ne_of_lt (bL_ B3.out) : g3 ≠ g7); have NB4B7 := Az0.mk (by rw [hg]; exact Nat.ne_of_lt (bL_ B4.out) : g4 ≠ g7); have NB5B7 := Az0.mk (by rw [hg]; exact Nat.ne_of_lt (bL_ B5.out) : g5 ≠ g7); have NB6B7 := Az0.mk (by rw [hg]; exact Nat.ne_of_lt (bL_ B6.out) : g6 ≠ g7); (try clear hcB3_0); (try clear hfB3_0); (try clear hcB3_1); (try clear hfB3_1); (try clear hcB4_0); (try clear hfB4_0); (try clear hcB4_1); (try clear hfB4_1); (try clear hcB4_2); (try clear hfB4_2); (try clear hcB4_3); (try clear hfB4_3); (try clear hcB5_0); (try clear hfB5_0); (try clear hcB5_1); (try clear hfB5_1); (try clear hcB6_0); (try clear hfB6_0); (try clear hcB6_1); (try clear hfB6_1); have nB_ := Az0.mk (bP_ HB.out hb); have nB3_ := Az0.mk (bB_ B3.out hb); have nB4_ := Az0.mk (bB_ B4.out hb); have nB5_ := Az0.mk (bB_ B5.out hb); have nB6_ := Az0.mk (bB_ B6.out hb); have nRW_ := Az0.mk (Kd.rW_ RW.out hb); have nRA_ := Az0.mk (Kd.rW_ RA.out hb); have nRA2_ := Az0.mk (Kd.rW_ RA2.out hb); clear HB B3 B4 B5 B6 RW RA RA2; have HB := nB_; have B3 := nB3_; have B4 := nB4_; have B5 := nB5_; have B6 := nB6_; have RW := nRW_; have RA := nRA_; have RA2 := nRA2_; clear nB_ nB3_ nB4_ nB5_ nB6_ nRW_ nRA_ nRA2_; have B7 := Az0.mk hbox; clear hbox hb hg; have hcB3_0 : w10.cell? ⟨g3, 0, none⟩ = some (.bool false) := (bkC B3.out 0).trans rfl; have hfB3_0 := bF_ B3.out 0; have hcB3_1 : w10.cell? ⟨g3, 1, none⟩ = some (.slice A1_1 l1_1.length c1_1) := (bkC B3.out 1).trans rfl; have hfB3_1 := bF_ B3.out 1; have hcB4_0 : w10.cell? ⟨g4, 0, none⟩ = some (.bool false) := (bkC B4.out 0).trans rfl; have hfB4_0 := bF_ B4.out 0; have hcB4_1 : w10.cell? ⟨g4, 1, none⟩ = some (.slice none 0 0) := (bkC B4.out 1).trans rfl; have hfB4_1 := bF_ B4.out 1; have hcB4_2 : w10.cell? ⟨g4, 2, none⟩ = some (.bool false) := (bkC B4.out 2).trans rfl; have hfB4_2 := bF_ B4.out 2; have hcB4_3 : w10.cell? ⟨g4, 3, none⟩ = some (.slice none 0 0) := (bkC B4.out 3).trans rfl; have hfB4_3 := bF_ B4.out 3; have hcB5_0 : w10.cell? ⟨g5, 0, none⟩ = some (.bool wn) := (bkC B5.out 0).trans rfl; have hfB5_0 := bF_ B5.out 0; have hcB5_1 : w10.cell? ⟨g5, 1, none⟩ = some (.slice Aw wd.length cw) := (bkC B5.out 1).trans rfl; have hfB5_1 := bF_ B5.out 1; have hcB6_0 : w10.cell? ⟨g6, 0, none⟩ = some (.bool false) := (bkC B6.out 0).trans rfl; have hfB6_0 := bF_ B6.out 0; have hcB6_1 : w10.cell? ⟨g6, 1, none⟩ = some (.slice none 0 0) := (bkC B6.out 1).trans rfl; have hfB6_1 := bF_ B6.out 1; have hcB7_0 : w10.cell? ⟨g7, 0, none⟩ = some (.bool false) := (bkC B7.out 0).trans rfl; have hfB7_0 := bF_ B7.out 0; have hcB7_1 : w10.cell? ⟨g7, 1, none⟩ = some (.slice none 0 0) := (bkC B7.out 1).trans rfl; have hfB7_1 := bF_ B7.out 1) | ((with_reducible refine gate_store (t := 75) (p := 6) rfl ?_); refine store_event (t := 75) (p := 6) (v := ?vo_w11) (w1 := ?ww_w11) ?hg ?ho ?hn ?hr ?_; (case ho => rfl); (case hg => rfl); (case hn => rfl); (case hr => go_simp; rfl); intro w11 hw; have hp_ := put2 B6.out (v0 := .bool x1) (v1 := .slice Aa x2.length ca); rw [← hw] at hp_; clear hw; (try clear hcB3_0); (try clear hfB3_0); (try clear hcB3_1); (try clear hfB3_1); (try clear hcB4_0); (try clear hfB4_0); (try clear hcB4_1); (try clear hfB4_1); (try clear hcB4_2); (try clear hfB4_2); (try clear hcB4_3); (try clear hfB4_3); (try clear hcB5_0); (try clear hfB5_0); (try clear hcB5_1); (try clear hfB5_1); (try clear hcB6_0); (try clear hfB6_0); (try clear hcB6_1); (try clear hfB6_1); (try clear hcB7_0); (try clear hfB7_0); (try clear hcB7_1); (try clear hfB7_1); have nB_ := Az0.mk (hp_.2.below HB.out GB6.out); have nB3_ := Az0.mk (hp_.2.keep B3.out NB3B6.out); have nB4_ := Az0.mk (hp_.2.keep B4.out NB4B6.out); have nB5_ := Az0.mk (hp_.2.keep B5.out NB5B6.out); have nB7_ := Az0.mk (hp_.2.keep B7.out (Ne.symm NB6B7.out)); have nRW_ := Az0.mk (hp_.2.row B6.out (by decide) RW.out); have nRA_ := Az0.mk (hp_.2.row B6.out (by decide) RA.out); have nRA2_ := Az0.mk (hp_.2.row B6.out (by decide) RA2.out); have nB6_ := Az0.mk hp_.1; clear hp_; clear HB B3 B4 B5 B6 B7 RW RA RA2; have HB := nB_; have B3 := nB3_; have B4 := nB4_; have B5 := nB5_; have B6 := nB6_; have B7 := nB7_; have RW := nRW_; have RA := nRA_; have RA2 := nRA2_; clear nB_ nB3_ nB4_ nB5_ nB6_ nB7_ nRW_ nRA_ nRA2_; have hcB3_0 : w11.cell? ⟨g3, 0, none⟩ = some (.bool false) := (bkC B3.out 0).trans rfl; have hfB3_0 := bF_ B3.out 0; have hcB3_1 : w11.cell? ⟨g3, 1, none⟩ = some (.slice A1_1 l1_1.length c1_1) := (bkC B3.out 1).trans rfl; have hfB3_1 := bF_ B3.out 1; have hcB4_0 : w11.cell? ⟨g4, 0, none⟩ = some (.bool false) := (bkC B4.out 0).trans rfl; have hfB4_0 := bF_ B4.out 0; have hcB4_1 : w11.cell? ⟨g4, 1, none⟩ = some (.slice none 0 0) := (bkC B4.out 1).trans rfl; have hfB4_1 := bF_ B4.out 1; have hcB4_2 : w11.cell? ⟨g4, 2, none⟩ = some (.bool false) := (bkC B4.out 2).trans rfl; have hfB4_2 := bF_ B4.out 2; have hcB4_3 : w11.cell? ⟨g4, 3, none⟩ = some (.slice none 0 0) := (bkC B4.out 3).trans rfl; have hfB4_3 := bF_ B4.out 3; have hcB5_0 : w11.cell? ⟨g5, 0, none⟩ = some (.bool wn) := (bkC B5.out 0).trans rfl; have hfB5_0 := bF_ B5.out 0; have hcB5_1 : w11.cell? ⟨g5, 1, none⟩ = some (.slice Aw wd.length cw) := (bkC B5.out 1).trans rfl; have hfB5_1 := bF_ B5.out 1; have hcB6_0 : w11.cell? ⟨g6, 0, none⟩ = some (.bool x1) := (bkC B6.out 0).trans rfl; have hfB6_0 := bF_ B6.out 0; have hcB6_1 : w11.cell? ⟨g6, 1, none⟩ = some (.slice Aa x2.length ca) := (bkC B6.out 1).trans rfl; have hfB6_1 := bF_ B6.out 1; have hcB7_0 : w11.cell? ⟨g7, 0, none⟩ = some (.bool false) := (bkC B7.out 0).trans rfl; have hfB7_0 := bF_ B7.out 0; have hcB7_1 : w11.cell? ⟨g7, 1, none⟩ = some (.slice none 0 0) := (bkC B7.out 1).trans rfl; have hfB7_1 := bF_ B7.out 1) | ((with_reducible refine gate_store (t := 75) (p := 7) rfl ?_); refine store_event (t := 75) (p := 7) (v := ?vo_w12) (w1 := ?ww_w12) ?hg ?ho ?hn ?hr ?_; (case ho => rfl); (case hg => rfl); (case hn => rfl); (case hr => go_simp; rfl); intro w12 hw; have hp_ := put2 B7.out (v0 := .bool x3) (v1 := .slice Aa2 x4.length ca2); rw [← hw] at hp_; clear hw; (try clear hcB3_0); (try clear hfB3_0); (try clear hcB3_1); (try clear hfB3_1); (try clear hcB4_0); (try clear hfB4_0); (try clear hcB4_1); (try clear hfB4_1); (try clear hcB4_2); (try clear hfB4_2); (try clear hcB4_3); (try clear hfB4_3); (try clear hcB5_0); (try clear hfB5_0); (try clear hcB5_1); (try clear hfB5_1); (try clear hcB6_0); (try clear hfB6_0); (try clear hcB6_1); (try clear hfB6_1); (try clear hcB7_0); (try clear hfB7_0); (try clear hcB7_1); (try clear hfB7_1); have nB_ := Az0.mk (hp_.2.below HB.out GB7.out); have nB3_ := Az0.mk (hp_.2.keep B3.out NB3B7.out); have nB4_ := Az0.mk (hp_.2.keep B4.out NB4B7.out); have nB5_ := Az0.mk (hp_.2.keep B5.out NB5B7.out); have nB6_ := Az0.mk (hp_.2.keep B6.out NB6B7.out); have nRW_ := Az0.mk (hp_.2.row B7.out (by decide) RW.out); have nRA_ := Az0.mk (hp_.2.row B7.out (by decide) RA.out); have nRA2_ := Az0.mk (hp_.2.row B7.out (by decide) RA2.out); have nB7_ := Az0.mk hp_.1; clear hp_; clear HB B3 B4 B5 B6 B7 RW RA RA2; have HB := nB_; have B3 := nB3_; have B4 := nB4_; have B5 := nB5_; have B6 := nB6_; have B7 := nB7_; have RW := nRW_; have RA := nRA_; have RA2 := nRA2_; clear nB_ nB3_ nB4_ nB5_ nB6_ nB7_ nRW_ nRA_ nRA2_; have hcB3_0 : w12.cell? ⟨g3, 0, none⟩ = some (.bool false) := (bkC B3.out 0).trans rfl; have hfB3_0 := bF_ B3.out 0; have hcB3_1 : w12.cell? ⟨g3, 1, none⟩ = some (.slice A1_1 l1_1.length c1_1) := (bkC B3.out 1).trans rfl; have hfB3_1 := bF_ B3.out 1; have hcB4_0 : w12.cell? ⟨g4, 0, none⟩ = some (.bool false) := (bkC B4.out 0).trans rfl; have hfB4_0 := bF_ B4.out 0; have hcB4_1 : w12.cell? ⟨g4, 1, none⟩ = some (.slice none 0 0) := (bkC B4.out 1).trans rfl; have hfB4_1 := bF_ B4.out 1; have hcB4_2 : w12.cell? ⟨g4, 2, none⟩ = some (.bool false) := (bkC B4.out 2).trans rfl; have hfB4_2 := bF_ B4.out 2; have hcB4_3 : w12.cell? ⟨g4, 3, none⟩ = some (.slice none 0 0) := (bkC B4.out 3).trans rfl; have hfB4_3 := bF_ B4.out 3; have hcB5_0 : w12.cell? ⟨g5, 0, none⟩ = some (.bool wn) := (bkC B5.out 0).trans rfl; have hfB5_0 := bF_ B5.out 0; have hcB5_1 : w12.cell? ⟨g5, 1, none⟩ = some (.slice Aw wd.length cw) := (bkC B5.out 1).trans rfl; have hfB5_1 := bF_ B5.out 1; have hcB6_0 : w12.cell? ⟨g6, 0, none⟩ = some (.bool x1) := (bkC B6.out 0).trans rfl; have hfB6_0 := bF_ B6.out 0; have hcB6_1 : w12.cell? ⟨g6, 1, none⟩ = some (.slice Aa x2.length ca) := (bkC B6.out 1).trans rfl; have hfB6_1 := bF_ B6.out 1; have hcB7_0 : w12.cell? ⟨g7, 0, none⟩ = some (.bool x3) := (bkC B7.out 0).trans rfl; have hfB7_0 := bF_ B7.out 0; have hcB7_1 : w12.cell? ⟨g7, 1, none⟩ = some (.slice Aa2 x4.length ca2) := (bkC B7.out 1).trans rfl; have hfB7_1 := bF_ B7.out 1; (try clear hcB7_0); (try clear hfB7_0); (try clear hcB7_1); (try clear hfB7_1); clear B7; clear RA2) | ((with_reducible refine gate_callee (f := 103) rfl ?_); refine goesL_ (some 31) rfl rfl Try.func103 (by kernel_rfl) rfl #[.agg #[.bool false, .slice A1_1 l1_1.length c1_1], .agg #[.bool wn, .slice Aw wd.length cw]] rfl (by (try simp only [List.map_toArray, List.map_cons, List.map_nil]); first | done | rfl) ?_; (with_reducible refine (trishawref01_Over.calls k false _ _ l1_1 wn _ _ wd y1 y2 y3 y4 _ (Kd.C_below HR1.out HB.out) HC1.out (Kd.R_reads' RW.out).2.2 (Kd.R_reads' RW.out).2.1 G4.out).mono ?_); rintro e w13 ⟨vb, vb2, rfl, hn0, hn1,  hb⟩; refine ⟨_, rfl, ?_⟩; have RB := Az0.mk (Kd.rM_ (Kd.R_lower hn0 HB.out.size) (fun _ _ => trivial)); have RB2 := Az0.mk (Kd.rM_ (Kd.R_lower hn1 HB.out.size) (fun _ _ => trivial)); have NE := Az0.mk (fun k_ (h1_ : (Value.slice Aa x2.length ca).ownBlock = some k_) (h2_ : vb.ownBlock = some k_) => Nat.lt_irrefl _ (Nat.lt_of_lt_of_le (Kd.R_lt RA.out k_ h1_) (Kd.rB_ hn0 k_ h2_))); (try clear hcB3_0); (try clear hfB3_0); (try clear hcB3_1); (try clear hfB3_1); (try clear hcB4_0); (try clear hfB4_0); (try clear hcB4_1); (try clear hfB4_1); (try clear hcB4_2); (try clear hfB4_2); (try clear hcB4_3); (try clear hfB4_3); (try clear hcB5_0); (try clear hfB5_0); (try clear hcB5_1); (try clear hfB5_1); (try clear hcB6_0); (try clear hfB6_0); (try clear hcB6_1); (try clear hfB6_1); have nB_ := Az0.mk (bP_ HB.out hb); have nB3_ := Az0.mk (bB_ B3.out hb); have nB4_ := Az0.mk (bB_ B4.out hb); have nB5_ := Az0.mk (bB_ B5.out hb); have nB6_ := Az0.mk (bB_ B6.out hb); have nRW_ := Az0.mk (Kd.rW_ RW.out hb); have nRA_ := Az0.mk (Kd.rW_ RA.out hb); clear HB B3 B4 B5 B6 RW RA; have HB := nB_; have B3 := nB3_; have B4 := nB4_; have B5 := nB5_; have B6 := nB6_; have RW := nRW_; have RA := nRA_; clear nB_ nB3_ nB4_ nB5_ nB6_ nRW_ nRA_; clear hb hn0 hn1; obtain ⟨Ab, cb, eb⟩ := Kd.R_slice RB.out; subst eb; obtain ⟨Ab2, cb2, eb2⟩ := Kd.R_slice RB2.out; subst eb2; have hcB3_0 : w13.cell? ⟨g3, 0, none⟩ = some (.bool false) := (bkC B3.out 0).trans rfl; have hfB3_0 := bF_ B3.out 0; have hcB3_1 : w13.cell? ⟨g3, 1, none⟩ = some (.slice A1_1 l1_1.length c1_1) := (bkC B3.out 1).trans rfl; have hfB3_1 := bF_ B3.out 1; have hcB4_0 : w13.cell? ⟨g4, 0, none⟩ = some (.bool false) := (bkC B4.out 0).trans rfl; have hfB4_0 := bF_ B4.out 0; have hcB4_1 : w13.cell? ⟨g4, 1, none⟩ = some (.slice none 0 0) := (bkC B4.out 1).trans rfl; have hfB4_1 := bF_ B4.out 1; have hcB4_2 : w13.cell? ⟨g4, 2, none⟩ = some (.bool false) := (bkC B4.out 2).trans rfl; have hfB4_2 := bF_ B4.out 2; have hcB4_3 : w13.cell? ⟨g4, 3, none⟩ = some (.slice none 0 0) := (bkC B4.out 3).trans rfl; have hfB4_3 := bF_ B4.out 3; have hcB5_0 : w13.cell? ⟨g5, 0, none⟩ = some (.bool wn) := (bkC B5.out 0).trans rfl; have hfB5_0 := bF_ B5.out 0; have hcB5_1 : w13.cell? ⟨g5, 1, none⟩ = some (.slice Aw wd.length cw) := (bkC B5.out 1).trans rfl; have hfB5_1 := bF_ B5.out 1; have hcB6_0 : w13.cell? ⟨g6, 0, none⟩ = some (.bool x1) := (bkC B6.out 0).trans rfl; have hfB6_0 := bF_ B6.out 0; have hcB6_1 : w13.cell? ⟨g6, 1, none⟩ = some (.slice Aa x2.length ca) := (bkC B6.out 1).trans rfl; have hfB6_1 := bF_ B6.out 1; (try clear hcB3_0); (try clear hfB3_0); (try clear hcB3_1); (try clear hfB3_1); clear B3; (try clear hcB5_0); (try clear hfB5_0); (try clear hcB5_1); (try clear hfB5_1); clear B5; clear RW) | ((with_reducible refine gD_ (N := 8) rfl ?_); refine bE_ ?hg (N := 8) ?hd (cs := #[.bool false, .slice none 0 0]) (t := 75) ?hr ?_; (case hd => rfl); (case hg => rfl); (case hr => first | (go_simp; done) | (go_simp; rfl)); intro g8 hg w14 hbox hb; have GB8 := Az0.mk (by rw [hg]; exact HB.out.size : w.heap.size ≤ g8); have NB4B8 := Az0.mk (by rw [hg]; exact Nat.ne_of_lt (bL_ B4.out) : g4 ≠ g8); have NB6B8 := Az0.mk (by rw [hg]; exact Nat.ne_of_lt (bL_ B6.out) : g6 ≠ g8); (try clear hcB4_0); (try clear hfB4_0); (try clear hcB4_1); (try clear hfB4_1); (try clear hcB4_2); (try clear hfB4_2); (try clear hcB4_3); (try clear hfB4_3); (try clear hcB6_0); (try clear hfB6_0); (try clear hcB6_1); (try clear hfB6_1); have nB_ := Az0.mk (bP_ HB.out hb); have nB4_ := Az0.mk (bB_ B4.out hb); have nB6_ := Az0.mk (bB_ B6.out hb); have nRA_ := Az0.mk (Kd.rW_ RA.out hb); have nRB_ := Az0.mk (Kd.rW_ RB.out hb); have nRB2_ := Az0.mk (Kd.rW_ RB2.out hb); clear HB B4 B6 RA RB RB2; have HB := nB_; have B4 := nB4_; have B6 := nB6_; have RA := nRA_; have RB := nRB_; have RB2 := nRB2_; clear nB_ nB4_ nB6_ nRA_ nRB_ nRB2_; have B8 := Az0.mk hbox; clear hbox hb hg; have hcB4_0 : w14.cell? ⟨g4, 0, none⟩ = some (.bool false) := (bkC B4.out 0).trans rfl; have hfB4_0 := bF_ B4.out 0; have hcB4_1 : w14.cell? ⟨g4, 1, none⟩ = some (.slice none 0 0) := (bkC B4.out 1).trans rfl; have hfB4_1 := bF_ B4.out 1; have hcB4_2 : w14.cell? ⟨g4, 2, none⟩ = some (.bool false) := (bkC B4.out 2).trans rfl; have hfB4_2 := bF_ B4.out 2; have hcB4_3 : w14.cell? ⟨g4, 3, none⟩ = some (.slice none 0 0) := (bkC B4.out 3).trans rfl; have hfB4_3 := bF_ B4.out 3; have hcB6_0 : w14.cell? ⟨g6, 0, none⟩ = some (.bool x1) := (bkC B6.out 0).trans rfl; have hfB6_0 := bF_ B6.out 0; have hcB6_1 : w14.cell? ⟨g6, 1, none⟩ = some (.slice Aa x2.length ca) := (bkC B6.out 1).trans rfl; have hfB6_1 := bF_ B6.out 1; have hcB8_0 : w14.cell? ⟨g8, 0, none⟩ = some (.bool false) := (bkC B8.out 0).trans rfl; have hfB8_0 := bF_ B8.out 0; have hcB8_1 : w14.cell? ⟨g8, 1, none⟩ = some (.slice none 0 0) := (bkC B8.out 1).trans rfl; have hfB8_1 := bF_ B8.out 1) | ((with_reducible refine gD_ (N := 9) rfl ?_); refine bE_ ?hg (N := 9) ?hd (cs := #[.bool false, .slice none 0 0]) (t := 75) ?hr ?_; (case hd => rfl); (case hg => rfl); (case hr => first | (go_simp; done) | (go_simp; rfl)); intro g9 hg w15 hbox hb; have GB9 := Az0.mk (by rw [hg]; exact HB.out.size : w.heap.size ≤ g9); have NB4B9 := Az0.mk (by rw [hg]; exact Nat.ne_of_lt (bL_ B4.out) : g4 ≠ g9); have NB6B9 := Az0.mk (by rw [hg]; exact Nat.ne_of_lt (bL_ B6.out) : g6 ≠ g9); have NB8B9 := Az0.mk (by rw [hg]; exact Nat.ne_of_lt (bL_ B8.out) : g8 ≠ g9); (try clear hcB4_0); (try clear hfB4_0); (try clear hcB4_1); (try clear hfB4_1); (try clear hcB4_2); (try clear hfB4_2); (try clear hcB4_3); (try clear hfB4_3); (try clear hcB6_0); (try clear hfB6_0); (try clear hcB6_1); (try clear hfB6_1); (try clear hcB8_0); (try clear hfB8_0); (try clear hcB8_1); (try clear hfB8_1); have nB_ := Az0.mk (bP_ HB.out hb); have nB4_ := Az0.mk (bB_ B4.out hb); have nB6_ := Az0.mk (bB_ B6.out hb); have nB8_ := Az0.mk (bB_ B8.out hb); have nRA_ := Az0.mk (Kd.rW_ RA.out hb); have nRB_ := Az0.mk (Kd.rW_ RB.out hb); have nRB2_ := Az0.mk (Kd.rW_ RB2.out hb); clear HB B4 B6 B8 RA RB RB2; have HB := nB_; have B4 := nB4_; have B6 := nB6_; have B8 := nB8_; have RA := nRA_; have RB := nRB_; have RB2 := nRB2_; clear nB_ nB4_ nB6_ nB8_ nRA_ nRB_ nRB2_; have B9 := Az0.mk hbox; clear hbox hb hg; have hcB4_0 : w15.cell? ⟨g4, 0, none⟩ = some (.bool false) := (bkC B4.out 0).trans rfl; have hfB4_0 := bF_ B4.out 0; have hcB4_1 : w15.cell? ⟨g4, 1, none⟩ = some (.slice none 0 0) := (bkC B4.out 1).trans rfl; have hfB4_1 := bF_ B4.out 1; have hcB4_2 : w15.cell? ⟨g4, 2, none⟩ = some (.bool false) := (bkC B4.out 2).trans rfl; have hfB4_2 := bF_ B4.out 2; have hcB4_3 : w15.cell? ⟨g4, 3, none⟩ = some (.slice none 0 0) := (bkC B4.out 3).trans rfl; have hfB4_3 := bF_ B4.out 3; have hcB6_0 : w15.cell? ⟨g6, 0, none⟩ = some (.bool x1) := (bkC B6.out 0).trans rfl; have hfB6_0 := bF_ B6.out 0; have hcB6_1 : w15.cell? ⟨g6, 1, none⟩ = some (.slice Aa x2.length ca) := (bkC B6.out 1).trans rfl; have hfB6_1 := bF_ B6.out 1; have hcB8_0 : w15.cell? ⟨g8, 0, none⟩ = some (.bool false) := (bkC B8.out 0).trans rfl; have hfB8_0 := bF_ B8.out 0; have hcB8_1 : w15.cell? ⟨g8, 1, none⟩ = some (.slice none 0 0) := (bkC B8.out 1).trans rfl; have hfB8_1 := bF_ B8.out 1; have hcB9_0 : w15.cell? ⟨g9, 0, none⟩ = some (.bool false) := (bkC B9.out 0).trans rfl; have hfB9_0 := bF_ B9.out 0; have hcB9_1 : w15.cell? ⟨g9, 1, none⟩ = some (.slice none 0 0) := (bkC B9.out 1).trans rfl; have hfB9_1 := bF_ B9.out 1) | ((with_reducible refine gate_store (t := 75) (p := 8) rfl ?_); refine store_event (t := 75) (p := 8) (v := ?vo_w16) (w1 := ?ww_w16) ?hg ?ho ?hn ?hr ?_; (case ho => rfl); (case hg => rfl); (case hn => rfl); (case hr => go_simp; rfl); intro w16 hw; have hp_ := put2 B8.out (v0 := .bool y1) (v1 := .slice Ab y2.length cb); rw [← hw] at hp_; clear hw; (try clear hcB4_0); (try clear hfB4_0); (try clear hcB4_1); (try clear hfB4_1); (try clear hcB4_2); (try clear hfB4_2); (try clear hcB4_3); (try clear hfB4_3); (try clear hcB6_0); (try clear hfB6_0); (try clear hcB6_1); (try clear hfB6_1); (try clear hcB8_0); (try clear hfB8_0); (try clear hcB8_1); (try clear hfB8_1); (try clear hcB9_0); (try clear hfB9_0); (try clear hcB9_1); (try clear hfB9_1); have nB_ := Az0.mk (hp_.2.below HB.out GB8.out); have nB4_ := Az0.mk (hp_.2.keep B4.out NB4B8.out); have nB6_ := Az0.mk (hp_.2.keep B6.out NB6B8.out); have nB9_ := Az0.mk (hp_.2.keep B9.out (Ne.symm NB8B9.out)); have nRA_ := Az0.mk (hp_.2.row B8.out (by decide) RA.out); have nRB_ := Az0.mk (hp_.2.row B8.out (by decide) RB.out); have nRB2_ := Az0.mk (hp_.2.row B8.out (by decide) RB2.out); have nB8_ := Az0.mk hp_.1; clear hp_; clear HB B4 B6 B8 B9 RA RB RB2; have HB := nB_; have B4 := nB4_; have B6 := nB6_; have B8 := nB8_; have B9 := nB9_; have RA := nRA_; have RB := nRB_; have RB2 := nRB2_; clear nB_ nB4_ nB6_ nB8_ nB9_ nRA_ nRB_ nRB2_; have hcB4_0 : w16.cell? ⟨g4, 0, none⟩ = some (.bool false) := (bkC B4.out 0).trans rfl; have hfB4_0 := bF_ B4.out 0; have hcB4_1 : w16.cell? ⟨g4, 1, none⟩ = some (.slice none 0 0) := (bkC B4.out 1).trans rfl; have hfB4_1 := bF_ B4.out 1; have hcB4_2 : w16.cell? ⟨g4, 2, none⟩ = some (.bool false) := (bkC B4.out 2).trans rfl; have hfB4_2 := bF_ B4.out 2; have hcB4_3 : w16.cell? ⟨g4, 3, none⟩ = some (.slice none 0 0) := (bkC B4.out 3).trans rfl; have hfB4_3 := bF_ B4.out 3; have hcB6_0 : w16.cell? ⟨g6, 0, none⟩ = some (.bool x1) := (bkC B6.out 0).trans rfl; have hfB6_0 := bF_ B6.out 0; have hcB6_1 : w16.cell? ⟨g6, 1, none⟩ = some (.slice Aa x2.length ca) := (bkC B6.out 1).trans rfl; have hfB6_1 := bF_ B6.out 1; have hcB8_0 : w16.cell? ⟨g8, 0, none⟩ = some (.bool y1) := (bkC B8.out 0).trans rfl; have hfB8_0 := bF_ B8.out 0; have hcB8_1 : w16.cell? ⟨g8, 1, none⟩ = some (.slice Ab y2.length cb) := (bkC B8.out 1).trans rfl; have hfB8_1 := bF_ B8.out 1; have hcB9_0 : w16.cell? ⟨g9, 0, none⟩ = some (.bool false) := (bkC B9.out 0).trans rfl; have hfB9_0 := bF_ B9.out 0; have hcB9_1 : w16.cell? ⟨g9, 1, none⟩ = some (.slice none 0 0) := (bkC B9.out 1).trans rfl; have hfB9_1 := bF_ B9.out 1) | ((with_reducible refine gate_store (t := 75) (p := 9) rfl ?_); refine store_event (t := 75) (p := 9) (v := ?vo_w17) (w1 := ?ww_w17) ?hg ?ho ?hn ?hr ?_; (case ho => rfl); (case hg => rfl); (case hn => rfl); (case hr => go_simp; rfl); intro w17 hw; have hp_ := put2 B9.out (v0 := .bool y3) (v1 := .slice Ab2 y4.length cb2); rw [← hw] at hp_; clear hw; (try clear hcB4_0); (try clear hfB4_0); (try clear hcB4_1); (try clear hfB4_1); (try clear hcB4_2); (try clear hfB4_2); (try clear hcB4_3); (try clear hfB4_3); (try clear hcB6_0); (try clear hfB6_0); (try clear hcB6_1); (try clear hfB6_1); (try clear hcB8_0); (try clear hfB8_0); (try clear hcB8_1); (try clear hfB8_1); (try clear hcB9_0); (try clear hfB9_0); (try clear hcB9_1); (try clear hfB9_1); have nB_ := Az0.mk (hp_.2.below HB.out GB9.out); have nB4_ := Az0.mk (hp_.2.keep B4.out NB4B9.out); have nB6_ := Az0.mk (hp_.2.keep B6.out NB6B9.out); have nB8_ := Az0.mk (hp_.2.keep B8.out NB8B9.out); have nRA_ := Az0.mk (hp_.2.row B9.out (by decide) RA.out); have nRB_ := Az0.mk (hp_.2.row B9.out (by decide) RB.out); have nRB2_ := Az0.mk (hp_.2.row B9.out (by decide) RB2.out); have nB9_ := Az0.mk hp_.1; clear hp_; clear HB B4 B6 B8 B9 RA RB RB2; have HB := nB_; have B4 := nB4_; have B6 := nB6_; have B8 := nB8_; have B9 := nB9_; have RA := nRA_; have RB := nRB_; have RB2 := nRB2_; clear nB_ nB4_ nB6_ nB8_ nB9_ nRA_ nRB_ nRB2_; have hcB4_0 : w17.cell? ⟨g4, 0, none⟩ = some (.bool false) := (bkC B4.out 0).trans rfl; have hfB4_0 := bF_ B4.out 0; have hcB4_1 : w17.cell? ⟨g4, 1, none⟩ = some (.slice none 0 0) := (bkC B4.out 1).trans rfl; have hfB4_1 := bF_ B4.out 1; have hcB4_2 : w17.cell? ⟨g4, 2, none⟩ = some (.bool false) := (bkC B4.out 2).trans rfl; have hfB4_2 := bF_ B4.out 2; have hcB4_3 : w17.cell? ⟨g4, 3, none⟩ = some (.slice none 0 0) := (bkC B4.out 3).trans rfl; have hfB4_3 := bF_ B4.out 3; have hcB6_0 : w17.cell? ⟨g6, 0, none⟩ = some (.bool x1) := (bkC B6.out 0).trans rfl; have hfB6_0 := bF_ B6.out 0; have hcB6_1 : w17.cell? ⟨g6, 1, none⟩ = some (.slice Aa x2.length ca) := (bkC B6.out 1).trans rfl; have hfB6_1 := bF_ B6.out 1; have hcB8_0 : w17.cell? ⟨g8, 0, none⟩ = some (.bool y1) := (bkC B8.out 0).trans rfl; have hfB8_0 := bF_ B8.out 0; have hcB8_1 : w17.cell? ⟨g8, 1, none⟩ = some (.slice Ab y2.length cb) := (bkC B8.out 1).trans rfl; have hfB8_1 := bF_ B8.out 1; have hcB9_0 : w17.cell? ⟨g9, 0, none⟩ = some (.bool y3) := (bkC B9.out 0).trans rfl; have hfB9_0 := bF_ B9.out 0; have hcB9_1 : w17.cell? ⟨g9, 1, none⟩ = some (.slice Ab2 y4.length cb2) := (bkC B9.out 1).trans rfl; have hfB9_1 := bF_ B9.out 1; (try clear hcB9_0); (try clear hfB9_0); (try clear hcB9_1); (try clear hfB9_1); clear B9; clear RB2) | ((with_reducible refine gate_store (t := 77) (p := 4) rfl ?_); refine store_event (t := 77) (p := 4) (v := ?vo_w18) (w1 := ?ww_w18) ?hg ?ho ?hn ?hr ?_; (case ho => rfl); (case hg => rfl); (case hn => rfl); (case hr => go_simp; rfl); intro w18 hw; have hp_ := put4 B4.out (v0 := .bool x1) (v1 := .slice Aa x2.length ca) (v2 := .bool y1) (v3 := .slice Ab y2.length cb); rw [← hw] at hp_; clear hw; (try clear hcB4_0); (try clear hfB4_0); (try clear hcB4_1); (try clear hfB4_1); (try clear hcB4_2); (try clear hfB4_2); (try clear hcB4_3); (try clear hfB4_3); (try clear hcB6_0); (try clear hfB6_0); (try clear hcB6_1); (try clear hfB6_1); (try clear hcB8_0); (try clear hfB8_0); (try clear hcB8_1); (try clear hfB8_1); have nB_ := Az0.mk (hp_.2.below HB.out GB4.out); have nB6_ := Az0.mk (hp_.2.keep B6.out (Ne.symm NB4B6.out)); have nB8_ := Az0.mk (hp_.2.keep B8.out (Ne.symm NB4B8.out)); have nRA_ := Az0.mk (hp_.2.row B4.out (by decide) RA.out); have nRB_ := Az0.mk (hp_.2.row B4.out (by decide) RB.out); have nB4_ := Az0.mk hp_.1; clear hp_; clear HB B4 B6 B8 RA RB; have HB := nB_; have B4 := nB4_; have B6 := nB6_; have B8 := nB8_; have RA := nRA_; have RB := nRB_; clear nB_ nB4_ nB6_ nB8_ nRA_ nRB_; have hcB4_0 : w18.cell? ⟨g4, 0, none⟩ = some (.bool x1) := (bkC B4.out 0).trans rfl; have hfB4_0 := bF_ B4.out 0; have hcB4_1 : w18.cell? ⟨g4, 1, none⟩ = some (.slice Aa x2.length ca) := (bkC B4.out 1).trans rfl; have hfB4_1 := bF_ B4.out 1; have hcB4_2 : w18.cell? ⟨g4, 2, none⟩ = some (.bool y1) := (bkC B4.out 2).trans rfl; have hfB4_2 := bF_ B4.out 2; have hcB4_3 : w18.cell? ⟨g4, 3, none⟩ = some (.slice Ab y2.length cb) := (bkC B4.out 3).trans rfl; have hfB4_3 := bF_ B4.out 3; have hcB6_0 : w18.cell? ⟨g6, 0, none⟩ = some (.bool x1) := (bkC B6.out 0).trans rfl; have hfB6_0 := bF_ B6.out 0; have hcB6_1 : w18.cell? ⟨g6, 1, none⟩ = some (.slice Aa x2.length ca) := (bkC B6.out 1).trans rfl; have hfB6_1 := bF_ B6.out 1; have hcB8_0 : w18.cell? ⟨g8, 0, none⟩ = some (.bool y1) := (bkC B8.out 0).trans rfl; have hfB8_0 := bF_ B8.out 0; have hcB8_1 : w18.cell? ⟨g8, 1, none⟩ = some (.slice Ab y2.length cb) := (bkC B8.out 1).trans rfl; have hfB8_1 := bF_ B8.out 1))
 refine bodyPost_ret (results_cell_row rfl _ _ g4 77 #[.bool x1, .slice Aa x2.length ca, .bool y1, .slice Ab y2.length cb] (0, 0) _ rfl B4.out Try.underlying77 rfl (by kernel_rfl)) rfl ?_
 exact ⟨_, _, by first | rfl | (simp; done), Kd.rM_ (Kd.R_tight rfl RA.out) (fun k_ h1_ h2_ => NE.out k_ h1_.symm h2_.symm), Kd.rM_ (Kd.R_tight rfl RB.out) (fun k_ h2_ h1_ => NE.out k_ h1_.symm h2_.symm), HB.out⟩
end Go.Proofs.Ytjgbdicbdlollaa.B
