/- Texts behind the row of JamStreams, part 5. -/
import Derived.Below
import Derived.Deep.Draws
import Derived.Deep.AppendLies
import Derived.Maps.AppendAt
import Derived.OwnWalk
import Derived.Laws.BytesArg
import Derived.Laws.MakeOwn
import Derived.Laws.OwnMore
import Derived.Deep.OwnRows
import Derived.Tactics
import Derived.Lib.ConvBytes
import Derived.Laws.Slices
import Derived.WalkKit
import Derived.KernelRfl
import Derived.RowKit3
import Derived.Deep.LoopGhost
import Derived.Deep.QuietTactic
import Derived.BigQuiet
import Derived.WideLaws
import Derived.Deep.DeepCutAuto
import Derived.Deep.CutBlock
import Derived.Deep.RegionHeld3
import Derived.Laws.Rows
import Derived.Lib.AppendStr
import Derived.ArgAppend
import Derived.Laws.IdiomCopy
import Derived.RowKit
import Derived.OrdersHeld
import Derived.Laws.BitsLemmas
import Derived.Laws.StructEq
import Derived.Test.YtjgbdicbdlollaaProg
import Derived.WalkSpells
import Derived.MapKept
import Derived.Maps.RangeWalk
import Derived.Shelf.SlSortCmp.SmallK
import Derived.Ground.SlsfProg
import Derived.Deep.Slices
import Derived.Deep.Fields
import Derived.ChangeSame
import Derived.ChangeSlices
import Derived.Sort.LotA
import Derived.Test.YtjgbdicbdlollaaCM1
import Derived.Test.YtjgbdicbdlollaaCM2
import Derived.Test.YtjgbdicbdlollaaCM3
import Derived.Test.YtjgbdicbdlollaaCM4
namespace Go.Proofs.Ytjgbdicbdlollaa.B
open Go.RowKit Go.Proofs.YtjgbdicbdlollaaW.PrintWords Go.Proofs.YtjgbdicbdlollaaW.PrintLast Go.Proofs.YtjgbdicbdlollaaW.PrintMore
attribute [local go_sem] max2_int min2_int max_two min_two max_three min_three max_four min_four   -- for this text's walks alone
set_option linter.unusedVariables false
set_option linter.unusedSimpArgs false
def trishawref01_Mul.f (k : Nat) (a0_0 : Bool) (l0_1 : List Int) (a0_2 : Bool) (l0_3 : List Int) (a1_0 : Bool) (l1_1 : List Int) (a1_2 : Bool) (l1_3 : List Int) : Option (Bool × List Int × Bool × List Int) := (trishawref01_Times.f k a0_0 l0_1 a1_0 l1_1).bind fun bt104 => ((trishawref01_Times.f k a0_2 l0_3 a1_2 l1_3).bind fun bt108 => ((rLo.f k bt104.1 bt104.2 bt108.1 bt108.2).bind fun bt112 => (some (bt112.1, bt112.2.1, bt112.2.2.1, bt112.2.2.2))))
def trishawref01_Mul.T1 : Bool × List (List Nat × List Nat) := (true, [([], []), ([0], [0]), ([], []), ([2], [2]), ([1, 3], [1, 3]), ([], []), ([5], [5]), ([], []), ([7], [7]), ([6, 8, 4], [6, 8]), ([4, 9, 9], [4, 9]), ([10, 10, 0, 1, 2, 3, 4, 5, 6, 7, 8, 9, 10], [10])])
def trishawref01_Mul.B1 : List Nat := [0, 1, 0, 4, 15, 0, 32, 0, 128, 511, 1023, 2047]
theorem trishawref01_Mul.tab1 : rtab .any (opsOf Try.f54 1) = trishawref01_Mul.T1 := by kernel_rfl
theorem trishawref01_Mul.bits1 : waitsOk trishawref01_Mul.T1.2 trishawref01_Mul.B1 = true := by kernel_rfl
set_option maxHeartbeats 8000000 in
set_option maxRecDepth 100000 in
theorem trishawref01_Mul.calls (k : Nat) (a0_0 : Bool) (A0_1 : Option Addr) (c0_1 : Nat) (l0_1 : List Int) (a0_2 : Bool) (A0_3 : Option Addr) (c0_3 : Nat) (l0_3 : List Int) (a1_0 : Bool) (A1_1 : Option Addr) (c1_1 : Nat) (l1_1 : List Int) (a1_2 : Bool) (A1_3 : Option Addr) (c1_3 : Nat) (l1_3 : List Int) (r1 : Bool) (r2 : List Int) (r3 : Bool) (r4 : List Int) (w : World) (hr0_1 : Kd.C (Kd.int .i64) w A0_1 l0_1.length l0_1) (hc0_1 : l0_1.length ≤ c0_1) (hr0_3 : Kd.C (Kd.int .i64) w A0_3 l0_3.length l0_3) (hc0_3 : l0_3.length ≤ c0_3) (hr1_1 : Kd.C (Kd.int .i64) w A1_1 l1_1.length l1_1) (hc1_1 : l1_1.length ≤ c1_1) (hr1_3 : Kd.C (Kd.int .i64) w A1_3 l1_3.length l1_3) (hc1_3 : l1_3.length ≤ c1_3) (h : trishawref01_Mul.f k a0_0 l0_1 a0_2 l0_3 a1_0 l1_1 a1_2 l1_3 = some (r1, r2, r3, r4)) :
  Calls Try.prog 54 #[.agg #[.bool a0_0, .slice A0_1 l0_1.length c0_1, .bool a0_2, .slice A0_3 l0_3.length c0_3], .agg #[.bool a1_0, .slice A1_1 l1_1.length c1_1, .bool a1_2, .slice A1_3 l1_3.length c1_3]] w fun e w' => ∃ v1_ v3_ : Value, e = .returned (.agg #[.bool r1, v1_, .bool r3, v3_]) ∧ Kd.R (Kd.int .i64) 3 w' w.heap.size (fun k_ => some k_ ≠ (v3_ : Value).ownBlock) v1_ r2 ∧ Kd.R (Kd.int .i64) 3 w' w.heap.size (fun k_ => some k_ ≠ (v1_ : Value).ownBlock) v3_ r4 ∧ Below w.heap.size w w' := by
 have hu77 := Try.underlying77
 have hu75 := Try.underlying75
 have HR0_1 := Az0.mk hr0_1
 have HC0_1 := Az0.mk hc0_1
 clear hr0_1 hc0_1
 have HR0_3 := Az0.mk hr0_3
 have HC0_3 := Az0.mk hc0_3
 clear hr0_3 hc0_3
 have HR1_1 := Az0.mk hr1_1
 have HC1_1 := Az0.mk hc1_1
 clear hr1_1 hc1_1
 have HR1_3 := Az0.mk hr1_3
 have HC1_3 := Az0.mk hc1_3
 clear hr1_3 hc1_3
 have HB := Az0.mk (Below.refl w.heap.size w)
 have H : ((trishawref01_Times.f k a0_0 l0_1 a1_0 l1_1).bind fun bt104 => ((trishawref01_Times.f k a0_2 l0_3 a1_2 l1_3).bind fun bt108 => ((rLo.f k bt104.1 bt104.2 bt108.1 bt108.2).bind fun bt112 => (some (bt112.1, bt112.2.1, bt112.2.2.1, bt112.2.2.2))))) = some (r1, r2, r3, r4) := h
 clear h
 replace H := Option.bind_eq_some_iff.mp H
 obtain ⟨⟨t104, t105⟩, A30, H⟩ := H
 try dsimp only at H
 have A3 := Az0.mk A30
 clear A30
 replace H := Option.bind_eq_some_iff.mp H
 obtain ⟨⟨t108, t109⟩, A40, H⟩ := H
 try dsimp only at H
 have A4 := Az0.mk A40
 clear A40
 replace H := Option.bind_eq_some_iff.mp H
 obtain ⟨⟨t112, t113, t116, t117⟩, A50, H⟩ := H
 try dsimp only at H
 have A5 := Az0.mk A50
 clear A50
 simp only [Option.some.injEq, Prod.mk.injEq] at H
 obtain ⟨rfl, rfl, rfl, rfl⟩ := H
 go_enter Try.func54, Try.ntmps54
 try go_wp2_with (first | ((with_reducible refine gD_ (N := 2) rfl ?_); refine bE_ ?hg (N := 2) ?hd (cs := #[.bool a0_0, .slice A0_1 l0_1.length c0_1, .bool a0_2, .slice A0_3 l0_3.length c0_3]) (t := 77) ?hr ?_; (case hd => rfl); (case hg => rfl); (case hr => first | (go_simp; done) | (go_simp; rfl)); intro gb101 hg w6 hbox hb; have n0_ := Az0.mk (bP_ (by exact Ups.w HB.out) hb); have n1_ := Az0.mk (hbox); have n2_ := Az0.mk ((by rw [hg]; exact (bZ_ (by exact Ups.w HB.out)) : w.heap.size ≤ gb101)); have n3_ := Az0.mk ((by rw [hg]; exact (bZ_ (by exact Ups.w HB.out)) : w.heap.size ≤ gb101)); clear HB; have HB := n0_; have BK101 := n1_; have GW101 := n2_; have GE101 := n3_; clear n0_ n1_ n2_ n3_; clear hb hbox hg) | ((with_reducible refine gD_ (N := 3) rfl ?_); refine bE_ ?hg (N := 3) ?hd (cs := #[.bool a1_0, .slice A1_1 l1_1.length c1_1, .bool a1_2, .slice A1_3 l1_3.length c1_3]) (t := 77) ?hr ?_; (case hd => rfl); (case hg => rfl); (case hr => first | (go_simp; done) | (go_simp; rfl)); intro gb102 hg w7 hbox hb; have n0_ := Az0.mk (bB_ (Ups.b BK101.out) hb); have n1_ := Az0.mk (bP_ (by repeat first|exact HB.out | refine Up1.w ?_ | refine bS_ ?_ GE101.out) hb); have n2_ := Az0.mk (hbox); have n3_ := Az0.mk ((by rw [hg]; exact (bZ_ (by repeat first|exact HB.out | refine Up1.w ?_ | refine bS_ ?_ GE101.out)) : w.heap.size ≤ gb102)); have n4_ := Az0.mk ((by rw [hg]; exact (bZ_ (by repeat first|exact HB.out | refine Up1.w ?_ | refine bS_ ?_ GE101.out)) : w.heap.size ≤ gb102)); have n5_ := Az0.mk ((by rw [hg]; exact Nat.ne_of_lt (bL_ (Ups.b BK101.out)) : gb101 ≠ gb102)); have n6_ := Az0.mk ((by rw [hg]; exact Nat.ne_of_gt (bL_ (Ups.b BK101.out)) : gb102 ≠ gb101)); clear BK101; clear HB; have BK101 := n0_; have HB := n1_; have BK102 := n2_; have GW102 := n3_; have GE102 := n4_; have NB101_102 := n5_; have NB102_101 := n6_; clear n0_ n1_ n2_ n3_ n4_ n5_ n6_; clear hb hbox hg) | ((with_reducible refine gD_ (N := 4) rfl ?_); refine bE_ ?hg (N := 4) ?hd (cs := #[.bool false, .slice none 0 0, .bool false, .slice none 0 0]) (t := 77) ?hr ?_; (case hd => rfl); (case hg => rfl); (case hr => first | (go_simp; done) | (go_simp; rfl)); intro gb103 hg w8 hbox hb; have n0_ := Az0.mk (bB_ (Ups.b BK101.out) hb); have n1_ := Az0.mk (bB_ (Ups.b BK102.out) hb); have n2_ := Az0.mk (bP_ (by repeat first|exact HB.out | refine Up1.w ?_ | refine bS_ ?_ GE101.out | refine bS_ ?_ GE102.out) hb); have n3_ := Az0.mk (hbox); have n4_ := Az0.mk ((by rw [hg]; exact (bZ_ (by repeat first|exact HB.out | refine Up1.w ?_ | refine bS_ ?_ GE101.out | refine bS_ ?_ GE102.out)) : w.heap.size ≤ gb103)); have n5_ := Az0.mk ((by rw [hg]; exact (bZ_ (by repeat first|exact HB.out | refine Up1.w ?_ | refine bS_ ?_ GE101.out | refine bS_ ?_ GE102.out)) : w.heap.size ≤ gb103)); have n6_ := Az0.mk ((by rw [hg]; exact Nat.ne_of_lt (bL_ (Ups.b BK101.out)) : gb101 ≠ gb103)); have n7_ := Az0.mk ((by rw [hg]; exact Nat.ne_of_gt (bL_ (Ups.b BK101.out)) : gb103 ≠ gb101)); have n8_ := Az0.mk ((by rw [hg]; exact Nat.ne_of_lt (bL_ (Ups.b BK102.out)) : gb102 ≠ gb103)); have n9_ := Az0.mk ((by rw [hg]; exact Nat.ne_of_gt (bL_ (Ups.b BK102.out)) : gb103 ≠ gb102)); clear BK101; clear BK102; clear HB; have BK101 := n0_; have BK102 := n1_; have HB := n2_; have BK103 := n3_; have GW103 := n4_; have GE103 := n5_; have NB101_103 := n6_; have NB103_101 := n7_; have NB102_103 := n8_; have NB103_102 := n9_; clear n0_ n1_ n2_ n3_ n4_ n5_ n6_ n7_ n8_ n9_; clear hb hbox hg))
 replace BK101 := Az0.mk (bW_ BK101.out)
 replace BK102 := Az0.mk (bW_ BK102.out)
 replace BK103 := Az0.mk (bW_ BK103.out)
 replace HB := Az0.mk (bD1_ HB.out)
 skip
 refine start_ (n := 12) (S := fun w' => w'.cell? ⟨gb101, 0, none⟩ = some (.bool a0_0) ∧ w'.cell? ⟨gb101, 1, none⟩ = some (.slice A0_1 l0_1.length c0_1) ∧ w'.cell? ⟨gb101, 2, none⟩ = some (.bool a0_2) ∧ w'.cell? ⟨gb101, 3, none⟩ = some (.slice A0_3 l0_3.length c0_3) ∧ w'.cell? ⟨gb102, 0, none⟩ = some (.bool a1_0) ∧ w'.cell? ⟨gb102, 1, none⟩ = some (.slice A1_1 l1_1.length c1_1) ∧ w'.cell? ⟨gb102, 2, none⟩ = some (.bool a1_2) ∧ w'.cell? ⟨gb102, 3, none⟩ = some (.slice A1_3 l1_3.length c1_3)) (ds := []) (tf 0 12) (by kernel_rfl) rfl rfl ⟨(bkC BK101.out 0).trans rfl, (bkC BK101.out 1).trans rfl, (bkC BK101.out 2).trans rfl, (bkC BK101.out 3).trans rfl, (bkC BK102.out 0).trans rfl, (bkC BK102.out 1).trans rfl, (bkC BK102.out 2).trans rfl, (bkC BK102.out 3).trans rfl⟩ (fun hHeld => ?_); refine with_tabW trishawref01_Mul.tab1 trishawref01_Mul.bits1 (fun HT_ HW_ => ?_)
 generalize w8.drew = w9 at BK101 BK102 BK103 HB hHeld ⊢
 refine pure_ (i := 0) (N := some 5) (v := ?_) (a' := ?_) (tf 1 11) rfl rfl (any_of HT_.out (by kernel_rfl)) (fun _ _ _ h => h) (Or.inl ⟨by rfl, ?_⟩) ?_ ?_
 rotate_left
 ·intro w'
  go_simp
  with_reducible rfl
 rotate_left
 ·simp only[pS_]
  rfl
 refine pure_ (i := 2) (N := some 7) (v := ?_) (a' := ?_) (bn 12 5) rfl rfl (any_of HT_.out (by kernel_rfl)) (fun _ _ _ h => h) (Or.inl ⟨by rfl, ?_⟩) ?_ ?_
 rotate_left
 ·intro w'
  go_simp
  with_reducible rfl
 rotate_left
 ·simp only[pS_]
  rfl
 refine pure_ (i := 5) (N := some 10) (v := ?_) (a' := ?_) (bn 12 37) rfl rfl (any_of HT_.out (by kernel_rfl)) (fun _ _ _ h => h) (Or.inl ⟨by rfl, ?_⟩) ?_ ?_
 rotate_left
 ·intro w'
  go_simp
  with_reducible rfl
 rotate_left
 ·simp only[pS_]
  rfl
 refine pure_ (i := 7) (N := some 12) (v := ?_) (a' := ?_) (bn 12 165) rfl rfl (any_of HT_.out (by kernel_rfl)) (fun _ _ _ h => h) (Or.inl ⟨by rfl, ?_⟩) ?_ ?_
 rotate_left
 ·intro w'
  go_simp
  with_reducible rfl
 rotate_left
 ·simp only[pS_]
  rfl
 refine take_ (i := 1) (N := some 6) (v := ?_) (a' := ?_) (bn 12 167) rfl rfl (take_ofW HT_.out HW_.out (by kernel_rfl)) (fun _ _ _ h => h) (Or.inl ⟨by rfl, ?_⟩) hHeld ?_ ?_
 rotate_left
 ·rintro w' ⟨s0, s1, s2, s3, s4, s5, s6, s7⟩
  go_simp
  with_reducible rfl
 rotate_left
 ·simp only[pS_]
  rfl
 refine take_ (i := 3) (N := some 8) (v := ?_) (a' := ?_) (bn 12 175) rfl rfl (take_ofW HT_.out HW_.out (by kernel_rfl)) (fun _ _ _ h => h) (Or.inl ⟨by rfl, ?_⟩) hHeld ?_ ?_
 rotate_left
 ·rintro w' ⟨s0, s1, s2, s3, s4, s5, s6, s7⟩
  go_simp
  with_reducible rfl
 rotate_left
 ·simp only[pS_]
  rfl
 refine take_ (i := 6) (N := some 11) (v := ?_) (a' := ?_) (bn 12 239) rfl rfl (take_ofW HT_.out HW_.out (by kernel_rfl)) (fun _ _ _ h => h) (Or.inl ⟨by rfl, ?_⟩) hHeld ?_ ?_
 rotate_left
 ·rintro w' ⟨s0, s1, s2, s3, s4, s5, s6, s7⟩
  go_simp
  with_reducible rfl
 rotate_left
 ·simp only[pS_]
  rfl
 refine take_ (i := 8) (N := some 13) (v := ?_) (a' := ?_) (bn 12 495) rfl rfl (take_ofW HT_.out HW_.out (by kernel_rfl)) (fun _ _ _ h => h) (Or.inl ⟨by rfl, ?_⟩) hHeld ?_ ?_
 rotate_left
 ·rintro w' ⟨s0, s1, s2, s3, s4, s5, s6, s7⟩
  go_simp
  with_reducible rfl
 rotate_left
 ·simp only[pS_]
  rfl
 refine one_ (i := 4) (N := some 9) (tf 9 3) rfl rfl (one_of HT_.out (by kernel_rfl)) (by decide) (fun K hK => ?_)
 refine goes_ Try.func85 (by kernel_rfl) rfl #[.agg #[.bool a0_0, .slice A0_1 l0_1.length c0_1], .agg #[.bool a1_0, .slice A1_1 l1_1.length c1_1]] (by rfl) rfl rfl (by (try simp only [List.map_toArray, List.map_cons, List.map_nil]); first | done | rfl | (simp only [List.length_drop, List.length_take]; rfl)) ?_
 with_reducible refine (trishawref01_Times.calls k a0_0 _ _ l0_1 a1_0 _ _ l1_1 t104 t105 _ ?side1 ?side2 ?side3 ?side4 A3.out).mono ?_
 (case side1 => repeat (first | exact (Kd.C_below HR0_1.out HB.out) | refine Up1.c ?_))
 (case side2 => exact HC0_1.out)
 (case side3 => repeat (first | exact (Kd.C_below HR1_1.out HB.out) | refine Up1.c ?_))
 (case side4 => exact HC1_1.out)
 rintro e w10 ⟨v106, rfl, ho0, hb⟩
 refine ⟨_, rfl, ?_⟩
 have n0_ := Az0.mk (Kd.R_lower ho0 (bZ_ (by repeat first|exact HB.out | refine Up1.w ?_ | refine bS_ ?_ GE101.out | refine bS_ ?_ GE102.out | refine bS_ ?_ GE103.out)))
 replace BK101 := Az0.mk (bB_ (Ups.b BK101.out) hb)
 replace BK102 := Az0.mk (bB_ (Ups.b BK102.out) hb)
 replace BK103 := Az0.mk (bB_ (Ups.b BK103.out) hb)
 have n4_ := Az0.mk (bP_ (by repeat first|exact HB.out | refine Up1.w ?_ | refine bS_ ?_ GE101.out | refine bS_ ?_ GE102.out | refine bS_ ?_ GE103.out) hb)
 clear HB
 have HO107 := n0_
 have HB := n4_
 clear n0_ n4_
 (try clear hb)
 (try clear hb2)
 (try clear hk)
 (try clear hi)
 (try clear ho0)
 refine hK.out _ _ ⟨(bkC BK101.out 0).trans rfl, (bkC BK101.out 1).trans rfl, (bkC BK101.out 2).trans rfl, (bkC BK101.out 3).trans rfl, (bkC BK102.out 0).trans rfl, (bkC BK102.out 1).trans rfl, (bkC BK102.out 2).trans rfl, (bkC BK102.out 3).trans rfl⟩ (fun hHeld => ?_)
 clear hK K
 refine norm_ (a' := ?_) ?_ ?_
 rotate_left
 ·show Act.put _ (some 9) _ = _
  simp only[pS_]
  rfl
 refine one_ (i := 9) (N := some 14) (tf 10 2) rfl rfl (one_of HT_.out (by kernel_rfl)) (by decide) (fun K hK => ?_)
 refine goes_ Try.func85 (by kernel_rfl) rfl #[.agg #[.bool a0_2, .slice A0_3 l0_3.length c0_3], .agg #[.bool a1_2, .slice A1_3 l1_3.length c1_3]] (by rfl) rfl rfl (by (try simp only [List.map_toArray, List.map_cons, List.map_nil]); first | done | rfl | (simp only [List.length_drop, List.length_take]; rfl)) ?_
 with_reducible refine (trishawref01_Times.calls k a0_2 _ _ l0_3 a1_2 _ _ l1_3 t108 t109 _ ?side1 ?side2 ?side3 ?side4 A4.out).mono ?_
 (case side1 => repeat (first | exact (Kd.C_below HR0_3.out HB.out) | refine Up1.c ?_))
 (case side2 => exact HC0_3.out)
 (case side3 => repeat (first | exact (Kd.C_below HR1_3.out HB.out) | refine Up1.c ?_))
 (case side4 => exact HC1_3.out)
 rintro e w11 ⟨v110, rfl, ho0, hb⟩
 refine ⟨_, rfl, ?_⟩
 have n0_ := Az0.mk (Kd.R_elder' (by (repeat refine Up1.r ?_); exact HO107.out) (Kd.rB_ ho0) hb)
 have n1_ := Az0.mk (Kd.R_lower (Kd.R_new' ho0 (Kd.R_lt (by (repeat refine Up1.r ?_); exact HO107.out))) (bZ_ (by repeat first|exact HB.out | refine Up1.w ?_ | refine bS_ ?_ GE101.out | refine bS_ ?_ GE102.out | refine bS_ ?_ GE103.out)))
 replace BK101 := Az0.mk (bB_ (Ups.b BK101.out) hb)
 replace BK102 := Az0.mk (bB_ (Ups.b BK102.out) hb)
 replace BK103 := Az0.mk (bB_ (Ups.b BK103.out) hb)
 have n5_ := Az0.mk (bP_ (by repeat first|exact HB.out | refine Up1.w ?_ | refine bS_ ?_ GE101.out | refine bS_ ?_ GE102.out | refine bS_ ?_ GE103.out) hb)
 clear HO107
 clear HB
 have HO107 := n0_
 have HO111 := n1_
 have HB := n5_
 clear n0_ n1_ n5_
 (try clear hb)
 (try clear hb2)
 (try clear hk)
 (try clear hi)
 (try clear ho0)
 obtain ⟨Ao12, co12, eo12⟩ := Kd.R_slice HO107.out
 (first | subst eo12 | (injection eo12 with f1_ f2_ f3_; have f4_ := f1_.symm; have f5_ := f3_.symm; clear f1_ f2_ f3_; subst f4_; subst f5_))
 obtain ⟨Ao13, co13, eo13⟩ := Kd.R_slice HO111.out
 (first | subst eo13 | (injection eo13 with f1_ f2_ f3_; have f4_ := f1_.symm; have f5_ := f3_.symm; clear f1_ f2_ f3_; subst f4_; subst f5_))
 refine hK.out _ _ ⟨(bkC BK101.out 0).trans rfl, (bkC BK101.out 1).trans rfl, (bkC BK101.out 2).trans rfl, (bkC BK101.out 3).trans rfl, (bkC BK102.out 0).trans rfl, (bkC BK102.out 1).trans rfl, (bkC BK102.out 2).trans rfl, (bkC BK102.out 3).trans rfl⟩ (fun hHeld => ?_)
 clear hK K
 refine norm_ (a' := ?_) ?_ ?_
 rotate_left
 ·show Act.put _ (some 14) _ = _
  simp only[pS_]
  rfl
 refine one_ (i := 10) (N := some 15) (tf 11 1) rfl rfl (one_of HT_.out (by kernel_rfl)) (by decide) (fun K hK => ?_)
 refine goes_ Try.func84 (by kernel_rfl) rfl #[.agg #[.bool t104, .slice Ao12 t105.length co12], .agg #[.bool t108, .slice Ao13 t109.length co13]] (by rfl) rfl rfl (by (try simp only [List.map_toArray, List.map_cons, List.map_nil]); first | done | rfl | (simp only [List.length_drop, List.length_take]; rfl)) ?_
 with_reducible refine (rLo.calls k t104 _ _ t105 t108 _ _ t109 t112 t113 t116 t117 _ ?side1 ?side2 ?side3 ?side4 A5.out).mono ?_
 (case side1 => repeat (first | exact (Kd.R_reads' HO107.out).2.2 | refine Up1.c ?_))
 (case side2 => exact (Kd.R_reads' HO107.out).2.1)
 (case side3 => repeat (first | exact (Kd.R_reads' HO111.out).2.2 | refine Up1.c ?_))
 (case side4 => exact (Kd.R_reads' HO111.out).2.1)
 rintro e w14 ⟨v114, v118, rfl, ho0, ho1, hb⟩
 refine ⟨_, rfl, ?_⟩
 have n0_ := Az0.mk (Kd.rM_ (Kd.R_told (Kd.R_told (Kd.R_old (by (repeat refine Up1.r ?_); exact HO107.out) hb) (Kd.rB_ ho0)) (Kd.rB_ ho1)) (fun _ h_ => h_.1))
 have n1_ := Az0.mk (Kd.rM_ (Kd.R_told (Kd.R_told (Kd.R_old (by (repeat refine Up1.r ?_); exact HO111.out) hb) (Kd.rB_ ho0)) (Kd.rB_ ho1)) (fun _ h_ => h_.1))
 have n2_ := Az0.mk (Kd.R_lower (Kd.R_new' (Kd.R_new' ho0 (Kd.R_lt (by (repeat refine Up1.r ?_); exact HO107.out))) (Kd.R_lt (by (repeat refine Up1.r ?_); exact HO111.out))) (bZ_ (by repeat first|exact HB.out | refine Up1.w ?_ | refine bS_ ?_ GE101.out | refine bS_ ?_ GE102.out | refine bS_ ?_ GE103.out)))
 have n3_ := Az0.mk (Kd.R_lower (Kd.R_new' (Kd.R_new' ho1 (Kd.R_lt (by (repeat refine Up1.r ?_); exact HO107.out))) (Kd.R_lt (by (repeat refine Up1.r ?_); exact HO111.out))) (bZ_ (by repeat first|exact HB.out | refine Up1.w ?_ | refine bS_ ?_ GE101.out | refine bS_ ?_ GE102.out | refine bS_ ?_ GE103.out)))
 replace BK101 := Az0.mk (bB_ (Ups.b BK101.out) hb)
 replace BK102 := Az0.mk (bB_ (Ups.b BK102.out) hb)
 replace BK103 := Az0.mk (bB_ (Ups.b BK103.out) hb)
 have n7_ := Az0.mk (bP_ (by repeat first|exact HB.out | refine Up1.w ?_ | refine bS_ ?_ GE101.out | refine bS_ ?_ GE102.out | refine bS_ ?_ GE103.out) hb)
 clear HO107
 clear HO111
 clear HB
 have HO107 := n0_
 have HO111 := n1_
 have HO115 := n2_
 have HO119 := n3_
 have HB := n7_
 clear n0_ n1_ n2_ n3_ n7_
 (try clear hb)
 (try clear hb2)
 (try clear hk)
 (try clear hi)
 (try clear ho0)
 (try clear ho1)
 obtain ⟨Ao16, co16, eo16⟩ := Kd.R_slice HO115.out
 (first | subst eo16 | (injection eo16 with f1_ f2_ f3_; have f4_ := f1_.symm; have f5_ := f3_.symm; clear f1_ f2_ f3_; subst f4_; subst f5_))
 obtain ⟨Ao19, co19, eo19⟩ := Kd.R_slice HO119.out
 (first | subst eo19 | (injection eo19 with f1_ f2_ f3_; have f4_ := f1_.symm; have f5_ := f3_.symm; clear f1_ f2_ f3_; subst f4_; subst f5_))
 refine hK.out _ _ ⟨(bkC BK101.out 0).trans rfl, (bkC BK101.out 1).trans rfl, (bkC BK101.out 2).trans rfl, (bkC BK101.out 3).trans rfl, (bkC BK102.out 0).trans rfl, (bkC BK102.out 1).trans rfl, (bkC BK102.out 2).trans rfl, (bkC BK102.out 3).trans rfl⟩ (fun hHeld => ?_)
 clear hK K
 refine norm_ (a' := ?_) ?_ ?_
 rotate_left
 ·show Act.put _ (some 15) _ = _
  simp only[pS_]
  rfl
 refine one_ (i := 11) (N := none) (tf 12 0) rfl rfl (one_of HT_.out (by kernel_rfl)) (by decide) (fun K hK => ?_)
 have hs15 : w14.cell? ⟨gb103, 0, none⟩ = some (.bool false) := (bkC BK103.out 0).trans rfl
 have hfs15 := bF_ BK103.out 0
 have hns15_0 := NB101_103.out
 have hns15_1 := NB102_103.out
 have hms15_0 := NB103_101.out
 have hms15_1 := NB103_102.out
 have hs17 : w14.cell? ⟨gb103, 1, none⟩ = some (.slice none 0 0) := (bkC BK103.out 1).trans rfl
 have hfs17 := bF_ BK103.out 1
 have hns17_0 := NB101_103.out
 have hns17_1 := NB102_103.out
 have hms17_0 := NB103_101.out
 have hms17_1 := NB103_102.out
 have hs18 : w14.cell? ⟨gb103, 2, none⟩ = some (.bool false) := (bkC BK103.out 2).trans rfl
 have hfs18 := bF_ BK103.out 2
 have hns18_0 := NB101_103.out
 have hns18_1 := NB102_103.out
 have hms18_0 := NB103_101.out
 have hms18_1 := NB103_102.out
 have hs20 : w14.cell? ⟨gb103, 3, none⟩ = some (.slice none 0 0) := (bkC BK103.out 3).trans rfl
 have hfs20 := bF_ BK103.out 3
 have hns20_0 := NB101_103.out
 have hns20_1 := NB102_103.out
 have hms20_0 := NB103_101.out
 have hms20_1 := NB103_102.out
 refine skip_ (w1 := ?_) (by rfl) rfl ?_ ?_
 rotate_left
 ·go_simp
  rfl
 refine hK.out _ _ ⟨((cell_far (p := ⟨gb103, _, none⟩) NB101_103.out _).trans (((cell_far (p := ⟨gb103, _, none⟩) NB101_103.out _).trans (((cell_far (p := ⟨gb103, _, none⟩) NB101_103.out _).trans (((cell_far (p := ⟨gb103, _, none⟩) NB101_103.out _).trans (hHeld.1)))))))), ((cell_far (p := ⟨gb103, _, none⟩) NB101_103.out _).trans (((cell_far (p := ⟨gb103, _, none⟩) NB101_103.out _).trans (((cell_far (p := ⟨gb103, _, none⟩) NB101_103.out _).trans (((cell_far (p := ⟨gb103, _, none⟩) NB101_103.out _).trans (hHeld.2.1)))))))), ((cell_far (p := ⟨gb103, _, none⟩) NB101_103.out _).trans (((cell_far (p := ⟨gb103, _, none⟩) NB101_103.out _).trans (((cell_far (p := ⟨gb103, _, none⟩) NB101_103.out _).trans (((cell_far (p := ⟨gb103, _, none⟩) NB101_103.out _).trans (hHeld.2.2.1)))))))), ((cell_far (p := ⟨gb103, _, none⟩) NB101_103.out _).trans (((cell_far (p := ⟨gb103, _, none⟩) NB101_103.out _).trans (((cell_far (p := ⟨gb103, _, none⟩) NB101_103.out _).trans (((cell_far (p := ⟨gb103, _, none⟩) NB101_103.out _).trans (hHeld.2.2.2.1)))))))), ((cell_far (p := ⟨gb103, _, none⟩) NB102_103.out _).trans (((cell_far (p := ⟨gb103, _, none⟩) NB102_103.out _).trans (((cell_far (p := ⟨gb103, _, none⟩) NB102_103.out _).trans (((cell_far (p := ⟨gb103, _, none⟩) NB102_103.out _).trans (hHeld.2.2.2.2.1)))))))), ((cell_far (p := ⟨gb103, _, none⟩) NB102_103.out _).trans (((cell_far (p := ⟨gb103, _, none⟩) NB102_103.out _).trans (((cell_far (p := ⟨gb103, _, none⟩) NB102_103.out _).trans (((cell_far (p := ⟨gb103, _, none⟩) NB102_103.out _).trans (hHeld.2.2.2.2.2.1)))))))), ((cell_far (p := ⟨gb103, _, none⟩) NB102_103.out _).trans (((cell_far (p := ⟨gb103, _, none⟩) NB102_103.out _).trans (((cell_far (p := ⟨gb103, _, none⟩) NB102_103.out _).trans (((cell_far (p := ⟨gb103, _, none⟩) NB102_103.out _).trans (hHeld.2.2.2.2.2.2.1)))))))), ((cell_far (p := ⟨gb103, _, none⟩) NB102_103.out _).trans (((cell_far (p := ⟨gb103, _, none⟩) NB102_103.out _).trans (((cell_far (p := ⟨gb103, _, none⟩) NB102_103.out _).trans (((cell_far (p := ⟨gb103, _, none⟩) NB102_103.out _).trans (hHeld.2.2.2.2.2.2.2))))))))⟩ (fun hHeld => ?_)
 clear hK K
 refine done_ (done_of HT_.out (by kernel_rfl)) ?_
 try go_wp2
 refine bodyPost_ret (results_cell_row rfl _ _ gb103 77 #[.bool t112, .slice Ao16 t113.length co16, .bool t116, .slice Ao19 t117.length co19] (0, 0) _ rfl (by refine Ups.b ?_; refine blk_put (cs := #[.bool t112, .slice Ao16 t113.length co16, .bool t116, .slice none 0 0]) ?_ 3 _ rfl; refine Ups.b ?_; refine blk_put (cs := #[.bool t112, .slice Ao16 t113.length co16, .bool false, .slice none 0 0]) ?_ 2 _ rfl; refine Ups.b ?_; refine blk_put (cs := #[.bool t112, .slice none 0 0, .bool false, .slice none 0 0]) ?_ 1 _ rfl; refine Ups.b ?_; refine blk_put (cs := #[.bool false, .slice none 0 0, .bool false, .slice none 0 0]) ?_ 0 _ rfl; refine Ups.b ?_; exact BK103.out) Try.underlying77 rfl (by kernel_rfl)) rfl ?_
 exact ⟨_, _, by first | rfl | (simp [errW_none, errW_some] <;> rfl) | (simp [*, errW_none, errW_some] <;> rfl), by (repeat refine Up1.r ?_); exact Kd.rM_ (Kd.rF_ (p := ⟨gb103, 3, none⟩) (Kd.rF_ (p := ⟨gb103, 2, none⟩) (Kd.rF_ (p := ⟨gb103, 1, none⟩) (Kd.rF_ (p := ⟨gb103, 0, none⟩) (Kd.rY_ HO115.out BK103.out (by decide)) (fun _ hk => hk.2) (.bool t112)) (fun _ hk => hk.2) (.slice Ao16 t113.length co16)) (fun _ hk => hk.2) (.bool t116)) (fun _ hk => hk.2) (.slice Ao19 t117.length co19)) (fun _ hk => hk.1.1.1), by (repeat refine Up1.r ?_); exact Kd.rM_ (Kd.rF_ (p := ⟨gb103, 3, none⟩) (Kd.rF_ (p := ⟨gb103, 2, none⟩) (Kd.rF_ (p := ⟨gb103, 1, none⟩) (Kd.rF_ (p := ⟨gb103, 0, none⟩) (Kd.rY_ HO119.out BK103.out (by decide)) (fun _ hk => hk.2) (.bool t112)) (fun _ hk => hk.2) (.slice Ao16 t113.length co16)) (fun _ hk => hk.2) (.bool t116)) (fun _ hk => hk.2) (.slice Ao19 t117.length co19)) (fun _ hk => hk.1.1.1), by repeat first|exact HB.out | refine Up1.w ?_ | refine bS_ ?_ GE101.out | refine bS_ ?_ GE102.out | refine bS_ ?_ GE103.out⟩
def trishawref01_Frac.f (k : Nat) (a0 : Int) (a1 : Int) : Option (Bool × List Int × Bool × List Int) := (trishawref01_Of.f k a0).bind fun bt121 => ((trishawref01_Of.f k a1).bind fun bt125 => ((rLo.f k bt121.1 bt121.2 bt125.1 bt125.2).bind fun bt129 => (some (bt129.1, bt129.2.1, bt129.2.2.1, bt129.2.2.2))))
set_option maxHeartbeats 8000000 in
set_option maxRecDepth 100000 in
theorem trishawref01_Frac.calls (k : Nat) (a0 : Int) (a1 : Int) (r1 : Bool) (r2 : List Int) (r3 : Bool) (r4 : List Int) (w : World) (h : trishawref01_Frac.f k a0 a1 = some (r1, r2, r3, r4)) :
  Calls Try.prog 56 #[.int .i64 a0, .int .i64 a1] w fun e w' => ∃ v1_ v3_ : Value, e = .returned (.agg #[.bool r1, v1_, .bool r3, v3_]) ∧ Kd.R (Kd.int .i64) 3 w' w.heap.size (fun k_ => some k_ ≠ (v3_ : Value).ownBlock) v1_ r2 ∧ Kd.R (Kd.int .i64) 3 w' w.heap.size (fun k_ => some k_ ≠ (v1_ : Value).ownBlock) v3_ r4 ∧ Below w.heap.size w w' := by
 have hu77 := Try.underlying77
 have HB := Az0.mk (Below.refl w.heap.size w)
 have H : ((trishawref01_Of.f k a0).bind fun bt121 => ((trishawref01_Of.f k a1).bind fun bt125 => ((rLo.f k bt121.1 bt121.2 bt125.1 bt125.2).bind fun bt129 => (some (bt129.1, bt129.2.1, bt129.2.2.1, bt129.2.2.2))))) = some (r1, r2, r3, r4) := h
 clear h
 replace H := Option.bind_eq_some_iff.mp H
 obtain ⟨⟨t121, t122⟩, A30, H⟩ := H
 try dsimp only at H
 have A3 := Az0.mk A30
 clear A30
 replace H := Option.bind_eq_some_iff.mp H
 obtain ⟨⟨t125, t126⟩, A40, H⟩ := H
 try dsimp only at H
 have A4 := Az0.mk A40
 clear A40
 replace H := Option.bind_eq_some_iff.mp H
 obtain ⟨⟨t129, t130, t133, t134⟩, A50, H⟩ := H
 try dsimp only at H
 have A5 := Az0.mk A50
 clear A50
 simp only [Option.some.injEq, Prod.mk.injEq] at H
 obtain ⟨rfl, rfl, rfl, rfl⟩ := H
 go_enter Try.func56, Try.ntmps56
 go_wp2_with (first | ((with_reducible refine gD_ (N := 4) rfl ?_); refine bE_ ?hg (N := 4) ?hd (cs := #[.bool false, .slice none 0 0, .bool false, .slice none 0 0]) (t := 77) ?hr ?_; (case hd => rfl); (case hg => rfl); (case hr => first | (go_simp; done) | (go_simp; rfl)); intro gb120 hg w6 hbox hb; have n0_ := Az0.mk (bP_ (by exact Ups.w HB.out) hb); have n1_ := Az0.mk (hbox); have n2_ := Az0.mk ((by rw [hg]; exact (bZ_ (by exact Ups.w HB.out)) : w.heap.size ≤ gb120)); have n3_ := Az0.mk ((by rw [hg]; exact (bZ_ (by exact Ups.w HB.out)) : w.heap.size ≤ gb120)); clear HB; have HB := n0_; have BK120 := n1_; have GW120 := n2_; have GE120 := n3_; clear n0_ n1_ n2_ n3_; clear hb hbox hg) | ((with_reducible refine gate_callee (f := 86) rfl ?_); refine goesL_ (some 6) rfl rfl Try.func86 (by kernel_rfl) rfl #[.int .i64 a0] rfl (by (try simp only [List.map_toArray, List.map_cons, List.map_nil]); first | done | rfl | (simp only [List.length_drop, List.length_take]; rfl)) ?_; (with_reducible refine (trishawref01_Of.calls k a0 t121 t122 _ A3.out).mono ?_); rintro e w7 ⟨v123, rfl, ho0, hb⟩; refine ⟨_, rfl, ?_⟩; have n0_ := Az0.mk (Kd.R_lower ho0 (bZ_ (by repeat first|exact HB.out | refine Up1.w ?_ | refine bS_ ?_ GE120.out))); replace BK120 := Az0.mk (bB_ (Ups.b BK120.out) hb); have n2_ := Az0.mk (bP_ (by repeat first|exact HB.out | refine Up1.w ?_ | refine bS_ ?_ GE120.out) hb); clear HB; have HO124 := n0_; have HB := n2_; clear n0_ n2_; (try clear hb); (try clear hb2); (try clear hk); (try clear hi); (try clear ho0)) | ((with_reducible refine gate_callee (f := 86) rfl ?_); refine goesL_ (some 8) rfl rfl Try.func86 (by kernel_rfl) rfl #[.int .i64 a1] rfl (by (try simp only [List.map_toArray, List.map_cons, List.map_nil]); first | done | rfl | (simp only [List.length_drop, List.length_take]; rfl)) ?_; (with_reducible refine (trishawref01_Of.calls k a1 t125 t126 _ A4.out).mono ?_); rintro e w8 ⟨v127, rfl, ho0, hb⟩; refine ⟨_, rfl, ?_⟩; have n0_ := Az0.mk (Kd.R_elder' (by (repeat refine Up1.r ?_); exact HO124.out) (Kd.rB_ ho0) hb); have n1_ := Az0.mk (Kd.R_lower (Kd.R_new' ho0 (Kd.R_lt (by (repeat refine Up1.r ?_); exact HO124.out))) (bZ_ (by repeat first|exact HB.out | refine Up1.w ?_ | refine bS_ ?_ GE120.out))); replace BK120 := Az0.mk (bB_ (Ups.b BK120.out) hb); have n3_ := Az0.mk (bP_ (by repeat first|exact HB.out | refine Up1.w ?_ | refine bS_ ?_ GE120.out) hb); clear HO124; clear HB; have HO124 := n0_; have HO128 := n1_; have HB := n3_; clear n0_ n1_ n3_; (try clear hb); (try clear hb2); (try clear hk); (try clear hi); (try clear ho0); obtain ⟨Ao9, co9, eo9⟩ := Kd.R_slice HO124.out; subst eo9; obtain ⟨Ao10, co10, eo10⟩ := Kd.R_slice HO128.out; subst eo10) | ((with_reducible refine gate_callee (f := 84) rfl ?_); refine goesL_ (some 9) rfl rfl Try.func84 (by kernel_rfl) rfl #[.agg #[.bool t121, .slice Ao9 t122.length co9], .agg #[.bool t125, .slice Ao10 t126.length co10]] rfl (by (try simp only [List.map_toArray, List.map_cons, List.map_nil]); first | done | rfl | (simp only [List.length_drop, List.length_take]; rfl)) ?_; (with_reducible refine (rLo.calls k t121 _ _ t122 t125 _ _ t126 t129 t130 t133 t134 _ ?side1 ?side2 ?side3 ?side4 A5.out).mono ?_); (case side1 => repeat (first | exact (Kd.R_reads' HO124.out).2.2 | refine Up1.c ?_)); (case side2 => exact (Kd.R_reads' HO124.out).2.1); (case side3 => repeat (first | exact (Kd.R_reads' HO128.out).2.2 | refine Up1.c ?_)); (case side4 => exact (Kd.R_reads' HO128.out).2.1); rintro e w11 ⟨v131, v135, rfl, ho0, ho1, hb⟩; refine ⟨_, rfl, ?_⟩; have n0_ := Az0.mk (Kd.rM_ (Kd.R_told (Kd.R_told (Kd.R_old (by (repeat refine Up1.r ?_); exact HO124.out) hb) (Kd.rB_ ho0)) (Kd.rB_ ho1)) (fun _ h_ => h_.1)); have n1_ := Az0.mk (Kd.rM_ (Kd.R_told (Kd.R_told (Kd.R_old (by (repeat refine Up1.r ?_); exact HO128.out) hb) (Kd.rB_ ho0)) (Kd.rB_ ho1)) (fun _ h_ => h_.1)); have n2_ := Az0.mk (Kd.R_lower (Kd.R_new' (Kd.R_new' ho0 (Kd.R_lt (by (repeat refine Up1.r ?_); exact HO124.out))) (Kd.R_lt (by (repeat refine Up1.r ?_); exact HO128.out))) (bZ_ (by repeat first|exact HB.out | refine Up1.w ?_ | refine bS_ ?_ GE120.out))); have n3_ := Az0.mk (Kd.R_lower (Kd.R_new' (Kd.R_new' ho1 (Kd.R_lt (by (repeat refine Up1.r ?_); exact HO124.out))) (Kd.R_lt (by (repeat refine Up1.r ?_); exact HO128.out))) (bZ_ (by repeat first|exact HB.out | refine Up1.w ?_ | refine bS_ ?_ GE120.out))); replace BK120 := Az0.mk (bB_ (Ups.b BK120.out) hb); have n5_ := Az0.mk (bP_ (by repeat first|exact HB.out | refine Up1.w ?_ | refine bS_ ?_ GE120.out) hb); clear HO124; clear HO128; clear HB; have HO124 := n0_; have HO128 := n1_; have HO132 := n2_; have HO136 := n3_; have HB := n5_; clear n0_ n1_ n2_ n3_ n5_; (try clear hb); (try clear hb2); (try clear hk); (try clear hi); (try clear ho0); (try clear ho1); have hcz12_0 : w11.cell? ⟨gb120, 0, none⟩ = some (.bool false) := (bkC BK120.out 0).trans rfl; have hcz12_1 : w11.cell? ⟨gb120, 1, none⟩ = some (.slice none 0 0) := (bkC BK120.out 1).trans rfl; have hcz12_2 : w11.cell? ⟨gb120, 2, none⟩ = some (.bool false) := (bkC BK120.out 2).trans rfl; have hcz12_3 : w11.cell? ⟨gb120, 3, none⟩ = some (.slice none 0 0) := (bkC BK120.out 3).trans rfl; have hfz12_0 := bF_ BK120.out 0; have hfz12_1 := bF_ BK120.out 1; have hfz12_2 := bF_ BK120.out 2; have hfz12_3 := bF_ BK120.out 3; obtain ⟨Ao13, co13, eo13⟩ := Kd.R_slice HO132.out; subst eo13; obtain ⟨Ao14, co14, eo14⟩ := Kd.R_slice HO136.out; subst eo14))
 refine bodyPost_ret (results_cell_row rfl _ _ gb120 77 #[.bool t129, .slice Ao13 t130.length co13, .bool t133, .slice Ao14 t134.length co14] (0, 0) _ rfl (by refine Ups.b ?_; refine blk_put (cs := #[.bool t129, .slice Ao13 t130.length co13, .bool t133, .slice none 0 0]) ?_ 3 _ rfl; refine Ups.b ?_; refine blk_put (cs := #[.bool t129, .slice Ao13 t130.length co13, .bool false, .slice none 0 0]) ?_ 2 _ rfl; refine Ups.b ?_; refine blk_put (cs := #[.bool t129, .slice none 0 0, .bool false, .slice none 0 0]) ?_ 1 _ rfl; refine Ups.b ?_; refine blk_put (cs := #[.bool false, .slice none 0 0, .bool false, .slice none 0 0]) ?_ 0 _ rfl; refine Ups.b ?_; exact BK120.out) Try.underlying77 rfl (by kernel_rfl)) rfl ?_
 exact ⟨_, _, by first | rfl | (simp [errW_none, errW_some] <;> rfl) | (simp [*, errW_none, errW_some] <;> rfl), by (repeat refine Up1.r ?_); exact Kd.rM_ (Kd.rF_ (p := ⟨gb120, 3, none⟩) (Kd.rF_ (p := ⟨gb120, 2, none⟩) (Kd.rF_ (p := ⟨gb120, 1, none⟩) (Kd.rF_ (p := ⟨gb120, 0, none⟩) (Kd.rY_ HO132.out BK120.out (by decide)) (fun _ hk => hk.2) (.bool t129)) (fun _ hk => hk.2) (.slice Ao13 t130.length co13)) (fun _ hk => hk.2) (.bool t133)) (fun _ hk => hk.2) (.slice Ao14 t134.length co14)) (fun _ hk => hk.1.1.1), by (repeat refine Up1.r ?_); exact Kd.rM_ (Kd.rF_ (p := ⟨gb120, 3, none⟩) (Kd.rF_ (p := ⟨gb120, 2, none⟩) (Kd.rF_ (p := ⟨gb120, 1, none⟩) (Kd.rF_ (p := ⟨gb120, 0, none⟩) (Kd.rY_ HO136.out BK120.out (by decide)) (fun _ hk => hk.2) (.bool t129)) (fun _ hk => hk.2) (.slice Ao13 t130.length co13)) (fun _ hk => hk.2) (.bool t133)) (fun _ hk => hk.2) (.slice Ao14 t134.length co14)) (fun _ hk => hk.1.1.1), by repeat first|exact HB.out | refine Up1.w ?_ | refine bS_ ?_ GE120.out⟩
def trishawref01_FromRatio.f (k : Nat) (a0_0 : Int) (a0_1 : Int) : Option (Bool × List Int × Bool × List Int) := (trishawref01_Frac.f k a0_0 a0_1).bind fun bt139 => (some (bt139.1, bt139.2.1, bt139.2.2.1, bt139.2.2.2))
set_option maxHeartbeats 8000000 in
set_option maxRecDepth 100000 in
theorem trishawref01_FromRatio.calls (k : Nat) (a0_0 : Int) (a0_1 : Int) (r1 : Bool) (r2 : List Int) (r3 : Bool) (r4 : List Int) (w : World) (h : trishawref01_FromRatio.f k a0_0 a0_1 = some (r1, r2, r3, r4)) :
  Calls Try.prog 55 #[.agg #[.int .i64 a0_0, .int .i64 a0_1]] w fun e w' => ∃ v1_ v3_ : Value, e = .returned (.agg #[.bool r1, v1_, .bool r3, v3_]) ∧ Kd.R (Kd.int .i64) 3 w' w.heap.size (fun k_ => some k_ ≠ (v3_ : Value).ownBlock) v1_ r2 ∧ Kd.R (Kd.int .i64) 3 w' w.heap.size (fun k_ => some k_ ≠ (v1_ : Value).ownBlock) v3_ r4 ∧ Below w.heap.size w w' := by
 have hu28 := Try.underlying28
 have hu77 := Try.underlying77
 have HB := Az0.mk (Below.refl w.heap.size w)
 have H : ((trishawref01_Frac.f k a0_0 a0_1).bind fun bt139 => (some (bt139.1, bt139.2.1, bt139.2.2.1, bt139.2.2.2))) = some (r1, r2, r3, r4) := h
 clear h
 replace H := Option.bind_eq_some_iff.mp H
 obtain ⟨⟨t139, t140, t143, t144⟩, A20, H⟩ := H
 try dsimp only at H
 have A2 := Az0.mk A20
 clear A20
 simp only [Option.some.injEq, Prod.mk.injEq] at H
 obtain ⟨rfl, rfl, rfl, rfl⟩ := H
 go_enter Try.func55, Try.ntmps55
 go_wp2_with (first | ((with_reducible refine gD_ (N := 1) rfl ?_); refine bE_ ?hg (N := 1) ?hd (cs := #[.int .i64 a0_0, .int .i64 a0_1]) (t := 28) ?hr ?_; (case hd => rfl); (case hg => rfl); (case hr => first | (go_simp; done) | (go_simp; rfl)); intro gb137 hg w3 hbox hb; have n0_ := Az0.mk (bP_ (by exact Ups.w HB.out) hb); have n1_ := Az0.mk (hbox); have n2_ := Az0.mk ((by rw [hg]; exact (bZ_ (by exact Ups.w HB.out)) : w.heap.size ≤ gb137)); have n3_ := Az0.mk ((by rw [hg]; exact (bZ_ (by exact Ups.w HB.out)) : w.heap.size ≤ gb137)); clear HB; have HB := n0_; have BK137 := n1_; have GW137 := n2_; have GE137 := n3_; clear n0_ n1_ n2_ n3_; clear hb hbox hg) | ((with_reducible refine gD_ (N := 2) rfl ?_); refine bE_ ?hg (N := 2) ?hd (cs := #[.bool false, .slice none 0 0, .bool false, .slice none 0 0]) (t := 77) ?hr ?_; (case hd => rfl); (case hg => rfl); (case hr => first | (go_simp; done) | (go_simp; rfl)); intro gb138 hg w4 hbox hb; have n0_ := Az0.mk (bB_ (Ups.b BK137.out) hb); have n1_ := Az0.mk (bP_ (by repeat first|exact HB.out | refine Up1.w ?_ | refine bS_ ?_ GE137.out) hb); have n2_ := Az0.mk (hbox); have n3_ := Az0.mk ((by rw [hg]; exact (bZ_ (by repeat first|exact HB.out | refine Up1.w ?_ | refine bS_ ?_ GE137.out)) : w.heap.size ≤ gb138)); have n4_ := Az0.mk ((by rw [hg]; exact (bZ_ (by repeat first|exact HB.out | refine Up1.w ?_ | refine bS_ ?_ GE137.out)) : w.heap.size ≤ gb138)); have n5_ := Az0.mk ((by rw [hg]; exact Nat.ne_of_lt (bL_ (Ups.b BK137.out)) : gb137 ≠ gb138)); have n6_ := Az0.mk ((by rw [hg]; exact Nat.ne_of_gt (bL_ (Ups.b BK137.out)) : gb138 ≠ gb137)); clear BK137; clear HB; have BK137 := n0_; have HB := n1_; have BK138 := n2_; have GW138 := n3_; have GE138 := n4_; have NB137_138 := n5_; have NB138_137 := n6_; clear n0_ n1_ n2_ n3_ n4_ n5_ n6_; clear hb hbox hg; have hnb5 := NB137_138.out; have hnc5 := NB138_137.out; have hcz6_0 : w4.cell? ⟨gb137, 0, none⟩ = some (.int .i64 a0_0) := (bkC BK137.out 0).trans rfl; have hcz6_1 : w4.cell? ⟨gb137, 1, none⟩ = some (.int .i64 a0_1) := (bkC BK137.out 1).trans rfl; have hfz6_0 := bF_ BK137.out 0; have hfz6_1 := bF_ BK137.out 1) | ((with_reducible refine gate_callee (f := 56) rfl ?_); refine goesL_ (some 7) rfl rfl Try.func56 (by kernel_rfl) rfl #[.int .i64 a0_0, .int .i64 a0_1] rfl (by (try simp only [List.map_toArray, List.map_cons, List.map_nil]); first | done | rfl | (simp only [List.length_drop, List.length_take]; rfl)) ?_; (with_reducible refine (trishawref01_Frac.calls k a0_0 a0_1 t139 t140 t143 t144 _ A2.out).mono ?_); rintro e w7 ⟨v141, v145, rfl, ho0, ho1, hb⟩; refine ⟨_, rfl, ?_⟩; have n0_ := Az0.mk (Kd.R_lower ho0 (bZ_ (by repeat first|exact HB.out | refine Up1.w ?_ | refine bS_ ?_ GE137.out | refine bS_ ?_ GE138.out))); have n1_ := Az0.mk (Kd.R_lower ho1 (bZ_ (by repeat first|exact HB.out | refine Up1.w ?_ | refine bS_ ?_ GE137.out | refine bS_ ?_ GE138.out))); replace BK138 := Az0.mk (bB_ (Ups.b BK138.out) hb); have n4_ := Az0.mk (bP_ (by repeat first|exact HB.out | refine Up1.w ?_ | refine bS_ ?_ GE137.out | refine bS_ ?_ GE138.out) hb); clear HB; have HO142 := n0_; have HO146 := n1_; have HB := n4_; clear n0_ n1_ n4_; (try clear hb); (try clear hb2); (try clear hk); (try clear hi); (try clear ho0); (try clear ho1); have hcz8_0 : w7.cell? ⟨gb138, 0, none⟩ = some (.bool false) := (bkC BK138.out 0).trans rfl; have hcz8_1 : w7.cell? ⟨gb138, 1, none⟩ = some (.slice none 0 0) := (bkC BK138.out 1).trans rfl; have hcz8_2 : w7.cell? ⟨gb138, 2, none⟩ = some (.bool false) := (bkC BK138.out 2).trans rfl; have hcz8_3 : w7.cell? ⟨gb138, 3, none⟩ = some (.slice none 0 0) := (bkC BK138.out 3).trans rfl; have hfz8_0 := bF_ BK138.out 0; have hfz8_1 := bF_ BK138.out 1; have hfz8_2 := bF_ BK138.out 2; have hfz8_3 := bF_ BK138.out 3; obtain ⟨Ao9, co9, eo9⟩ := Kd.R_slice HO142.out; subst eo9; obtain ⟨Ao10, co10, eo10⟩ := Kd.R_slice HO146.out; subst eo10))
 refine bodyPost_ret (results_cell_row rfl _ _ gb138 77 #[.bool t139, .slice Ao9 t140.length co9, .bool t143, .slice Ao10 t144.length co10] (0, 0) _ rfl (by refine Ups.b ?_; refine blk_put (cs := #[.bool t139, .slice Ao9 t140.length co9, .bool t143, .slice none 0 0]) ?_ 3 _ rfl; refine Ups.b ?_; refine blk_put (cs := #[.bool t139, .slice Ao9 t140.length co9, .bool false, .slice none 0 0]) ?_ 2 _ rfl; refine Ups.b ?_; refine blk_put (cs := #[.bool t139, .slice none 0 0, .bool false, .slice none 0 0]) ?_ 1 _ rfl; refine Ups.b ?_; refine blk_put (cs := #[.bool false, .slice none 0 0, .bool false, .slice none 0 0]) ?_ 0 _ rfl; refine Ups.b ?_; exact BK138.out) Try.underlying77 rfl (by kernel_rfl)) rfl ?_
 exact ⟨_, _, by first | rfl | (simp [errW_none, errW_some] <;> rfl) | (simp [*, errW_none, errW_some] <;> rfl), by (repeat refine Up1.r ?_); exact Kd.rM_ (Kd.rF_ (p := ⟨gb138, 3, none⟩) (Kd.rF_ (p := ⟨gb138, 2, none⟩) (Kd.rF_ (p := ⟨gb138, 1, none⟩) (Kd.rF_ (p := ⟨gb138, 0, none⟩) (Kd.rY_ HO142.out BK138.out (by decide)) (fun _ hk => hk.2) (.bool t139)) (fun _ hk => hk.2) (.slice Ao9 t140.length co9)) (fun _ hk => hk.2) (.bool t143)) (fun _ hk => hk.2) (.slice Ao10 t144.length co10)) (fun _ hk => hk.1), by (repeat refine Up1.r ?_); exact Kd.rM_ (Kd.rF_ (p := ⟨gb138, 3, none⟩) (Kd.rF_ (p := ⟨gb138, 2, none⟩) (Kd.rF_ (p := ⟨gb138, 1, none⟩) (Kd.rF_ (p := ⟨gb138, 0, none⟩) (Kd.rY_ HO146.out BK138.out (by decide)) (fun _ hk => hk.2) (.bool t139)) (fun _ hk => hk.2) (.slice Ao9 t140.length co9)) (fun _ hk => hk.2) (.bool t143)) (fun _ hk => hk.2) (.slice Ao10 t144.length co10)) (fun _ hk => hk.1), by repeat first|exact HB.out | refine Up1.w ?_ | refine bS_ ?_ GE137.out | refine bS_ ?_ GE138.out⟩
def lLe_.f (k : Nat) (a0_0 : Int) (a0_1 : Int) (a1 : Int) (a2_0 : Int) (a2_1 : Int) (a3 : Int) : Option (Bool) := (trishawref01_FromRatio.f k a0_0 a0_1).bind fun bt149 => ((trishawref01_Frac.f k a1 1).bind fun bt157 => ((trishawref01_Mul.f k bt149.1 bt149.2.1 bt149.2.2.1 bt149.2.2.2 bt157.1 bt157.2.1 bt157.2.2.1 bt157.2.2.2).bind fun bt165 => ((trishawref01_FromRatio.f k a2_0 a2_1).bind fun bt174 => ((trishawref01_Frac.f k a3 1).bind fun bt182 => ((trishawref01_Mul.f k bt174.1 bt174.2.1 bt174.2.2.1 bt174.2.2.2 bt182.1 bt182.2.1 bt182.2.2.1 bt182.2.2.2).bind fun bt190 => ((trishawref01_Cmp.f k bt165.1 bt165.2.1 bt165.2.2.1 bt165.2.2.2 bt190.1 bt190.2.1 bt190.2.2.1 bt190.2.2.2).bind fun t199 => (some (decide (t199 < 0)))))))))
set_option maxHeartbeats 8000000 in
set_option maxRecDepth 100000 in
theorem lLe_.calls (k : Nat) (a0_0 : Int) (a0_1 : Int) (a1 : Int) (a2_0 : Int) (a2_1 : Int) (a3 : Int) (r : Bool) (w : World) (h : lLe_.f k a0_0 a0_1 a1 a2_0 a2_1 a3 = some r) :
  Calls Try.prog 23 #[.agg #[.int .i64 a0_0, .int .i64 a0_1], .int .i64 a1, .agg #[.int .i64 a2_0, .int .i64 a2_1], .int .i64 a3] w fun e w' => e = .returned (.bool r) ∧ Below w.heap.size w w' := by
 have hu28 := Try.underlying28
 have hu77 := Try.underlying77
 have HB := Az0.mk (Below.refl w.heap.size w)
 have H : ((trishawref01_FromRatio.f k a0_0 a0_1).bind fun bt149 => ((trishawref01_Frac.f k a1 1).bind fun bt157 => ((trishawref01_Mul.f k bt149.1 bt149.2.1 bt149.2.2.1 bt149.2.2.2 bt157.1 bt157.2.1 bt157.2.2.1 bt157.2.2.2).bind fun bt165 => ((trishawref01_FromRatio.f k a2_0 a2_1).bind fun bt174 => ((trishawref01_Frac.f k a3 1).bind fun bt182 => ((trishawref01_Mul.f k bt174.1 bt174.2.1 bt174.2.2.1 bt174.2.2.2 bt182.1 bt182.2.1 bt182.2.2.1 bt182.2.2.2).bind fun bt190 => ((trishawref01_Cmp.f k bt165.1 bt165.2.1 bt165.2.2.1 bt165.2.2.2 bt190.1 bt190.2.1 bt190.2.2.1 bt190.2.2.2).bind fun t199 => (some (decide (t199 < 0)))))))))) = some r := h
 clear h
 replace H := Option.bind_eq_some_iff.mp H
 obtain ⟨⟨t149, t150, t153, t154⟩, A50, H⟩ := H
 try dsimp only at H
 have A5 := Az0.mk A50
 clear A50
 replace H := Option.bind_eq_some_iff.mp H
 obtain ⟨⟨t157, t158, t161, t162⟩, A60, H⟩ := H
 try dsimp only at H
 have A6 := Az0.mk A60
 clear A60
 replace H := Option.bind_eq_some_iff.mp H
 obtain ⟨⟨t165, t166, t169, t170⟩, A70, H⟩ := H
 try dsimp only at H
 have A7 := Az0.mk A70
 clear A70
 replace H := Option.bind_eq_some_iff.mp H
 obtain ⟨⟨t174, t175, t178, t179⟩, A80, H⟩ := H
 try dsimp only at H
 have A8 := Az0.mk A80
 clear A80
 replace H := Option.bind_eq_some_iff.mp H
 obtain ⟨⟨t182, t183, t186, t187⟩, A90, H⟩ := H
 try dsimp only at H
 have A9 := Az0.mk A90
 clear A90
 replace H := Option.bind_eq_some_iff.mp H
 obtain ⟨⟨t190, t191, t194, t195⟩, A100, H⟩ := H
 try dsimp only at H
 have A10 := Az0.mk A100
 clear A100
 replace H := Option.bind_eq_some_iff.mp H
 obtain ⟨t199, A110, H⟩ := H
 try dsimp only at H
 have A11 := Az0.mk A110
 clear A110
 obtain rfl := Option.some.inj H
 go_enter Try.func23, Try.ntmps23
 go_wp2_with (first | ((with_reducible refine gD_ (N := 4) rfl ?_); refine bE_ ?hg (N := 4) ?hd (cs := #[.int .i64 a0_0, .int .i64 a0_1]) (t := 28) ?hr ?_; (case hd => rfl); (case hg => rfl); (case hr => first | (go_simp; done) | (go_simp; rfl)); intro gb147 hg w12 hbox hb; have n0_ := Az0.mk (bP_ (by exact Ups.w HB.out) hb); have n1_ := Az0.mk (hbox); have n2_ := Az0.mk ((by rw [hg]; exact (bZ_ (by exact Ups.w HB.out)) : w.heap.size ≤ gb147)); have n3_ := Az0.mk ((by rw [hg]; exact (bZ_ (by exact Ups.w HB.out)) : w.heap.size ≤ gb147)); clear HB; have HB := n0_; have BK147 := n1_; have GW147 := n2_; have GE147 := n3_; clear n0_ n1_ n2_ n3_; clear hb hbox hg) | ((with_reducible refine gD_ (N := 6) rfl ?_); refine bE_ ?hg (N := 6) ?hd (cs := #[.int .i64 a2_0, .int .i64 a2_1]) (t := 28) ?hr ?_; (case hd => rfl); (case hg => rfl); (case hr => first | (go_simp; done) | (go_simp; rfl)); intro gb148 hg w13 hbox hb; have n0_ := Az0.mk (bB_ (Ups.b BK147.out) hb); have n1_ := Az0.mk (bP_ (by repeat first|exact HB.out | refine Up1.w ?_ | refine bS_ ?_ GE147.out) hb); have n2_ := Az0.mk (hbox); have n3_ := Az0.mk ((by rw [hg]; exact (bZ_ (by repeat first|exact HB.out | refine Up1.w ?_ | refine bS_ ?_ GE147.out)) : w.heap.size ≤ gb148)); have n4_ := Az0.mk ((by rw [hg]; exact (bZ_ (by repeat first|exact HB.out | refine Up1.w ?_ | refine bS_ ?_ GE147.out)) : w.heap.size ≤ gb148)); have n5_ := Az0.mk ((by rw [hg]; exact Nat.ne_of_lt (bL_ (Ups.b BK147.out)) : gb147 ≠ gb148)); have n6_ := Az0.mk ((by rw [hg]; exact Nat.ne_of_gt (bL_ (Ups.b BK147.out)) : gb148 ≠ gb147)); clear BK147; clear HB; have BK147 := n0_; have HB := n1_; have BK148 := n2_; have GW148 := n3_; have GE148 := n4_; have NB147_148 := n5_; have NB148_147 := n6_; clear n0_ n1_ n2_ n3_ n4_ n5_ n6_; clear hb hbox hg; have hnb14 := NB147_148.out; have hnc14 := NB148_147.out; have hcz15_0 : w13.cell? ⟨gb147, 0, none⟩ = some (.int .i64 a0_0) := (bkC BK147.out 0).trans rfl; have hcz15_1 : w13.cell? ⟨gb147, 1, none⟩ = some (.int .i64 a0_1) := (bkC BK147.out 1).trans rfl; have hfz15_0 := bF_ BK147.out 0; have hfz15_1 := bF_ BK147.out 1) | ((with_reducible refine gate_callee (f := 55) rfl ?_); refine goesL_ (some 12) rfl rfl Try.func55 (by kernel_rfl) rfl #[.agg #[.int .i64 a0_0, .int .i64 a0_1]] rfl (by (try simp only [List.map_toArray, List.map_cons, List.map_nil]); first | done | rfl | (simp only [List.length_drop, List.length_take]; rfl)) ?_; (with_reducible refine (trishawref01_FromRatio.calls k a0_0 a0_1 t149 t150 t153 t154 _ A5.out).mono ?_); rintro e w16 ⟨v151, v155, rfl, ho0, ho1, hb⟩; refine ⟨_, rfl, ?_⟩; have n0_ := Az0.mk (Kd.R_lower ho0 (bZ_ (by repeat first|exact HB.out | refine Up1.w ?_ | refine bS_ ?_ GE147.out | refine bS_ ?_ GE148.out))); have n1_ := Az0.mk (Kd.R_lower ho1 (bZ_ (by repeat first|exact HB.out | refine Up1.w ?_ | refine bS_ ?_ GE147.out | refine bS_ ?_ GE148.out))); replace BK147 := Az0.mk (bB_ (Ups.b BK147.out) hb); replace BK148 := Az0.mk (bB_ (Ups.b BK148.out) hb); have n4_ := Az0.mk (bP_ (by repeat first|exact HB.out | refine Up1.w ?_ | refine bS_ ?_ GE147.out | refine bS_ ?_ GE148.out) hb); clear HB; have HO152 := n0_; have HO156 := n1_; have HB := n4_; clear n0_ n1_ n4_; (try clear hb); (try clear hb2); (try clear hk); (try clear hi); (try clear ho0); (try clear ho1)) | ((with_reducible refine gate_callee (f := 56) rfl ?_); refine goesL_ (some 14) rfl rfl Try.func56 (by kernel_rfl) rfl #[.int .i64 a1, .int .i64 1] rfl (by (try simp only [List.map_toArray, List.map_cons, List.map_nil]); first | done | rfl | (simp only [List.length_drop, List.length_take]; rfl)) ?_; (with_reducible refine (trishawref01_Frac.calls k a1 1 t157 t158 t161 t162 _ A6.out).mono ?_); rintro e w17 ⟨v159, v163, rfl, ho0, ho1, hb⟩; refine ⟨_, rfl, ?_⟩; have n0_ := Az0.mk (Kd.rM_ (Kd.R_told (Kd.R_told (Kd.R_old (by (repeat refine Up1.r ?_); exact HO152.out) hb) (Kd.rB_ ho0)) (Kd.rB_ ho1)) (fun _ h_ => h_.1)); have n1_ := Az0.mk (Kd.rM_ (Kd.R_told (Kd.R_told (Kd.R_old (by (repeat refine Up1.r ?_); exact HO156.out) hb) (Kd.rB_ ho0)) (Kd.rB_ ho1)) (fun _ h_ => h_.1)); have n2_ := Az0.mk (Kd.R_lower (Kd.R_new' (Kd.R_new' ho0 (Kd.R_lt (by (repeat refine Up1.r ?_); exact HO152.out))) (Kd.R_lt (by (repeat refine Up1.r ?_); exact HO156.out))) (bZ_ (by repeat first|exact HB.out | refine Up1.w ?_ | refine bS_ ?_ GE147.out | refine bS_ ?_ GE148.out))); have n3_ := Az0.mk (Kd.R_lower (Kd.R_new' (Kd.R_new' ho1 (Kd.R_lt (by (repeat refine Up1.r ?_); exact HO152.out))) (Kd.R_lt (by (repeat refine Up1.r ?_); exact HO156.out))) (bZ_ (by repeat first|exact HB.out | refine Up1.w ?_ | refine bS_ ?_ GE147.out | refine bS_ ?_ GE148.out))); replace BK147 := Az0.mk (bB_ (Ups.b BK147.out) hb); replace BK148 := Az0.mk (bB_ (Ups.b BK148.out) hb); have n6_ := Az0.mk (bP_ (by repeat first|exact HB.out | refine Up1.w ?_ | refine bS_ ?_ GE147.out | refine bS_ ?_ GE148.out) hb); clear HO152; clear HO156; clear HB; have HO152 := n0_; have HO156 := n1_; have HO160 := n2_; have HO164 := n3_; have HB := n6_; clear n0_ n1_ n2_ n3_ n6_; (try clear hb); (try clear hb2); (try clear hk); (try clear hi); (try clear ho0); (try clear ho1); obtain ⟨Ao18, co18, eo18⟩ := Kd.R_slice HO152.out; subst eo18; obtain ⟨Ao19, co19, eo19⟩ := Kd.R_slice HO156.out; subst eo19; obtain ⟨Ao20, co20, eo20⟩ := Kd.R_slice HO160.out; subst eo20; obtain ⟨Ao21, co21, eo21⟩ := Kd.R_slice HO164.out; subst eo21) | ((with_reducible refine gate_callee (f := 54) rfl ?_); refine goesL_ (some 15) rfl rfl Try.func54 (by kernel_rfl) rfl #[.agg #[.bool t149, .slice Ao18 t150.length co18, .bool t153, .slice Ao19 t154.length co19], .agg #[.bool t157, .slice Ao20 t158.length co20, .bool t161, .slice Ao21 t162.length co21]] rfl (by (try simp only [List.map_toArray, List.map_cons, List.map_nil]); first | done | rfl | (simp only [List.length_drop, List.length_take]; rfl)) ?_; (with_reducible refine (trishawref01_Mul.calls k t149 _ _ t150 t153 _ _ t154 t157 _ _ t158 t161 _ _ t162 t165 t166 t169 t170 _ ?side1 ?side2 ?side3 ?side4 ?side5 ?side6 ?side7 ?side8 A7.out).mono ?_); (case side1 => repeat (first | exact (Kd.R_reads' HO152.out).2.2 | refine Up1.c ?_)); (case side2 => exact (Kd.R_reads' HO152.out).2.1); (case side3 => repeat (first | exact (Kd.R_reads' HO156.out).2.2 | refine Up1.c ?_)); (case side4 => exact (Kd.R_reads' HO156.out).2.1); (case side5 => repeat (first | exact (Kd.R_reads' HO160.out).2.2 | refine Up1.c ?_)); (case side6 => exact (Kd.R_reads' HO160.out).2.1); (case side7 => repeat (first | exact (Kd.R_reads' HO164.out).2.2 | refine Up1.c ?_)); (case side8 => exact (Kd.R_reads' HO164.out).2.1); rintro e w22 ⟨v167, v171, rfl, ho0, ho1, hb⟩; refine ⟨_, rfl, ?_⟩; have n0_ := Az0.mk (Kd.rM_ (Kd.R_told (Kd.R_told (Kd.R_old (by (repeat refine Up1.r ?_); exact HO152.out) hb) (Kd.rB_ ho0)) (Kd.rB_ ho1)) (fun _ h_ => h_.1)); have n1_ := Az0.mk (Kd.rM_ (Kd.R_told (Kd.R_told (Kd.R_old (by (repeat refine Up1.r ?_); exact HO156.out) hb) (Kd.rB_ ho0)) (Kd.rB_ ho1)) (fun _ h_ => h_.1)); have n2_ := Az0.mk (Kd.rM_ (Kd.R_told (Kd.R_told (Kd.R_old (by (repeat refine Up1.r ?_); exact HO160.out) hb) (Kd.rB_ ho0)) (Kd.rB_ ho1)) (fun _ h_ => h_.1)); have n3_ := Az0.mk (Kd.rM_ (Kd.R_told (Kd.R_told (Kd.R_old (by (repeat refine Up1.r ?_); exact HO164.out) hb) (Kd.rB_ ho0)) (Kd.rB_ ho1)) (fun _ h_ => h_.1)); have n4_ := Az0.mk (Kd.R_lower (Kd.R_new' (Kd.R_new' (Kd.R_new' (Kd.R_new' ho0 (Kd.R_lt (by (repeat refine Up1.r ?_); exact HO152.out))) (Kd.R_lt (by (repeat refine Up1.r ?_); exact HO156.out))) (Kd.R_lt (by (repeat refine Up1.r ?_); exact HO160.out))) (Kd.R_lt (by (repeat refine Up1.r ?_); exact HO164.out))) (bZ_ (by repeat first|exact HB.out | refine Up1.w ?_ | refine bS_ ?_ GE147.out | refine bS_ ?_ GE148.out))); have n5_ := Az0.mk (Kd.R_lower (Kd.R_new' (Kd.R_new' (Kd.R_new' (Kd.R_new' ho1 (Kd.R_lt (by (repeat refine Up1.r ?_); exact HO152.out))) (Kd.R_lt (by (repeat refine Up1.r ?_); exact HO156.out))) (Kd.R_lt (by (repeat refine Up1.r ?_); exact HO160.out))) (Kd.R_lt (by (repeat refine Up1.r ?_); exact HO164.out))) (bZ_ (by repeat first|exact HB.out | refine Up1.w ?_ | refine bS_ ?_ GE147.out | refine bS_ ?_ GE148.out))); replace BK147 := Az0.mk (bB_ (Ups.b BK147.out) hb); replace BK148 := Az0.mk (bB_ (Ups.b BK148.out) hb); have n8_ := Az0.mk (bP_ (by repeat first|exact HB.out | refine Up1.w ?_ | refine bS_ ?_ GE147.out | refine bS_ ?_ GE148.out) hb); clear HO152; clear HO156; clear HO160; clear HO164; clear HB; have HO152 := n0_; have HO156 := n1_; have HO160 := n2_; have HO164 := n3_; have HO168 := n4_; have HO172 := n5_; have HB := n8_; clear n0_ n1_ n2_ n3_ n4_ n5_ n8_; (try clear hb); (try clear hb2); (try clear hk); (try clear hi); (try clear ho0); (try clear ho1)) | ((with_reducible refine gD_ (N := 9) rfl ?_); refine bE_ ?hg (N := 9) ?hd (cs := #[.bool false, .slice none 0 0, .bool false, .slice none 0 0]) (t := 77) ?hr ?_; (case hd => rfl); (case hg => rfl); (case hr => first | (go_simp; done) | (go_simp; rfl)); intro gb173 hg w23 hbox hb; replace HO152 := Az0.mk (Kd.rW_ (by (repeat refine Up1.r ?_); exact HO152.out) hb); replace HO156 := Az0.mk (Kd.rW_ (by (repeat refine Up1.r ?_); exact HO156.out) hb); replace HO160 := Az0.mk (Kd.rW_ (by (repeat refine Up1.r ?_); exact HO160.out) hb); replace HO164 := Az0.mk (Kd.rW_ (by (repeat refine Up1.r ?_); exact HO164.out) hb); replace HO168 := Az0.mk (Kd.rW_ (by (repeat refine Up1.r ?_); exact HO168.out) hb); replace HO172 := Az0.mk (Kd.rW_ (by (repeat refine Up1.r ?_); exact HO172.out) hb); have n6_ := Az0.mk (bB_ (Ups.b BK147.out) hb); have n7_ := Az0.mk (bB_ (Ups.b BK148.out) hb); have n8_ := Az0.mk (bP_ (by repeat first|exact HB.out | refine Up1.w ?_ | refine bS_ ?_ GE147.out | refine bS_ ?_ GE148.out) hb); have n9_ := Az0.mk (hbox); have n10_ := Az0.mk ((by rw [hg]; exact (bZ_ (by repeat first|exact HB.out | refine Up1.w ?_ | refine bS_ ?_ GE147.out | refine bS_ ?_ GE148.out)) : w.heap.size ≤ gb173)); have n11_ := Az0.mk ((by rw [hg]; exact (bZ_ (by repeat first|exact HB.out | refine Up1.w ?_ | refine bS_ ?_ GE147.out | refine bS_ ?_ GE148.out)) : w.heap.size ≤ gb173)); have n12_ := Az0.mk ((by rw [hg]; exact Nat.ne_of_lt (bL_ (Ups.b BK147.out)) : gb147 ≠ gb173)); have n13_ := Az0.mk ((by rw [hg]; exact Nat.ne_of_gt (bL_ (Ups.b BK147.out)) : gb173 ≠ gb147)); have n14_ := Az0.mk ((by rw [hg]; exact Nat.ne_of_lt (bL_ (Ups.b BK148.out)) : gb148 ≠ gb173)); have n15_ := Az0.mk ((by rw [hg]; exact Nat.ne_of_gt (bL_ (Ups.b BK148.out)) : gb173 ≠ gb148)); clear BK147; clear BK148; clear HB; have BK147 := n6_; have BK148 := n7_; have HB := n8_; have BK173 := n9_; have GW173 := n10_; have GE173 := n11_; have NB147_173 := n12_; have NB173_147 := n13_; have NB148_173 := n14_; have NB173_148 := n15_; clear n6_ n7_ n8_ n9_ n10_ n11_ n12_ n13_ n14_ n15_; clear hb hbox hg; have hnb24 := NB173_147.out; have hnc24 := NB147_173.out; have hnb25 := NB173_148.out; have hnc25 := NB148_173.out; have hcz26_0 : w23.cell? ⟨gb173, 0, none⟩ = some (.bool false) := (bkC BK173.out 0).trans rfl; have hcz26_1 : w23.cell? ⟨gb173, 1, none⟩ = some (.slice none 0 0) := (bkC BK173.out 1).trans rfl; have hcz26_2 : w23.cell? ⟨gb173, 2, none⟩ = some (.bool false) := (bkC BK173.out 2).trans rfl; have hcz26_3 : w23.cell? ⟨gb173, 3, none⟩ = some (.slice none 0 0) := (bkC BK173.out 3).trans rfl; have hfz26_0 := bF_ BK173.out 0; have hfz26_1 := bF_ BK173.out 1; have hfz26_2 := bF_ BK173.out 2; have hfz26_3 := bF_ BK173.out 3; obtain ⟨Ao27, co27, eo27⟩ := Kd.R_slice HO168.out; subst eo27; obtain ⟨Ao28, co28, eo28⟩ := Kd.R_slice HO172.out; subst eo28; have hcz29_0 : w23.cell? ⟨gb148, 0, none⟩ = some (.int .i64 a2_0) := (bkC BK148.out 0).trans rfl; have hcz29_1 : w23.cell? ⟨gb148, 1, none⟩ = some (.int .i64 a2_1) := (bkC BK148.out 1).trans rfl; have hfz29_0 := bF_ BK148.out 0; have hfz29_1 := bF_ BK148.out 1) | ((with_reducible refine gate_callee (f := 55) rfl ?_); refine goesL_ (some 17) rfl rfl Try.func55 (by kernel_rfl) rfl #[.agg #[.int .i64 a2_0, .int .i64 a2_1]] rfl (by (try simp only [List.map_toArray, List.map_cons, List.map_nil]); first | done | rfl | (simp only [List.length_drop, List.length_take]; rfl)) ?_; (with_reducible refine (trishawref01_FromRatio.calls k a2_0 a2_1 t174 t175 t178 t179 _ A8.out).mono ?_); rintro e w30 ⟨v176, v180, rfl, ho0, ho1, hb⟩; refine ⟨_, rfl, ?_⟩; have n0_ := Az0.mk (Kd.rM_ (Kd.R_told (Kd.R_told (Kd.R_old (by (repeat refine Up1.r ?_); exact (Kd.rM_ (Kd.rF_ (p := ⟨gb173, 3, none⟩) (Kd.rF_ (p := ⟨gb173, 2, none⟩) (Kd.rF_ (p := ⟨gb173, 1, none⟩) (Kd.rF_ (p := ⟨gb173, 0, none⟩) (Kd.rY_ HO152.out BK173.out (by decide)) (fun _ hk => hk.2) (.bool t165)) (fun _ hk => hk.2) (.slice Ao27 t166.length co27)) (fun _ hk => hk.2) (.bool t169)) (fun _ hk => hk.2) (.slice Ao28 t170.length co28)) (fun _ h_ => h_.1))) hb) (Kd.rB_ ho0)) (Kd.rB_ ho1)) (fun _ h_ => h_.1)); have n1_ := Az0.mk (Kd.rM_ (Kd.R_told (Kd.R_told (Kd.R_old (by (repeat refine Up1.r ?_); exact (Kd.rM_ (Kd.rF_ (p := ⟨gb173, 3, none⟩) (Kd.rF_ (p := ⟨gb173, 2, none⟩) (Kd.rF_ (p := ⟨gb173, 1, none⟩) (Kd.rF_ (p := ⟨gb173, 0, none⟩) (Kd.rY_ HO156.out BK173.out (by decide)) (fun _ hk => hk.2) (.bool t165)) (fun _ hk => hk.2) (.slice Ao27 t166.length co27)) (fun _ hk => hk.2) (.bool t169)) (fun _ hk => hk.2) (.slice Ao28 t170.length co28)) (fun _ h_ => h_.1))) hb) (Kd.rB_ ho0)) (Kd.rB_ ho1)) (fun _ h_ => h_.1)); have n2_ := Az0.mk (Kd.rM_ (Kd.R_told (Kd.R_told (Kd.R_old (by (repeat refine Up1.r ?_); exact (Kd.rM_ (Kd.rF_ (p := ⟨gb173, 3, none⟩) (Kd.rF_ (p := ⟨gb173, 2, none⟩) (Kd.rF_ (p := ⟨gb173, 1, none⟩) (Kd.rF_ (p := ⟨gb173, 0, none⟩) (Kd.rY_ HO160.out BK173.out (by decide)) (fun _ hk => hk.2) (.bool t165)) (fun _ hk => hk.2) (.slice Ao27 t166.length co27)) (fun _ hk => hk.2) (.bool t169)) (fun _ hk => hk.2) (.slice Ao28 t170.length co28)) (fun _ h_ => h_.1))) hb) (Kd.rB_ ho0)) (Kd.rB_ ho1)) (fun _ h_ => h_.1)); have n3_ := Az0.mk (Kd.rM_ (Kd.R_told (Kd.R_told (Kd.R_old (by (repeat refine Up1.r ?_); exact (Kd.rM_ (Kd.rF_ (p := ⟨gb173, 3, none⟩) (Kd.rF_ (p := ⟨gb173, 2, none⟩) (Kd.rF_ (p := ⟨gb173, 1, none⟩) (Kd.rF_ (p := ⟨gb173, 0, none⟩) (Kd.rY_ HO164.out BK173.out (by decide)) (fun _ hk => hk.2) (.bool t165)) (fun _ hk => hk.2) (.slice Ao27 t166.length co27)) (fun _ hk => hk.2) (.bool t169)) (fun _ hk => hk.2) (.slice Ao28 t170.length co28)) (fun _ h_ => h_.1))) hb) (Kd.rB_ ho0)) (Kd.rB_ ho1)) (fun _ h_ => h_.1)); have n4_ := Az0.mk (Kd.rM_ (Kd.R_told (Kd.R_told (Kd.R_old (by (repeat refine Up1.r ?_); exact (Kd.rM_ (Kd.rF_ (p := ⟨gb173, 3, none⟩) (Kd.rF_ (p := ⟨gb173, 2, none⟩) (Kd.rF_ (p := ⟨gb173, 1, none⟩) (Kd.rF_ (p := ⟨gb173, 0, none⟩) (Kd.rY_ HO168.out BK173.out (by decide)) (fun _ hk => hk.2) (.bool t165)) (fun _ hk => hk.2) (.slice Ao27 t166.length co27)) (fun _ hk => hk.2) (.bool t169)) (fun _ hk => hk.2) (.slice Ao28 t170.length co28)) (fun _ h_ => h_.1))) hb) (Kd.rB_ ho0)) (Kd.rB_ ho1)) (fun _ h_ => h_.1)); have n5_ := Az0.mk (Kd.rM_ (Kd.R_told (Kd.R_told (Kd.R_old (by (repeat refine Up1.r ?_); exact (Kd.rM_ (Kd.rF_ (p := ⟨gb173, 3, none⟩) (Kd.rF_ (p := ⟨gb173, 2, none⟩) (Kd.rF_ (p := ⟨gb173, 1, none⟩) (Kd.rF_ (p := ⟨gb173, 0, none⟩) (Kd.rY_ HO172.out BK173.out (by decide)) (fun _ hk => hk.2) (.bool t165)) (fun _ hk => hk.2) (.slice Ao27 t166.length co27)) (fun _ hk => hk.2) (.bool t169)) (fun _ hk => hk.2) (.slice Ao28 t170.length co28)) (fun _ h_ => h_.1))) hb) (Kd.rB_ ho0)) (Kd.rB_ ho1)) (fun _ h_ => h_.1)); have n6_ := Az0.mk (Kd.R_lower (Kd.R_new' (Kd.R_new' (Kd.R_new' (Kd.R_new' (Kd.R_new' (Kd.R_new' ho0 (Kd.R_lt (by (repeat refine Up1.r ?_); exact (Kd.rM_ (Kd.rF_ (p := ⟨gb173, 3, none⟩) (Kd.rF_ (p := ⟨gb173, 2, none⟩) (Kd.rF_ (p := ⟨gb173, 1, none⟩) (Kd.rF_ (p := ⟨gb173, 0, none⟩) (Kd.rY_ HO152.out BK173.out (by decide)) (fun _ hk => hk.2) (.bool t165)) (fun _ hk => hk.2) (.slice Ao27 t166.length co27)) (fun _ hk => hk.2) (.bool t169)) (fun _ hk => hk.2) (.slice Ao28 t170.length co28)) (fun _ h_ => h_.1))))) (Kd.R_lt (by (repeat refine Up1.r ?_); exact (Kd.rM_ (Kd.rF_ (p := ⟨gb173, 3, none⟩) (Kd.rF_ (p := ⟨gb173, 2, none⟩) (Kd.rF_ (p := ⟨gb173, 1, none⟩) (Kd.rF_ (p := ⟨gb173, 0, none⟩) (Kd.rY_ HO156.out BK173.out (by decide)) (fun _ hk => hk.2) (.bool t165)) (fun _ hk => hk.2) (.slice Ao27 t166.length co27)) (fun _ hk => hk.2) (.bool t169)) (fun _ hk => hk.2) (.slice Ao28 t170.length co28)) (fun _ h_ => h_.1))))) (Kd.R_lt (by (repeat refine Up1.r ?_); exact (Kd.rM_ (Kd.rF_ (p := ⟨gb173, 3, none⟩) (Kd.rF_ (p := ⟨gb173, 2, none⟩) (Kd.rF_ (p := ⟨gb173, 1, none⟩) (Kd.rF_ (p := ⟨gb173, 0, none⟩) (Kd.rY_ HO160.out BK173.out (by decide)) (fun _ hk => hk.2) (.bool t165)) (fun _ hk => hk.2) (.slice Ao27 t166.length co27)) (fun _ hk => hk.2) (.bool t169)) (fun _ hk => hk.2) (.slice Ao28 t170.length co28)) (fun _ h_ => h_.1))))) (Kd.R_lt (by (repeat refine Up1.r ?_); exact (Kd.rM_ (Kd.rF_ (p := ⟨gb173, 3, none⟩) (Kd.rF_ (p := ⟨gb173, 2, none⟩) (Kd.rF_ (p := ⟨gb173, 1, none⟩) (Kd.rF_ (p := ⟨gb173, 0, none⟩) (Kd.rY_ HO164.out BK173.out (by decide)) (fun _ hk => hk.2) (.bool t165)) (fun _ hk => hk.2) (.slice Ao27 t166.length co27)) (fun _ hk => hk.2) (.bool t169)) (fun _ hk => hk.2) (.slice Ao28 t170.length co28)) (fun _ h_ => h_.1))))) (Kd.R_lt (by (repeat refine Up1.r ?_); exact (Kd.rM_ (Kd.rF_ (p := ⟨gb173, 3, none⟩) (Kd.rF_ (p := ⟨gb173, 2, none⟩) (Kd.rF_ (p := ⟨gb173, 1, none⟩) (Kd.rF_ (p := ⟨gb173, 0, none⟩) (Kd.rY_ HO168.out BK173.out (by decide)) (fun _ hk => hk.2) (.bool t165)) (fun _ hk => hk.2) (.slice Ao27 t166.length co27)) (fun _ hk => hk.2) (.bool t169)) (fun _ hk => hk.2) (.slice Ao28 t170.length co28)) (fun _ h_ => h_.1))))) (Kd.R_lt (by (repeat refine Up1.r ?_); exact (Kd.rM_ (Kd.rF_ (p := ⟨gb173, 3, none⟩) (Kd.rF_ (p := ⟨gb173, 2, none⟩) (Kd.rF_ (p := ⟨gb173, 1, none⟩) (Kd.rF_ (p := ⟨gb173, 0, none⟩) (Kd.rY_ HO172.out BK173.out (by decide)) (fun _ hk => hk.2) (.bool t165)) (fun _ hk => hk.2) (.slice Ao27 t166.length co27)) (fun _ hk => hk.2) (.bool t169)) (fun _ hk => hk.2) (.slice Ao28 t170.length co28)) (fun _ h_ => h_.1))))) (bZ_ (by repeat first|exact HB.out | refine Up1.w ?_ | refine bS_ ?_ GE147.out | refine bS_ ?_ GE148.out | refine bS_ ?_ GE173.out))); have n7_ := Az0.mk (Kd.R_lower (Kd.R_new' (Kd.R_new' (Kd.R_new' (Kd.R_new' (Kd.R_new' (Kd.R_new' ho1 (Kd.R_lt (by (repeat refine Up1.r ?_); exact (Kd.rM_ (Kd.rF_ (p := ⟨gb173, 3, none⟩) (Kd.rF_ (p := ⟨gb173, 2, none⟩) (Kd.rF_ (p := ⟨gb173, 1, none⟩) (Kd.rF_ (p := ⟨gb173, 0, none⟩) (Kd.rY_ HO152.out BK173.out (by decide)) (fun _ hk => hk.2) (.bool t165)) (fun _ hk => hk.2) (.slice Ao27 t166.length co27)) (fun _ hk => hk.2) (.bool t169)) (fun _ hk => hk.2) (.slice Ao28 t170.length co28)) (fun _ h_ => h_.1))))) (Kd.R_lt (by (repeat refine Up1.r ?_); exact (Kd.rM_ (Kd.rF_ (p := ⟨gb173, 3, none⟩) (Kd.rF_ (p := ⟨gb173, 2, none⟩) (Kd.rF_ (p := ⟨gb173, 1, none⟩) (Kd.rF_ (p := ⟨gb173, 0, none⟩) (Kd.rY_ HO156.out BK173.out (by decide)) (fun _ hk => hk.2) (.bool t165)) (fun _ hk => hk.2) (.slice Ao27 t166.length co27)) (fun _ hk => hk.2) (.bool t169)) (fun _ hk => hk.2) (.slice Ao28 t170.length co28)) (fun _ h_ => h_.1))))) (Kd.R_lt (by (repeat refine Up1.r ?_); exact (Kd.rM_ (Kd.rF_ (p := ⟨gb173, 3, none⟩) (Kd.rF_ (p := ⟨gb173, 2, none⟩) (Kd.rF_ (p := ⟨gb173, 1, none⟩) (Kd.rF_ (p := ⟨gb173, 0, none⟩) (Kd.rY_ HO160.out BK173.out (by decide)) (fun _ hk => hk.2) (.bool t165)) (fun _ hk => hk.2) (.slice Ao27 t166.length co27)) (fun _ hk => hk.2) (.bool t169)) (fun _ hk => hk.2) (.slice Ao28 t170.length co28)) (fun _ h_ => h_.1))))) (Kd.R_lt (by (repeat refine Up1.r ?_); exact (Kd.rM_ (Kd.rF_ (p := ⟨gb173, 3, none⟩) (Kd.rF_ (p := ⟨gb173, 2, none⟩) (Kd.rF_ (p := ⟨gb173, 1, none⟩) (Kd.rF_ (p := ⟨gb173, 0, none⟩) (Kd.rY_ HO164.out BK173.out (by decide)) (fun _ hk => hk.2) (.bool t165)) (fun _ hk => hk.2) (.slice Ao27 t166.length co27)) (fun _ hk => hk.2) (.bool t169)) (fun _ hk => hk.2) (.slice Ao28 t170.length co28)) (fun _ h_ => h_.1))))) (Kd.R_lt (by (repeat refine Up1.r ?_); exact (Kd.rM_ (Kd.rF_ (p := ⟨gb173, 3, none⟩) (Kd.rF_ (p := ⟨gb173, 2, none⟩) (Kd.rF_ (p := ⟨gb173, 1, none⟩) (Kd.rF_ (p := ⟨gb173, 0, none⟩) (Kd.rY_ HO168.out BK173.out (by decide)) (fun _ hk => hk.2) (.bool t165)) (fun _ hk => hk.2) (.slice Ao27 t166.length co27)) (fun _ hk => hk.2) (.bool t169)) (fun _ hk => hk.2) (.slice Ao28 t170.length co28)) (fun _ h_ => h_.1))))) (Kd.R_lt (by (repeat refine Up1.r ?_); exact (Kd.rM_ (Kd.rF_ (p := ⟨gb173, 3, none⟩) (Kd.rF_ (p := ⟨gb173, 2, none⟩) (Kd.rF_ (p := ⟨gb173, 1, none⟩) (Kd.rF_ (p := ⟨gb173, 0, none⟩) (Kd.rY_ HO172.out BK173.out (by decide)) (fun _ hk => hk.2) (.bool t165)) (fun _ hk => hk.2) (.slice Ao27 t166.length co27)) (fun _ hk => hk.2) (.bool t169)) (fun _ hk => hk.2) (.slice Ao28 t170.length co28)) (fun _ h_ => h_.1))))) (bZ_ (by repeat first|exact HB.out | refine Up1.w ?_ | refine bS_ ?_ GE147.out | refine bS_ ?_ GE148.out | refine bS_ ?_ GE173.out))); replace BK147 := Az0.mk (bB_ (g := gb147) (o := .cells #[.int .i64 a0_0, .int .i64 a0_1] 28 (0, 0)) (by refine Ups.b ?_; refine bR_ ?_ NB147_173.out _; refine Ups.b ?_; refine bR_ ?_ NB147_173.out _; refine Ups.b ?_; refine bR_ ?_ NB147_173.out _; refine Ups.b ?_; refine bR_ ?_ NB147_173.out _; refine Ups.b ?_; exact BK147.out) hb); replace BK148 := Az0.mk (bB_ (g := gb148) (o := .cells #[.int .i64 a2_0, .int .i64 a2_1] 28 (0, 0)) (by refine Ups.b ?_; refine bR_ ?_ NB148_173.out _; refine Ups.b ?_; refine bR_ ?_ NB148_173.out _; refine Ups.b ?_; refine bR_ ?_ NB148_173.out _; refine Ups.b ?_; refine bR_ ?_ NB148_173.out _; refine Ups.b ?_; exact BK148.out) hb); have n10_ := Az0.mk (bB_ (g := gb173) (o := .cells #[.bool t165, .slice Ao27 t166.length co27, .bool t169, .slice Ao28 t170.length co28] 77 (0, 0)) (by refine Ups.b ?_; refine blk_put (cs := #[.bool t165, .slice Ao27 t166.length co27, .bool t169, .slice none 0 0]) ?_ 3 _ rfl; refine Ups.b ?_; refine blk_put (cs := #[.bool t165, .slice Ao27 t166.length co27, .bool false, .slice none 0 0]) ?_ 2 _ rfl; refine Ups.b ?_; refine blk_put (cs := #[.bool t165, .slice none 0 0, .bool false, .slice none 0 0]) ?_ 1 _ rfl; refine Ups.b ?_; refine blk_put (cs := #[.bool false, .slice none 0 0, .bool false, .slice none 0 0]) ?_ 0 _ rfl; refine Ups.b ?_; exact BK173.out) hb); have n11_ := Az0.mk (bP_ (by repeat first|exact HB.out | refine Up1.w ?_ | refine bS_ ?_ GE147.out | refine bS_ ?_ GE148.out | refine bS_ ?_ GE173.out) hb); clear HO152; clear HO156; clear HO160; clear HO164; clear HO168; clear HO172; clear BK173; clear HB; have HO152 := n0_; have HO156 := n1_; have HO160 := n2_; have HO164 := n3_; have HO168 := n4_; have HO172 := n5_; have HO177 := n6_; have HO181 := n7_; have BK173 := n10_; have HB := n11_; clear n0_ n1_ n2_ n3_ n4_ n5_ n6_ n7_ n10_ n11_; (try clear hb); (try clear hb2); (try clear hk); (try clear hi); (try clear ho0); (try clear ho1)) | ((with_reducible refine gate_callee (f := 56) rfl ?_); refine goesL_ (some 19) rfl rfl Try.func56 (by kernel_rfl) rfl #[.int .i64 a3, .int .i64 1] rfl (by (try simp only [List.map_toArray, List.map_cons, List.map_nil]); first | done | rfl | (simp only [List.length_drop, List.length_take]; rfl)) ?_; (with_reducible refine (trishawref01_Frac.calls k a3 1 t182 t183 t186 t187 _ A9.out).mono ?_); rintro e w31 ⟨v184, v188, rfl, ho0, ho1, hb⟩; refine ⟨_, rfl, ?_⟩; have n0_ := Az0.mk (Kd.rM_ (Kd.R_told (Kd.R_told (Kd.R_old (by (repeat refine Up1.r ?_); exact HO152.out) hb) (Kd.rB_ ho0)) (Kd.rB_ ho1)) (fun _ h_ => h_.1)); have n1_ := Az0.mk (Kd.rM_ (Kd.R_told (Kd.R_told (Kd.R_old (by (repeat refine Up1.r ?_); exact HO156.out) hb) (Kd.rB_ ho0)) (Kd.rB_ ho1)) (fun _ h_ => h_.1)); have n2_ := Az0.mk (Kd.rM_ (Kd.R_told (Kd.R_told (Kd.R_old (by (repeat refine Up1.r ?_); exact HO160.out) hb) (Kd.rB_ ho0)) (Kd.rB_ ho1)) (fun _ h_ => h_.1)); have n3_ := Az0.mk (Kd.rM_ (Kd.R_told (Kd.R_told (Kd.R_old (by (repeat refine Up1.r ?_); exact HO164.out) hb) (Kd.rB_ ho0)) (Kd.rB_ ho1)) (fun _ h_ => h_.1)); have n4_ := Az0.mk (Kd.rM_ (Kd.R_told (Kd.R_told (Kd.R_old (by (repeat refine Up1.r ?_); exact HO168.out) hb) (Kd.rB_ ho0)) (Kd.rB_ ho1)) (fun _ h_ => h_.1)); have n5_ := Az0.mk (Kd.rM_ (Kd.R_told (Kd.R_told (Kd.R_old (by (repeat refine Up1.r ?_); exact HO172.out) hb) (Kd.rB_ ho0)) (Kd.rB_ ho1)) (fun _ h_ => h_.1)); have n6_ := Az0.mk (Kd.rM_ (Kd.R_told (Kd.R_told (Kd.R_old (by (repeat refine Up1.r ?_); exact HO177.out) hb) (Kd.rB_ ho0)) (Kd.rB_ ho1)) (fun _ h_ => h_.1)); have n7_ := Az0.mk (Kd.rM_ (Kd.R_told (Kd.R_told (Kd.R_old (by (repeat refine Up1.r ?_); exact HO181.out) hb) (Kd.rB_ ho0)) (Kd.rB_ ho1)) (fun _ h_ => h_.1)); have n8_ := Az0.mk (Kd.R_lower (Kd.R_new' (Kd.R_new' (Kd.R_new' (Kd.R_new' (Kd.R_new' (Kd.R_new' (Kd.R_new' (Kd.R_new' ho0 (Kd.R_lt (by (repeat refine Up1.r ?_); exact HO152.out))) (Kd.R_lt (by (repeat refine Up1.r ?_); exact HO156.out))) (Kd.R_lt (by (repeat refine Up1.r ?_); exact HO160.out))) (Kd.R_lt (by (repeat refine Up1.r ?_); exact HO164.out))) (Kd.R_lt (by (repeat refine Up1.r ?_); exact HO168.out))) (Kd.R_lt (by (repeat refine Up1.r ?_); exact HO172.out))) (Kd.R_lt (by (repeat refine Up1.r ?_); exact HO177.out))) (Kd.R_lt (by (repeat refine Up1.r ?_); exact HO181.out))) (bZ_ (by repeat first|exact HB.out | refine Up1.w ?_ | refine bS_ ?_ GE147.out | refine bS_ ?_ GE148.out | refine bS_ ?_ GE173.out))); have n9_ := Az0.mk (Kd.R_lower (Kd.R_new' (Kd.R_new' (Kd.R_new' (Kd.R_new' (Kd.R_new' (Kd.R_new' (Kd.R_new' (Kd.R_new' ho1 (Kd.R_lt (by (repeat refine Up1.r ?_); exact HO152.out))) (Kd.R_lt (by (repeat refine Up1.r ?_); exact HO156.out))) (Kd.R_lt (by (repeat refine Up1.r ?_); exact HO160.out))) (Kd.R_lt (by (repeat refine Up1.r ?_); exact HO164.out))) (Kd.R_lt (by (repeat refine Up1.r ?_); exact HO168.out))) (Kd.R_lt (by (repeat refine Up1.r ?_); exact HO172.out))) (Kd.R_lt (by (repeat refine Up1.r ?_); exact HO177.out))) (Kd.R_lt (by (repeat refine Up1.r ?_); exact HO181.out))) (bZ_ (by repeat first|exact HB.out | refine Up1.w ?_ | refine bS_ ?_ GE147.out | refine bS_ ?_ GE148.out | refine bS_ ?_ GE173.out))); replace BK147 := Az0.mk (bB_ (Ups.b BK147.out) hb); replace BK148 := Az0.mk (bB_ (Ups.b BK148.out) hb); replace BK173 := Az0.mk (bB_ (Ups.b BK173.out) hb); have n13_ := Az0.mk (bP_ (by repeat first|exact HB.out | refine Up1.w ?_ | refine bS_ ?_ GE147.out | refine bS_ ?_ GE148.out | refine bS_ ?_ GE173.out) hb); clear HO152; clear HO156; clear HO160; clear HO164; clear HO168; clear HO172; clear HO177; clear HO181; clear HB; have HO152 := n0_; have HO156 := n1_; have HO160 := n2_; have HO164 := n3_; have HO168 := n4_; have HO172 := n5_; have HO177 := n6_; have HO181 := n7_; have HO185 := n8_; have HO189 := n9_; have HB := n13_; clear n0_ n1_ n2_ n3_ n4_ n5_ n6_ n7_ n8_ n9_ n13_; (try clear hb); (try clear hb2); (try clear hk); (try clear hi); (try clear ho0); (try clear ho1); obtain ⟨Ao32, co32, eo32⟩ := Kd.R_slice HO177.out; subst eo32; obtain ⟨Ao33, co33, eo33⟩ := Kd.R_slice HO181.out; subst eo33; obtain ⟨Ao34, co34, eo34⟩ := Kd.R_slice HO185.out; subst eo34; obtain ⟨Ao35, co35, eo35⟩ := Kd.R_slice HO189.out; subst eo35) | ((with_reducible refine gate_callee (f := 54) rfl ?_); refine goesL_ (some 20) rfl rfl Try.func54 (by kernel_rfl) rfl #[.agg #[.bool t174, .slice Ao32 t175.length co32, .bool t178, .slice Ao33 t179.length co33], .agg #[.bool t182, .slice Ao34 t183.length co34, .bool t186, .slice Ao35 t187.length co35]] rfl (by (try simp only [List.map_toArray, List.map_cons, List.map_nil]); first | done | rfl | (simp only [List.length_drop, List.length_take]; rfl)) ?_; (with_reducible refine (trishawref01_Mul.calls k t174 _ _ t175 t178 _ _ t179 t182 _ _ t183 t186 _ _ t187 t190 t191 t194 t195 _ ?side1 ?side2 ?side3 ?side4 ?side5 ?side6 ?side7 ?side8 A10.out).mono ?_); (case side1 => repeat (first | exact (Kd.R_reads' HO177.out).2.2 | refine Up1.c ?_)); (case side2 => exact (Kd.R_reads' HO177.out).2.1); (case side3 => repeat (first | exact (Kd.R_reads' HO181.out).2.2 | refine Up1.c ?_)); (case side4 => exact (Kd.R_reads' HO181.out).2.1); (case side5 => repeat (first | exact (Kd.R_reads' HO185.out).2.2 | refine Up1.c ?_)); (case side6 => exact (Kd.R_reads' HO185.out).2.1); (case side7 => repeat (first | exact (Kd.R_reads' HO189.out).2.2 | refine Up1.c ?_)); (case side8 => exact (Kd.R_reads' HO189.out).2.1); rintro e w36 ⟨v192, v196, rfl, ho0, ho1, hb⟩; refine ⟨_, rfl, ?_⟩; have n0_ := Az0.mk (Kd.rM_ (Kd.R_told (Kd.R_told (Kd.R_old (by (repeat refine Up1.r ?_); exact HO152.out) hb) (Kd.rB_ ho0)) (Kd.rB_ ho1)) (fun _ h_ => h_.1)); have n1_ := Az0.mk (Kd.rM_ (Kd.R_told (Kd.R_told (Kd.R_old (by (repeat refine Up1.r ?_); exact HO156.out) hb) (Kd.rB_ ho0)) (Kd.rB_ ho1)) (fun _ h_ => h_.1)); have n2_ := Az0.mk (Kd.rM_ (Kd.R_told (Kd.R_told (Kd.R_old (by (repeat refine Up1.r ?_); exact HO160.out) hb) (Kd.rB_ ho0)) (Kd.rB_ ho1)) (fun _ h_ => h_.1)); have n3_ := Az0.mk (Kd.rM_ (Kd.R_told (Kd.R_told (Kd.R_old (by (repeat refine Up1.r ?_); exact HO164.out) hb) (Kd.rB_ ho0)) (Kd.rB_ ho1)) (fun _ h_ => h_.1)); have n4_ := Az0.mk (Kd.rM_ (Kd.R_told (Kd.R_told (Kd.R_old (by (repeat refine Up1.r ?_); exact HO168.out) hb) (Kd.rB_ ho0)) (Kd.rB_ ho1)) (fun _ h_ => h_.1)); have n5_ := Az0.mk (Kd.rM_ (Kd.R_told (Kd.R_told (Kd.R_old (by (repeat refine Up1.r ?_); exact HO172.out) hb) (Kd.rB_ ho0)) (Kd.rB_ ho1)) (fun _ h_ => h_.1)); have n6_ := Az0.mk (Kd.rM_ (Kd.R_told (Kd.R_told (Kd.R_old (by (repeat refine Up1.r ?_); exact HO177.out) hb) (Kd.rB_ ho0)) (Kd.rB_ ho1)) (fun _ h_ => h_.1)); have n7_ := Az0.mk (Kd.rM_ (Kd.R_told (Kd.R_told (Kd.R_old (by (repeat refine Up1.r ?_); exact HO181.out) hb) (Kd.rB_ ho0)) (Kd.rB_ ho1)) (fun _ h_ => h_.1)); have n8_ := Az0.mk (Kd.rM_ (Kd.R_told (Kd.R_told (Kd.R_old (by (repeat refine Up1.r ?_); exact HO185.out) hb) (Kd.rB_ ho0)) (Kd.rB_ ho1)) (fun _ h_ => h_.1)); have n9_ := Az0.mk (Kd.rM_ (Kd.R_told (Kd.R_told (Kd.R_old (by (repeat refine Up1.r ?_); exact HO189.out) hb) (Kd.rB_ ho0)) (Kd.rB_ ho1)) (fun _ h_ => h_.1)); have n10_ := Az0.mk (Kd.R_lower (Kd.R_new' (Kd.R_new' (Kd.R_new' (Kd.R_new' (Kd.R_new' (Kd.R_new' (Kd.R_new' (Kd.R_new' (Kd.R_new' (Kd.R_new' ho0 (Kd.R_lt (by (repeat refine Up1.r ?_); exact HO152.out))) (Kd.R_lt (by (repeat refine Up1.r ?_); exact HO156.out))) (Kd.R_lt (by (repeat refine Up1.r ?_); exact HO160.out))) (Kd.R_lt (by (repeat refine Up1.r ?_); exact HO164.out))) (Kd.R_lt (by (repeat refine Up1.r ?_); exact HO168.out))) (Kd.R_lt (by (repeat refine Up1.r ?_); exact HO172.out))) (Kd.R_lt (by (repeat refine Up1.r ?_); exact HO177.out))) (Kd.R_lt (by (repeat refine Up1.r ?_); exact HO181.out))) (Kd.R_lt (by (repeat refine Up1.r ?_); exact HO185.out))) (Kd.R_lt (by (repeat refine Up1.r ?_); exact HO189.out))) (bZ_ (by repeat first|exact HB.out | refine Up1.w ?_ | refine bS_ ?_ GE147.out | refine bS_ ?_ GE148.out | refine bS_ ?_ GE173.out))); have n11_ := Az0.mk (Kd.R_lower (Kd.R_new' (Kd.R_new' (Kd.R_new' (Kd.R_new' (Kd.R_new' (Kd.R_new' (Kd.R_new' (Kd.R_new' (Kd.R_new' (Kd.R_new' ho1 (Kd.R_lt (by (repeat refine Up1.r ?_); exact HO152.out))) (Kd.R_lt (by (repeat refine Up1.r ?_); exact HO156.out))) (Kd.R_lt (by (repeat refine Up1.r ?_); exact HO160.out))) (Kd.R_lt (by (repeat refine Up1.r ?_); exact HO164.out))) (Kd.R_lt (by (repeat refine Up1.r ?_); exact HO168.out))) (Kd.R_lt (by (repeat refine Up1.r ?_); exact HO172.out))) (Kd.R_lt (by (repeat refine Up1.r ?_); exact HO177.out))) (Kd.R_lt (by (repeat refine Up1.r ?_); exact HO181.out))) (Kd.R_lt (by (repeat refine Up1.r ?_); exact HO185.out))) (Kd.R_lt (by (repeat refine Up1.r ?_); exact HO189.out))) (bZ_ (by repeat first|exact HB.out | refine Up1.w ?_ | refine bS_ ?_ GE147.out | refine bS_ ?_ GE148.out | refine bS_ ?_ GE173.out))); replace BK147 := Az0.mk (bB_ (Ups.b BK147.out) hb); replace BK148 := Az0.mk (bB_ (Ups.b BK148.out) hb); replace BK173 := Az0.mk (bB_ (Ups.b BK173.out) hb); have n15_ := Az0.mk (bP_ (by repeat first|exact HB.out | refine Up1.w ?_ | refine bS_ ?_ GE147.out | refine bS_ ?_ GE148.out | refine bS_ ?_ GE173.out) hb); clear HO152; clear HO156; clear HO160; clear HO164; clear HO168; clear HO172; clear HO177; clear HO181; clear HO185; clear HO189; clear HB; have HO152 := n0_; have HO156 := n1_; have HO160 := n2_; have HO164 := n3_; have HO168 := n4_; have HO172 := n5_; have HO177 := n6_; have HO181 := n7_; have HO185 := n8_; have HO189 := n9_; have HO193 := n10_; have HO197 := n11_; have HB := n15_; clear n0_ n1_ n2_ n3_ n4_ n5_ n6_ n7_ n8_ n9_ n10_ n11_ n15_; (try clear hb); (try clear hb2); (try clear hk); (try clear hi); (try clear ho0); (try clear ho1)) | ((with_reducible refine gD_ (N := 10) rfl ?_); refine bE_ ?hg (N := 10) ?hd (cs := #[.bool false, .slice none 0 0, .bool false, .slice none 0 0]) (t := 77) ?hr ?_; (case hd => rfl); (case hg => rfl); (case hr => first | (go_simp; done) | (go_simp; rfl)); intro gb198 hg w37 hbox hb; replace HO168 := Az0.mk (Kd.rW_ (by (repeat refine Up1.r ?_); exact HO168.out) hb); replace HO172 := Az0.mk (Kd.rW_ (by (repeat refine Up1.r ?_); exact HO172.out) hb); replace HO193 := Az0.mk (Kd.rW_ (by (repeat refine Up1.r ?_); exact HO193.out) hb); replace HO197 := Az0.mk (Kd.rW_ (by (repeat refine Up1.r ?_); exact HO197.out) hb); have n12_ := Az0.mk (bB_ (Ups.b BK147.out) hb); have n13_ := Az0.mk (bB_ (Ups.b BK148.out) hb); have n14_ := Az0.mk (bB_ (Ups.b BK173.out) hb); have n15_ := Az0.mk (bP_ (by repeat first|exact HB.out | refine Up1.w ?_ | refine bS_ ?_ GE147.out | refine bS_ ?_ GE148.out | refine bS_ ?_ GE173.out) hb); have n16_ := Az0.mk (hbox); have n17_ := Az0.mk ((by rw [hg]; exact (bZ_ (by repeat first|exact HB.out | refine Up1.w ?_ | refine bS_ ?_ GE147.out | refine bS_ ?_ GE148.out | refine bS_ ?_ GE173.out)) : w.heap.size ≤ gb198)); have n18_ := Az0.mk ((by rw [hg]; exact (bZ_ (by repeat first|exact HB.out | refine Up1.w ?_ | refine bS_ ?_ GE147.out | refine bS_ ?_ GE148.out | refine bS_ ?_ GE173.out)) : w.heap.size ≤ gb198)); have n19_ := Az0.mk ((by rw [hg]; exact Nat.ne_of_lt (bL_ (Ups.b BK147.out)) : gb147 ≠ gb198)); have n20_ := Az0.mk ((by rw [hg]; exact Nat.ne_of_gt (bL_ (Ups.b BK147.out)) : gb198 ≠ gb147)); have n21_ := Az0.mk ((by rw [hg]; exact Nat.ne_of_lt (bL_ (Ups.b BK148.out)) : gb148 ≠ gb198)); have n22_ := Az0.mk ((by rw [hg]; exact Nat.ne_of_gt (bL_ (Ups.b BK148.out)) : gb198 ≠ gb148)); have n23_ := Az0.mk ((by rw [hg]; exact Nat.ne_of_lt (bL_ (Ups.b BK173.out)) : gb173 ≠ gb198)); have n24_ := Az0.mk ((by rw [hg]; exact Nat.ne_of_gt (bL_ (Ups.b BK173.out)) : gb198 ≠ gb173)); clear BK147; clear BK148; clear BK173; clear HB; have BK147 := n12_; have BK148 := n13_; have BK173 := n14_; have HB := n15_; have BK198 := n16_; have GW198 := n17_; have GE198 := n18_; have NB147_198 := n19_; have NB198_147 := n20_; have NB148_198 := n21_; have NB198_148 := n22_; have NB173_198 := n23_; have NB198_173 := n24_; clear n12_ n13_ n14_ n15_ n16_ n17_ n18_ n19_ n20_ n21_ n22_ n23_ n24_; clear hb hbox hg; have hnb38 := NB198_147.out; have hnc38 := NB147_198.out; have hnb39 := NB198_148.out; have hnc39 := NB148_198.out; have hnb40 := NB198_173.out; have hnc40 := NB173_198.out; have hcz41_0 : w37.cell? ⟨gb198, 0, none⟩ = some (.bool false) := (bkC BK198.out 0).trans rfl; have hcz41_1 : w37.cell? ⟨gb198, 1, none⟩ = some (.slice none 0 0) := (bkC BK198.out 1).trans rfl; have hcz41_2 : w37.cell? ⟨gb198, 2, none⟩ = some (.bool false) := (bkC BK198.out 2).trans rfl; have hcz41_3 : w37.cell? ⟨gb198, 3, none⟩ = some (.slice none 0 0) := (bkC BK198.out 3).trans rfl; have hfz41_0 := bF_ BK198.out 0; have hfz41_1 := bF_ BK198.out 1; have hfz41_2 := bF_ BK198.out 2; have hfz41_3 := bF_ BK198.out 3; obtain ⟨Ao42, co42, eo42⟩ := Kd.R_slice HO193.out; subst eo42; obtain ⟨Ao43, co43, eo43⟩ := Kd.R_slice HO197.out; subst eo43; have hcz44_0 : w37.cell? ⟨gb173, 0, none⟩ = some (.bool t165) := (bkC BK173.out 0).trans rfl; have hcz44_1 : w37.cell? ⟨gb173, 1, none⟩ = some (.slice Ao27 t166.length co27) := (bkC BK173.out 1).trans rfl; have hcz44_2 : w37.cell? ⟨gb173, 2, none⟩ = some (.bool t169) := (bkC BK173.out 2).trans rfl; have hcz44_3 : w37.cell? ⟨gb173, 3, none⟩ = some (.slice Ao28 t170.length co28) := (bkC BK173.out 3).trans rfl; have hfz44_0 := bF_ BK173.out 0; have hfz44_1 := bF_ BK173.out 1; have hfz44_2 := bF_ BK173.out 2; have hfz44_3 := bF_ BK173.out 3) | ((with_reducible refine gate_callee (f := 57) rfl ?_); refine goesL_ (some 23) rfl rfl Try.func57 (by kernel_rfl) rfl #[.agg #[.bool t165, .slice Ao27 t166.length co27, .bool t169, .slice Ao28 t170.length co28], .agg #[.bool t190, .slice Ao42 t191.length co42, .bool t194, .slice Ao43 t195.length co43]] rfl (by (try simp only [List.map_toArray, List.map_cons, List.map_nil]); first | done | rfl | (simp only [List.length_drop, List.length_take]; rfl)) ?_; (with_reducible refine (trishawref01_Cmp.calls k t165 _ _ t166 t169 _ _ t170 t190 _ _ t191 t194 _ _ t195 t199 _ ?side1 ?side2 ?side3 ?side4 ?side5 ?side6 ?side7 ?side8 A11.out).mono ?_); (case side1 => refine (Kd.R_reads' (e := 3) (base := w.heap.size) (ok := fun k_ => ((((((((((some k_ ≠ (.slice Ao28 t170.length co28 : Value).ownBlock ∧ some k_ ≠ (.slice Ao18 t150.length co18 : Value).ownBlock) ∧ some k_ ≠ (.slice Ao19 t154.length co19 : Value).ownBlock) ∧ some k_ ≠ (.slice Ao20 t158.length co20 : Value).ownBlock) ∧ some k_ ≠ (.slice Ao21 t162.length co21 : Value).ownBlock) ∧ some k_ ≠ (.slice Ao32 t175.length co32 : Value).ownBlock) ∧ some k_ ≠ (.slice Ao33 t179.length co33 : Value).ownBlock) ∧ some k_ ≠ (.slice Ao34 t183.length co34 : Value).ownBlock) ∧ some k_ ≠ (.slice Ao35 t187.length co35 : Value).ownBlock) ∧ some k_ ≠ (.slice Ao42 t191.length co42 : Value).ownBlock) ∧ some k_ ≠ (.slice Ao43 t195.length co43 : Value).ownBlock)) (n := t166.length) (c := co27) ?_).2.2; exact (by (repeat refine Up1.r ?_); exact (Kd.rM_ (Kd.rF_ (p := ⟨gb198, 3, none⟩) (Kd.rF_ (p := ⟨gb198, 2, none⟩) (Kd.rF_ (p := ⟨gb198, 1, none⟩) (Kd.rF_ (p := ⟨gb198, 0, none⟩) (Kd.rY_ HO168.out BK198.out (by decide)) (fun _ hk => hk.2) (.bool t190)) (fun _ hk => hk.2) (.slice Ao42 t191.length co42)) (fun _ hk => hk.2) (.bool t194)) (fun _ hk => hk.2) (.slice Ao43 t195.length co43)) (fun _ h_ => h_.1)))); (case side2 => exact (Kd.R_reads' HO168.out).2.1); (case side3 => refine (Kd.R_reads' (e := 3) (base := w.heap.size) (ok := fun k_ => ((((((((((some k_ ≠ (.slice Ao27 t166.length co27 : Value).ownBlock ∧ some k_ ≠ (.slice Ao18 t150.length co18 : Value).ownBlock) ∧ some k_ ≠ (.slice Ao19 t154.length co19 : Value).ownBlock) ∧ some k_ ≠ (.slice Ao20 t158.length co20 : Value).ownBlock) ∧ some k_ ≠ (.slice Ao21 t162.length co21 : Value).ownBlock) ∧ some k_ ≠ (.slice Ao32 t175.length co32 : Value).ownBlock) ∧ some k_ ≠ (.slice Ao33 t179.length co33 : Value).ownBlock) ∧ some k_ ≠ (.slice Ao34 t183.length co34 : Value).ownBlock) ∧ some k_ ≠ (.slice Ao35 t187.length co35 : Value).ownBlock) ∧ some k_ ≠ (.slice Ao42 t191.length co42 : Value).ownBlock) ∧ some k_ ≠ (.slice Ao43 t195.length co43 : Value).ownBlock)) (n := t170.length) (c := co28) ?_).2.2; exact (by (repeat refine Up1.r ?_); exact (Kd.rM_ (Kd.rF_ (p := ⟨gb198, 3, none⟩) (Kd.rF_ (p := ⟨gb198, 2, none⟩) (Kd.rF_ (p := ⟨gb198, 1, none⟩) (Kd.rF_ (p := ⟨gb198, 0, none⟩) (Kd.rY_ HO172.out BK198.out (by decide)) (fun _ hk => hk.2) (.bool t190)) (fun _ hk => hk.2) (.slice Ao42 t191.length co42)) (fun _ hk => hk.2) (.bool t194)) (fun _ hk => hk.2) (.slice Ao43 t195.length co43)) (fun _ h_ => h_.1)))); (case side4 => exact (Kd.R_reads' HO172.out).2.1); (case side5 => refine (Kd.R_reads' (e := 3) (base := w.heap.size) (ok := fun k_ => ((((((((((some k_ ≠ (.slice Ao43 t195.length co43 : Value).ownBlock ∧ some k_ ≠ (.slice Ao18 t150.length co18 : Value).ownBlock) ∧ some k_ ≠ (.slice Ao19 t154.length co19 : Value).ownBlock) ∧ some k_ ≠ (.slice Ao20 t158.length co20 : Value).ownBlock) ∧ some k_ ≠ (.slice Ao21 t162.length co21 : Value).ownBlock) ∧ some k_ ≠ (.slice Ao27 t166.length co27 : Value).ownBlock) ∧ some k_ ≠ (.slice Ao28 t170.length co28 : Value).ownBlock) ∧ some k_ ≠ (.slice Ao32 t175.length co32 : Value).ownBlock) ∧ some k_ ≠ (.slice Ao33 t179.length co33 : Value).ownBlock) ∧ some k_ ≠ (.slice Ao34 t183.length co34 : Value).ownBlock) ∧ some k_ ≠ (.slice Ao35 t187.length co35 : Value).ownBlock)) (n := t191.length) (c := co42) ?_).2.2; exact (by (repeat refine Up1.r ?_); exact (Kd.rM_ (Kd.rF_ (p := ⟨gb198, 3, none⟩) (Kd.rF_ (p := ⟨gb198, 2, none⟩) (Kd.rF_ (p := ⟨gb198, 1, none⟩) (Kd.rF_ (p := ⟨gb198, 0, none⟩) (Kd.rY_ HO193.out BK198.out (by decide)) (fun _ hk => hk.2) (.bool t190)) (fun _ hk => hk.2) (.slice Ao42 t191.length co42)) (fun _ hk => hk.2) (.bool t194)) (fun _ hk => hk.2) (.slice Ao43 t195.length co43)) (fun _ h_ => h_.1)))); (case side6 => exact (Kd.R_reads' HO193.out).2.1); (case side7 => refine (Kd.R_reads' (e := 3) (base := w.heap.size) (ok := fun k_ => ((((((((((some k_ ≠ (.slice Ao42 t191.length co42 : Value).ownBlock ∧ some k_ ≠ (.slice Ao18 t150.length co18 : Value).ownBlock) ∧ some k_ ≠ (.slice Ao19 t154.length co19 : Value).ownBlock) ∧ some k_ ≠ (.slice Ao20 t158.length co20 : Value).ownBlock) ∧ some k_ ≠ (.slice Ao21 t162.length co21 : Value).ownBlock) ∧ some k_ ≠ (.slice Ao27 t166.length co27 : Value).ownBlock) ∧ some k_ ≠ (.slice Ao28 t170.length co28 : Value).ownBlock) ∧ some k_ ≠ (.slice Ao32 t175.length co32 : Value).ownBlock) ∧ some k_ ≠ (.slice Ao33 t179.length co33 : Value).ownBlock) ∧ some k_ ≠ (.slice Ao34 t183.length co34 : Value).ownBlock) ∧ some k_ ≠ (.slice Ao35 t187.length co35 : Value).ownBlock)) (n := t195.length) (c := co43) ?_).2.2; exact (by (repeat refine Up1.r ?_); exact (Kd.rM_ (Kd.rF_ (p := ⟨gb198, 3, none⟩) (Kd.rF_ (p := ⟨gb198, 2, none⟩) (Kd.rF_ (p := ⟨gb198, 1, none⟩) (Kd.rF_ (p := ⟨gb198, 0, none⟩) (Kd.rY_ HO197.out BK198.out (by decide)) (fun _ hk => hk.2) (.bool t190)) (fun _ hk => hk.2) (.slice Ao42 t191.length co42)) (fun _ hk => hk.2) (.bool t194)) (fun _ hk => hk.2) (.slice Ao43 t195.length co43)) (fun _ h_ => h_.1)))); (case side8 => exact (Kd.R_reads' HO197.out).2.1); rintro e w45 ⟨rfl, hb⟩; refine ⟨_, rfl, ?_⟩; replace HB := Az0.mk (bP_ (by repeat first|exact HB.out | refine Up1.w ?_ | refine bS_ ?_ GE147.out | refine bS_ ?_ GE148.out | refine bS_ ?_ GE173.out | refine bS_ ?_ GE198.out) hb); (try clear hb); (try clear hb2); (try clear hk); (try clear hi)))
 go_ret
 exact ⟨by first | rfl | (simp [errW_none, errW_some] <;> rfl) | (simp [*, errW_none, errW_some] <;> rfl), by repeat first|exact HB.out | refine Up1.w ?_ | refine bS_ ?_ GE147.out | refine bS_ ?_ GE148.out | refine bS_ ?_ GE173.out | refine bS_ ?_ GE198.out⟩
end Go.Proofs.Ytjgbdicbdlollaa.B
namespace Go.Proofs.Ytjgbdicbdlollaa.B
open Go.RowKit Go.Proofs.YtjgbdicbdlollaaW.PrintWords Go.Proofs.YtjgbdicbdlollaaW.PrintLast Go.Proofs.YtjgbdicbdlollaaW.PrintMore
attribute [local go_sem] max2_int min2_int max_two min_two max_three min_three max_four min_four   -- for this text's walks alone
set_option linter.unusedVariables false
set_option linter.unusedSimpArgs false
attribute [local go_sem high] eqA28
mutual
def lJS_.j0 : Nat → List (S36) → Bool → List Int → Int → Option (Bool)
  | 0, _, _, _, _ => none
  | k + 1, x0, x31, x102000, x102001 => if x31 = true then ((lAl_.f k).bind fun t103 => (some t103)) else ((jam_Balance.f k x0).bind fun bt104 => ((jCh_.f k x0).bind fun bt113 => ((jam_InBalance.f k x0 bt104.1 bt104.2.1).bind fun bt122 => ((jam_Delay.f k x0 bt104.1 bt104.2.1).bind fun bt124 => ((jam_Delay.f k x0 bt113.1 bt113.2.1).bind fun bt128 => (if bt104.2.2.2.2 = 0 then (if bt113.2.2.2.2 = 0 then (if bt122.2 = 0 then (if bt124.2.2 = 0 then (if bt128.2.2 = 0 then (if bt122.1 = true then (if (!(bt124.1 == bt104.2.2.1) || (!(bt124.2.1 == bt104.2.2.2.1))) = true then (lJS_.j1 k x0 true x102000 x102001 bt104.1 bt104.2.1 bt104.2.2.1 bt104.2.2.2.1 bt113.1 bt113.2.1 bt113.2.2.1 bt113.2.2.2.1) else (if (!(bt128.1 == bt113.2.2.1) || (!(bt128.2.1 == bt113.2.2.2.1))) = true then (lJS_.j1 k x0 true x102000 x102001 bt104.1 bt104.2.1 bt104.2.2.1 bt104.2.2.2.1 bt113.1 bt113.2.1 bt113.2.2.1 bt113.2.2.2.1) else (if bt104.2.2.2.1 < 1 then (lJS_.j1 k x0 true x102000 x102001 bt104.1 bt104.2.1 bt104.2.2.1 bt104.2.2.2.1 bt113.1 bt113.2.1 bt113.2.2.1 bt113.2.2.2.1) else (lJS_.j1 k x0 (decide (bt113.2.2.2.1 < 1)) x102000 x102001 bt104.1 bt104.2.1 bt104.2.2.1 bt104.2.2.2.1 bt113.1 bt113.2.1 bt113.2.2.1 bt113.2.2.2.1)))) else (lJS_.j1 k x0 true x102000 x102001 bt104.1 bt104.2.1 bt104.2.2.1 bt104.2.2.2.1 bt113.1 bt113.2.1 bt113.2.2.1 bt113.2.2.2.1)) else (lJS_.j1 k x0 true x102000 x102001 bt104.1 bt104.2.1 bt104.2.2.1 bt104.2.2.2.1 bt113.1 bt113.2.1 bt113.2.2.1 bt113.2.2.2.1)) else (lJS_.j1 k x0 true x102000 x102001 bt104.1 bt104.2.1 bt104.2.2.1 bt104.2.2.2.1 bt113.1 bt113.2.1 bt113.2.2.1 bt113.2.2.2.1)) else (lJS_.j1 k x0 true x102000 x102001 bt104.1 bt104.2.1 bt104.2.2.1 bt104.2.2.2.1 bt113.1 bt113.2.1 bt113.2.2.1 bt113.2.2.2.1)) else (lJS_.j1 k x0 true x102000 x102001 bt104.1 bt104.2.1 bt104.2.2.1 bt104.2.2.2.1 bt113.1 bt113.2.1 bt113.2.2.1 bt113.2.2.2.1)) else (lJS_.j1 k x0 true x102000 x102001 bt104.1 bt104.2.1 bt104.2.2.1 bt104.2.2.2.1 bt113.1 bt113.2.1 bt113.2.2.1 bt113.2.2.2.1)))))))
def lJS_.j1 : Nat → List (S36) → Bool → List Int → Int → List Int → Int → Int → Int → List Int → Int → Int → Int → Option (Bool)
  | 0, _, _, _, _, _, _, _, _, _, _, _, _ => none
  | k + 1, x0, x104, x102000, x102001, x112000, x112001, x113000, x113001, x121000, x121001, x122000, x122001 => if x104 = true then (some false) else ((lLe_.f k x113000 x113001 1 x122000 x122001 1).bind fun t132 => (if t132 = true then (lJS_.j2 k x0 true x102000 x102001 x112000 x112001 x121000 x121001 x122000 x122001) else ((lLe_.f k x122000 x122001 4 x113000 x113001 3).bind fun t133 => (lJS_.j2 k x0 t133 x102000 x102001 x112000 x112001 x121000 x121001 x122000 x122001))))
def lJS_.j2 : Nat → List (S36) → Bool → List Int → Int → List Int → Int → List Int → Int → Int → Int → Option (Bool)
  | 0, _, _, _, _, _, _, _, _, _, _ => none
  | k + 1, x0, x112, x102000, x102001, x112000, x112001, x121000, x121001, x122000, x122001 => if x112 = true then (some false) else ((jam_InBalance.f k x0 x102000 x102001).bind fun bt134 => ((jam_Delay.f k x0 x102000 x102001).bind fun bt136 => (if bt134.2 = 0 then (if bt134.1 = true then ((trishawlaw02_parts.f k x102000 x102001 x112000 x112001).bind fun t140 => (lJS_.j3 k bt136.2.2 bt134.1 (!t140) x102000 x102001 x121000 x121001 x122000 x122001 bt136.1 bt136.2.1)) else (lJS_.j3 k bt136.2.2 bt134.1 false x102000 x102001 x121000 x121001 x122000 x122001 bt136.1 bt136.2.1)) else (lJS_.j3 k bt136.2.2 bt134.1 true x102000 x102001 x121000 x121001 x122000 x122001 bt136.1 bt136.2.1))))
def lJS_.j3 : Nat → Int → Bool → Bool → List Int → Int → List Int → Int → Int → Int → Int → Int → Option (Bool)
  | 0, _, _, _, _, _, _, _, _, _, _, _ => none
  | k + 1, x10, x11, x135, x102000, x102001, x121000, x121001, x122000, x122001, x140000, x140001 => if x135 = true then (some false) else (if x10 = 0 then (if x140001 ≥ 1 then ((lLe_.f k x140000 x140001 1 x122000 x122001 1).bind fun t141 => (if t141 = true then (some false) else (if (!(x140000 == x122000) || (!(x140001 == x122001))) = true then ((lAl_.f k).bind fun t142 => (some t142)) else ((trishawlaw02_parts.f k x102000 x102001 x121000 x121001).bind fun t143 => (if t143 = true then ((lAl_.f k).bind fun t144 => (some t144)) else (some false)))))) else (some false)) else (if x10 = 2 then (if x11 = true then (some false) else ((lAl_.f k).bind fun t145 => (some t145))) else (some false)))
end
def lJS_.f (k : Nat) (l0 : List (S36)) (l1_0 : List Int) (a1_1 : Int) : Option (Bool) := if (l0.length : Int) > 20 then (lJS_.j0 k l0 true l1_0 a1_1) else (if (l1_0.length : Int) > 20 then (lJS_.j0 k l0 true l1_0 a1_1) else ((rLn.f k l0).bind fun t102 => (lJS_.j0 k l0 (t102 != 0) l1_0 a1_1)))
theorem lJS_.j1_no (k : Nat) (y0 : List (S36)) (y2 : List Int) (y3 : Int) (y4 : List Int) (y5 : Int) (y6 : Int) (y7 : Int) (y8 : List Int) (y9 : Int) (y10 : Int) (y11 : Int) (r : Bool) (h : lJS_.j1 k y0 true y2 y3 y4 y5 y6 y7 y8 y9 y10 y11 = some r) : r = false := by
  cases k with
  | zero => simp only [lJS_.j1] at h; exact absurd h (by simp)
  | succ k => simp only [lJS_.j1] at h; rw [if_pos trivial] at h; exact (Option.some.inj h).symm
theorem lJS_.j2_no (k : Nat) (y0 : List (S36)) (y2 : List Int) (y3 : Int) (y4 : List Int) (y5 : Int) (y6 : List Int) (y7 : Int) (y8 : Int) (y9 : Int) (r : Bool) (h : lJS_.j2 k y0 true y2 y3 y4 y5 y6 y7 y8 y9 = some r) : r = false := by
  cases k with
  | zero => simp only [lJS_.j2] at h; exact absurd h (by simp)
  | succ k => simp only [lJS_.j2] at h; rw [if_pos trivial] at h; exact (Option.some.inj h).symm
theorem lJS_.j3_no (k : Nat) (y0 : Int) (y1 : Bool) (y3 : List Int) (y4 : Int) (y5 : List Int) (y6 : Int) (y7 : Int) (y8 : Int) (y9 : Int) (y10 : Int) (r : Bool) (h : lJS_.j3 k y0 y1 true y3 y4 y5 y6 y7 y8 y9 y10 = some r) : r = false := by
  cases k with
  | zero => simp only [lJS_.j3] at h; exact absurd h (by simp)
  | succ k => simp only [lJS_.j3] at h; rw [if_pos trivial] at h; exact (Option.some.inj h).symm
set_option maxHeartbeats 8000000 in
set_option maxRecDepth 100000 in
theorem lJS_.calls (k : Nat) (A0 : Option Addr) (c0 : Nat) (l0 : List (S36)) (A1_0 : Option Addr) (c1_0 : Nat) (l1_0 : List Int) (a1_1 : Int) (r : Bool) (w : World) (hr0 : Kd.C k36 w A0 l0.length l0) (hc0 : l0.length ≤ c0) (hr1_0 : Kd.C (Kd.int .i64) w A1_0 l1_0.length l1_0) (hc1_0 : l1_0.length ≤ c1_0) (h : lJS_.f k l0 l1_0 a1_1 = some r) (hrt : r = true) :
  Calls Try.prog 14 #[.slice A0 l0.length c0, .agg #[.slice A1_0 l1_0.length c1_0, .int .i64 a1_1]] w fun e w' => e = .returned (.bool r) ∧ Below w.heap.size w w' := by
 have hu26 := Try.underlying26
 have hu28 := Try.underlying28
 have HR0 := Az0.mk hr0
 have HC0 := Az0.mk hc0
 clear hr0 hc0
 have HR1_0 := Az0.mk hr1_0
 have HC1_0 := Az0.mk hc1_0
 clear hr1_0 hc1_0
 have HB := Az0.mk (Below.refl w.heap.size w)
 have H : (if (l0.length : Int) > 20 then (lJS_.j0 k l0 true l1_0 a1_1) else (if (l1_0.length : Int) > 20 then (lJS_.j0 k l0 true l1_0 a1_1) else ((rLn.f k l0).bind fun t102 => (lJS_.j0 k l0 (t102 != 0) l1_0 a1_1)))) = some r := h
 clear h
 have HRT := Az0.mk hrt
 clear hrt
 have HC3 := Az0.mk H
 clear H
 go_enter Try.func14, Try.ntmps14
 go_upto_region 1 with (first | ((with_reducible refine gD_ (N := 3) rfl ?_); (try (refine gate_guard (by rfl) ?_; dsimp only)); refine bE_ ?hg (N := 3) ?hd (cs := #[.slice A1_0 l1_0.length c1_0, .int .i64 a1_1]) (t := 26) ?hr ?_; (case hd => rfl); (case hg => rfl); (case hr => first | (go_simp; done) | (go_simp; rfl)); intro gb101 hg w4 hbox hb; have n0_ := Az0.mk (bP_ (by exact Ups.w HB.out) hb); have n1_ := Az0.mk (hbox); have n2_ := Az0.mk ((by rw [hg]; exact (bZ_ (by exact Ups.w HB.out)) : w.heap.size ≤ gb101)); have n3_ := Az0.mk ((by rw [hg]; exact (bZ_ (by exact Ups.w HB.out)) : w.heap.size ≤ gb101)); clear HB; have HB := n0_; have BK101 := n1_; have GW101 := n2_; have GE101 := n3_; clear n0_ n1_ n2_ n3_; clear hb hbox hg))
 (try simp only [Act.put, Ups.sA, Ups.sZ, Ups.sS])
 go_cut [31] (fun v31 wc => ∃ (kq : Nat) (x31_2 : Bool), v31 = .bool x31_2 ∧ Az0 (lJS_.j0 kq l0 x31_2 l1_0 a1_1 = some r) ∧ Az0 (kq ≤ k) ∧ Az0 (wc.heap[gb101]? = some (.cells #[(.slice A1_0 l1_0.length c1_0), .int .i64 a1_1] 26 (0, 0))) ∧ Az0 (Below w.heap.size w wc))
 case first =>
  have H := HC3.out
  clear HC3
  by_cases c5 : (l0.length : Int) > 20
  ·rw [if_pos c5] at H
   have c5b0 : decide (20 < (l0.length : Int)) = true := decide_eq_true c5
   have c5b1 : decide (20 < l0.length) = true := decide_eq_true (by omega)
   clear c5
   (first | rw [c5b0] | (simp only [i64_w, i32_w]; rw [c5b0]) | skip)
   have H' := Az0.mk H
   clear H
   go_wp2
   go_meet
   case rel => exact ⟨_, (true), (by first | rfl | (simp; done) | (simp [*]; done)), H', ⟨by first | omega | exact Nat.le_refl _⟩, ⟨by refine Ups.b ?_; exact BK101.out⟩, ⟨by repeat first|exact HB.out | refine Up1.w ?_ | refine bS_ ?_ GE101.out⟩⟩
  rw [if_neg c5] at H
  have c5b0 : decide (20 < (l0.length : Int)) = false := decide_eq_false c5
  have c5b1 : decide (20 < l0.length) = false := decide_eq_false (by omega)
  clear c5
  (first | rw [c5b0] | (simp only [i64_w, i32_w]; rw [c5b0]) | skip)
  by_cases c6 : (l1_0.length : Int) > 20
  ·rw [if_pos c6] at H
   have c6b0 : decide (20 < (l1_0.length : Int)) = true := decide_eq_true c6
   have c6b1 : decide (20 < l1_0.length) = true := decide_eq_true (by omega)
   clear c6
   have H' := Az0.mk H
   clear H
   have hcz7_0 : w4.cell? ⟨gb101, 0, none⟩ = some (.slice A1_0 l1_0.length c1_0) := (bkC BK101.out 0).trans rfl
   have hcz7_1 : w4.cell? ⟨gb101, 1, none⟩ = some (.int .i64 a1_1) := (bkC BK101.out 1).trans rfl
   have hfz7_0 := bF_ BK101.out 0
   have hfz7_1 := bF_ BK101.out 1
   go_wp2
   go_meet
   case rel => exact ⟨_, (true), (by first | rfl | (simp; done) | (simp [*]; done)), H', ⟨by first | omega | exact Nat.le_refl _⟩, ⟨by refine Ups.b ?_; exact BK101.out⟩, ⟨by repeat first|exact HB.out | refine Up1.w ?_ | refine bS_ ?_ GE101.out⟩⟩
  rw [if_neg c6] at H
  have c6b0 : decide (20 < (l1_0.length : Int)) = false := decide_eq_false c6
  have c6b1 : decide (20 < l1_0.length) = false := decide_eq_false (by omega)
  clear c6
  replace H := Option.bind_eq_some_iff.mp H
  obtain ⟨t102, A80, H⟩ := H
  try dsimp only at H
  have A8 := Az0.mk A80
  clear A80
  have H' := Az0.mk H
  clear H
  have hcz9_0 : w4.cell? ⟨gb101, 0, none⟩ = some (.slice A1_0 l1_0.length c1_0) := (bkC BK101.out 0).trans rfl
  have hcz9_1 : w4.cell? ⟨gb101, 1, none⟩ = some (.int .i64 a1_1) := (bkC BK101.out 1).trans rfl
  have hfz9_0 := bF_ BK101.out 0
  have hfz9_1 := bF_ BK101.out 1
  go_wp2_with (first | (go_at_call 22; (with_reducible refine (rLn.calls k _ _ l0 t102 _ ?side1 ?side2 A8.out).mono ?_); (case side1 => repeat (first | exact (Kd.C_below HR0.out HB.out) | refine Up1.c ?_)); (case side2 => exact HC0.out); rintro e w' ⟨rfl, ⟨nd, rfl⟩⟩))
  go_meet
  case rel => exact ⟨_, ((t102 != 0)), (by first | rfl | (simp; done) | (simp [*]; done)), H', ⟨by first | omega | exact Nat.le_refl _⟩, ⟨by refine Ups.b ?_; exact BK101.out⟩, ⟨by repeat first|exact HB.out | refine Up1.w ?_ | refine bS_ ?_ GE101.out⟩⟩
 case rest =>
  clear HC3
  try clear c1
  try clear p2
  try clear c5
  try clear c5b0
  try clear c5b1
  try clear c6
  try clear c6b0
  try clear c6b1
  try clear hcz7_0
  try clear hcz7_1
  try clear hcz9_0
  try clear hcz9_1
  try clear hfz7_0
  try clear hfz7_1
  try clear hfz9_0
  try clear hfz9_1
  obtain ⟨kq, x31_2, rfl, HA, HJ2, BK101, HB⟩ := hcut
  cases kq with
  | zero => exact absurd HA.out (by simp [lJS_.j0])
  | succ kj2 =>
   have H := HA.out
   clear HA
   simp only [lJS_.j0] at H
   by_cases c10 : x31_2 = true
   ·subst c10
    have H1 : ((lAl_.f kj2).bind fun t103 => (some t103)) = some r := by rw [if_pos rfl] at H; exact H
    clear H
    have H := H1
    clear H1
    replace H := Option.bind_eq_some_iff.mp H
    obtain ⟨t103, A110, H⟩ := H
    try dsimp only at H
    have A11 := Az0.mk A110
    clear A110
    obtain rfl := Option.some.inj H
    go_wp2_with (first | ((with_reducible refine gate_callee (f := 16) rfl ?_); refine goesL_ (some 32) rfl rfl Try.func16 (by kernel_rfl) rfl #[] rfl (by (try simp only [List.map_toArray, List.map_cons, List.map_nil]); first | done | rfl | (simp only [List.length_drop, List.length_take]; rfl)) ?_; (with_reducible refine (lAl_.calls kj2  t103 _ A11.out).mono ?_); rintro e w12 ⟨rfl, hb⟩; refine ⟨_, rfl, ?_⟩; replace BK101 := Az0.mk (bB_ (Ups.b BK101.out) hb); replace HB := Az0.mk (bP_ (by repeat first|exact HB.out | refine Up1.w ?_ | refine bS_ ?_ GE101.out) hb); (try clear hb); (try clear hb2); (try clear hk); (try clear hi)))
    go_ret
    exact ⟨by first | rfl | (simp [errW_none, errW_some] <;> rfl) | (simp [*, errW_none, errW_some] <;> rfl), by repeat first|exact HB.out | refine Up1.w ?_ | refine bS_ ?_ GE101.out⟩
   replace c10 := Bool.eq_false_iff.mpr c10
   subst c10
   have H1 : ((jam_Balance.f kj2 l0).bind fun bt104 => ((jCh_.f kj2 l0).bind fun bt113 => ((jam_InBalance.f kj2 l0 bt104.1 bt104.2.1).bind fun bt122 => ((jam_Delay.f kj2 l0 bt104.1 bt104.2.1).bind fun bt124 => ((jam_Delay.f kj2 l0 bt113.1 bt113.2.1).bind fun bt128 => (if bt104.2.2.2.2 = 0 then (if bt113.2.2.2.2 = 0 then (if bt122.2 = 0 then (if bt124.2.2 = 0 then (if bt128.2.2 = 0 then (if bt122.1 = true then (if (!(bt124.1 == bt104.2.2.1) || (!(bt124.2.1 == bt104.2.2.2.1))) = true then (lJS_.j1 kj2 l0 true l1_0 a1_1 bt104.1 bt104.2.1 bt104.2.2.1 bt104.2.2.2.1 bt113.1 bt113.2.1 bt113.2.2.1 bt113.2.2.2.1) else (if (!(bt128.1 == bt113.2.2.1) || (!(bt128.2.1 == bt113.2.2.2.1))) = true then (lJS_.j1 kj2 l0 true l1_0 a1_1 bt104.1 bt104.2.1 bt104.2.2.1 bt104.2.2.2.1 bt113.1 bt113.2.1 bt113.2.2.1 bt113.2.2.2.1) else (if bt104.2.2.2.1 < 1 then (lJS_.j1 kj2 l0 true l1_0 a1_1 bt104.1 bt104.2.1 bt104.2.2.1 bt104.2.2.2.1 bt113.1 bt113.2.1 bt113.2.2.1 bt113.2.2.2.1) else (lJS_.j1 kj2 l0 (decide (bt113.2.2.2.1 < 1)) l1_0 a1_1 bt104.1 bt104.2.1 bt104.2.2.1 bt104.2.2.2.1 bt113.1 bt113.2.1 bt113.2.2.1 bt113.2.2.2.1)))) else (lJS_.j1 kj2 l0 true l1_0 a1_1 bt104.1 bt104.2.1 bt104.2.2.1 bt104.2.2.2.1 bt113.1 bt113.2.1 bt113.2.2.1 bt113.2.2.2.1)) else (lJS_.j1 kj2 l0 true l1_0 a1_1 bt104.1 bt104.2.1 bt104.2.2.1 bt104.2.2.2.1 bt113.1 bt113.2.1 bt113.2.2.1 bt113.2.2.2.1)) else (lJS_.j1 kj2 l0 true l1_0 a1_1 bt104.1 bt104.2.1 bt104.2.2.1 bt104.2.2.2.1 bt113.1 bt113.2.1 bt113.2.2.1 bt113.2.2.2.1)) else (lJS_.j1 kj2 l0 true l1_0 a1_1 bt104.1 bt104.2.1 bt104.2.2.1 bt104.2.2.2.1 bt113.1 bt113.2.1 bt113.2.2.1 bt113.2.2.2.1)) else (lJS_.j1 kj2 l0 true l1_0 a1_1 bt104.1 bt104.2.1 bt104.2.2.1 bt104.2.2.2.1 bt113.1 bt113.2.1 bt113.2.2.1 bt113.2.2.2.1)) else (lJS_.j1 kj2 l0 true l1_0 a1_1 bt104.1 bt104.2.1 bt104.2.2.1 bt104.2.2.2.1 bt113.1 bt113.2.1 bt113.2.2.1 bt113.2.2.2.1))))))) = some r := by rw [if_neg (show ¬ (false = true) by decide)] at H; exact H
   clear H
   have H := H1
   clear H1
   replace H := Option.bind_eq_some_iff.mp H
   obtain ⟨⟨t104, t107, t108, t109, t110⟩, A130, H⟩ := H
   try dsimp only at H
   have A13 := Az0.mk A130
   clear A130
   replace H := Option.bind_eq_some_iff.mp H
   obtain ⟨⟨t113, t116, t117, t118, t119⟩, A140, H⟩ := H
   try dsimp only at H
   have A14 := Az0.mk A140
   clear A140
   replace H := Option.bind_eq_some_iff.mp H
   obtain ⟨⟨t122, t123⟩, A150, H⟩ := H
   try dsimp only at H
   have A15 := Az0.mk A150
   clear A150
   replace H := Option.bind_eq_some_iff.mp H
   obtain ⟨⟨t124, t125, t126⟩, A160, H⟩ := H
   try dsimp only at H
   have A16 := Az0.mk A160
   clear A160
   replace H := Option.bind_eq_some_iff.mp H
   obtain ⟨⟨t128, t129, t130⟩, A170, H⟩ := H
   try dsimp only at H
   have A17 := Az0.mk A170
   clear A170
   have HC18 := Az0.mk H
   clear H
   go_upto_region 8 with (first | ((with_reducible refine gate_callee (f := 17) rfl ?_); refine goesL_ (some 35) rfl rfl Try.func17 (by kernel_rfl) rfl #[.slice A0 l0.length c0] rfl (by (try simp only [List.map_toArray, List.map_cons, List.map_nil]); first | done | rfl | (simp only [List.length_drop, List.length_take]; rfl)) ?_; (with_reducible refine (jam_Balance.calls kj2 _ _ l0 t104 t107 t108 t109 t110 _ ?side1 ?side2 A13.out).mono ?_); (case side1 => repeat (first | exact (Kd.C_below HR0.out HB.out) | refine Up1.c ?_)); (case side2 => exact HC0.out); rintro e w19 ⟨v105, rfl, ho0, hb⟩; refine ⟨_, rfl, ?_⟩; have n0_ := Az0.mk (Kd.R_lower ho0 (bZ_ (by repeat first|exact HB.out | refine Up1.w ?_ | refine bS_ ?_ GE101.out))); replace BK101 := Az0.mk (bB_ (Ups.b BK101.out) hb); have n2_ := Az0.mk (bP_ (by repeat first|exact HB.out | refine Up1.w ?_ | refine bS_ ?_ GE101.out) hb); clear HB; have HO106 := n0_; have HB := n2_; clear n0_ n2_; (try clear hb); (try clear hb2); (try clear hk); (try clear hi); (try clear ho0)) | ((with_reducible refine gD_ (N := 5) rfl ?_); (try (refine gate_guard (by rfl) ?_; dsimp only)); refine bE_ ?hg (N := 5) ?hd (cs := #[.slice none 0 0, .int .i64 0]) (t := 26) ?hr ?_; (case hd => rfl); (case hg => rfl); (case hr => first | (go_simp; done) | (go_simp; rfl)); intro gb111 hg w20 hbox hb; replace HO106 := Az0.mk (Kd.rW_ (by (repeat refine Up1.r ?_); exact HO106.out) hb); have n1_ := Az0.mk (bB_ (Ups.b BK101.out) hb); have n2_ := Az0.mk (bP_ (by repeat first|exact HB.out | refine Up1.w ?_ | refine bS_ ?_ GE101.out) hb); have n3_ := Az0.mk (hbox); have n4_ := Az0.mk ((by rw [hg]; exact (bZ_ (by repeat first|exact HB.out | refine Up1.w ?_ | refine bS_ ?_ GE101.out)) : w.heap.size ≤ gb111)); have n5_ := Az0.mk ((by rw [hg]; exact (bZ_ (by repeat first|exact HB.out | refine Up1.w ?_ | refine bS_ ?_ GE101.out)) : w.heap.size ≤ gb111)); have n6_ := Az0.mk ((by rw [hg]; exact Nat.ne_of_lt (bL_ (Ups.b BK101.out)) : gb101 ≠ gb111)); have n7_ := Az0.mk ((by rw [hg]; exact Nat.ne_of_gt (bL_ (Ups.b BK101.out)) : gb111 ≠ gb101)); clear BK101; clear HB; have BK101 := n1_; have HB := n2_; have BK111 := n3_; have GW111 := n4_; have GE111 := n5_; have NB101_111 := n6_; have NB111_101 := n7_; clear n1_ n2_ n3_ n4_ n5_ n6_ n7_; clear hb hbox hg) | ((with_reducible refine gD_ (N := 6) rfl ?_); (try (refine gate_guard (by rfl) ?_; dsimp only)); refine bE_ ?hg (N := 6) ?hd (cs := #[.int .i64 0, .int .i64 0]) (t := 28) ?hr ?_; (case hd => rfl); (case hg => rfl); (case hr => first | (go_simp; done) | (go_simp; rfl)); intro gb112 hg w21 hbox hb; replace HO106 := Az0.mk (Kd.rW_ (by (repeat refine Up1.r ?_); exact HO106.out) hb); have n1_ := Az0.mk (bB_ (Ups.b BK101.out) hb); have n2_ := Az0.mk (bB_ (Ups.b BK111.out) hb); have n3_ := Az0.mk (bP_ (by repeat first|exact HB.out | refine Up1.w ?_ | refine bS_ ?_ GE101.out | refine bS_ ?_ GE111.out) hb); have n4_ := Az0.mk (hbox); have n5_ := Az0.mk ((by rw [hg]; exact (bZ_ (by repeat first|exact HB.out | refine Up1.w ?_ | refine bS_ ?_ GE101.out | refine bS_ ?_ GE111.out)) : w.heap.size ≤ gb112)); have n6_ := Az0.mk ((by rw [hg]; exact (bZ_ (by repeat first|exact HB.out | refine Up1.w ?_ | refine bS_ ?_ GE101.out | refine bS_ ?_ GE111.out)) : w.heap.size ≤ gb112)); have n7_ := Az0.mk ((by rw [hg]; exact Nat.ne_of_lt (bL_ (Ups.b BK101.out)) : gb101 ≠ gb112)); have n8_ := Az0.mk ((by rw [hg]; exact Nat.ne_of_gt (bL_ (Ups.b BK101.out)) : gb112 ≠ gb101)); have n9_ := Az0.mk ((by rw [hg]; exact Nat.ne_of_lt (bL_ (Ups.b BK111.out)) : gb111 ≠ gb112)); have n10_ := Az0.mk ((by rw [hg]; exact Nat.ne_of_gt (bL_ (Ups.b BK111.out)) : gb112 ≠ gb111)); clear BK101; clear BK111; clear HB; have BK101 := n1_; have BK111 := n2_; have HB := n3_; have BK112 := n4_; have GW112 := n5_; have GE112 := n6_; have NB101_112 := n7_; have NB112_101 := n8_; have NB111_112 := n9_; have NB112_111 := n10_; clear n1_ n2_ n3_ n4_ n5_ n6_ n7_ n8_ n9_ n10_; clear hb hbox hg; obtain ⟨Ao22, co22, eo22⟩ := Kd.R_slice HO106.out; subst eo22; have hnb23 := NB111_101.out; have hnc23 := NB101_111.out; have hnb24 := NB111_112.out; have hnc24 := NB112_111.out; have hcz25_0 : w21.cell? ⟨gb111, 0, none⟩ = some (.slice none 0 0) := (bkC BK111.out 0).trans rfl; have hcz25_1 : w21.cell? ⟨gb111, 1, none⟩ = some (.int .i64 0) := (bkC BK111.out 1).trans rfl; have hfz25_0 := bF_ BK111.out 0; have hfz25_1 := bF_ BK111.out 1; have hnb26 := NB112_101.out; have hnc26 := NB101_112.out; have hcz27_0 : w21.cell? ⟨gb112, 0, none⟩ = some (.int .i64 0) := (bkC BK112.out 0).trans rfl; have hcz27_1 : w21.cell? ⟨gb112, 1, none⟩ = some (.int .i64 0) := (bkC BK112.out 1).trans rfl; have hfz27_0 := bF_ BK112.out 0; have hfz27_1 := bF_ BK112.out 1) | ((with_reducible refine gate_callee (f := 20) rfl ?_); refine goesL_ (some 41) rfl rfl Try.func20 (by kernel_rfl) rfl #[.slice A0 l0.length c0] rfl (by (try simp only [List.map_toArray, List.map_cons, List.map_nil]); first | done | rfl | (simp only [List.length_drop, List.length_take]; rfl)) ?_; (with_reducible refine (jCh_.calls kj2 _ _ l0 t113 t116 t117 t118 t119 _ ?side1 ?side2 A14.out).mono ?_); (case side1 => exact Kd.C_below HR0.out (by repeat first|exact HB.out | refine Up1.w ?_ | refine bS_ ?_ GE101.out | refine bS_ ?_ GE111.out | refine bS_ ?_ GE112.out)); (case side2 => exact HC0.out); rintro e w28 ⟨v114, rfl, ho0, hb⟩; refine ⟨_, rfl, ?_⟩; have n0_ := Az0.mk (Kd.R_elder' (by (repeat refine Up1.r ?_); exact (Kd.rM_ (Kd.rM_ (Kd.rF_ (p := ⟨gb112, 1, none⟩) (Kd.rF_ (p := ⟨gb112, 0, none⟩) (Kd.rF_ (p := ⟨gb111, 1, none⟩) (Kd.rF_ (p := ⟨gb111, 0, none⟩) (Kd.rY_ (Kd.rY_ HO106.out BK111.out (by decide)) BK112.out (by decide)) (fun _ hk => hk.1.2) (.slice Ao22 t104.length co22)) (fun _ hk => hk.1.2) (.int .i64 t107)) (fun _ hk => hk.2) (.int .i64 t108)) (fun _ hk => hk.2) (.int .i64 t109)) (fun _ h_ => h_.1)) (fun _ h_ => h_.1))) (Kd.rB_ ho0) hb); have n1_ := Az0.mk (Kd.R_lower (Kd.R_new' ho0 (Kd.R_lt (by (repeat refine Up1.r ?_); exact (Kd.rM_ (Kd.rM_ (Kd.rF_ (p := ⟨gb112, 1, none⟩) (Kd.rF_ (p := ⟨gb112, 0, none⟩) (Kd.rF_ (p := ⟨gb111, 1, none⟩) (Kd.rF_ (p := ⟨gb111, 0, none⟩) (Kd.rY_ (Kd.rY_ HO106.out BK111.out (by decide)) BK112.out (by decide)) (fun _ hk => hk.1.2) (.slice Ao22 t104.length co22)) (fun _ hk => hk.1.2) (.int .i64 t107)) (fun _ hk => hk.2) (.int .i64 t108)) (fun _ hk => hk.2) (.int .i64 t109)) (fun _ h_ => h_.1)) (fun _ h_ => h_.1))))) (bZ_ (by repeat first|exact HB.out | refine Up1.w ?_ | refine bS_ ?_ GE101.out | refine bS_ ?_ GE111.out | refine bS_ ?_ GE112.out))); replace BK101 := Az0.mk (bB_ (g := gb101) (o := .cells #[.slice A1_0 l1_0.length c1_0, .int .i64 a1_1] 26 (0, 0)) (by refine Ups.b ?_; refine bR_ ?_ NB101_112.out _; refine Ups.b ?_; refine bR_ ?_ NB101_112.out _; refine Ups.b ?_; refine bR_ ?_ NB101_111.out _; refine Ups.b ?_; refine bR_ ?_ NB101_111.out _; refine Ups.b ?_; exact BK101.out) hb); have n3_ := Az0.mk (bB_ (g := gb111) (o := .cells #[.slice Ao22 t104.length co22, .int .i64 t107] 26 (0, 0)) (by refine Ups.b ?_; refine bR_ ?_ NB111_112.out _; refine Ups.b ?_; refine bR_ ?_ NB111_112.out _; refine Ups.b ?_; refine blk_put (cs := #[.slice Ao22 t104.length co22, .int .i64 0]) ?_ 1 _ rfl; refine Ups.b ?_; refine blk_put (cs := #[.slice none 0 0, .int .i64 0]) ?_ 0 _ rfl; refine Ups.b ?_; exact BK111.out) hb); have n4_ := Az0.mk (bB_ (g := gb112) (o := .cells #[.int .i64 t108, .int .i64 t109] 28 (0, 0)) (by refine Ups.b ?_; refine blk_put (cs := #[.int .i64 t108, .int .i64 0]) ?_ 1 _ rfl; refine Ups.b ?_; refine blk_put (cs := #[.int .i64 0, .int .i64 0]) ?_ 0 _ rfl; refine Ups.b ?_; refine bR_ ?_ NB112_111.out _; refine Ups.b ?_; refine bR_ ?_ NB112_111.out _; refine Ups.b ?_; exact BK112.out) hb); have n5_ := Az0.mk (bP_ (by repeat first|exact HB.out | refine Up1.w ?_ | refine bS_ ?_ GE101.out | refine bS_ ?_ GE111.out | refine bS_ ?_ GE112.out) hb); clear HO106; clear BK111; clear BK112; clear HB; have HO106 := n0_; have HO115 := n1_; have BK111 := n3_; have BK112 := n4_; have HB := n5_; clear n0_ n1_ n3_ n4_ n5_; (try clear hb); (try clear hb2); (try clear hk); (try clear hi); (try clear ho0)) | ((with_reducible refine gD_ (N := 8) rfl ?_); (try (refine gate_guard (by rfl) ?_; dsimp only)); refine bE_ ?hg (N := 8) ?hd (cs := #[.slice none 0 0, .int .i64 0]) (t := 26) ?hr ?_; (case hd => rfl); (case hg => rfl); (case hr => first | (go_simp; done) | (go_simp; rfl)); intro gb120 hg w29 hbox hb; replace HO106 := Az0.mk (Kd.rW_ (by (repeat refine Up1.r ?_); exact HO106.out) hb); replace HO115 := Az0.mk (Kd.rW_ (by (repeat refine Up1.r ?_); exact HO115.out) hb); have n2_ := Az0.mk (bB_ (Ups.b BK101.out) hb); have n3_ := Az0.mk (bB_ (Ups.b BK111.out) hb); have n4_ := Az0.mk (bB_ (Ups.b BK112.out) hb); have n5_ := Az0.mk (bP_ (by repeat first|exact HB.out | refine Up1.w ?_ | refine bS_ ?_ GE101.out | refine bS_ ?_ GE111.out | refine bS_ ?_ GE112.out) hb); have n6_ := Az0.mk (hbox); have n7_ := Az0.mk ((by rw [hg]; exact (bZ_ (by repeat first|exact HB.out | refine Up1.w ?_ | refine bS_ ?_ GE101.out | refine bS_ ?_ GE111.out | refine bS_ ?_ GE112.out)) : w.heap.size ≤ gb120)); have n8_ := Az0.mk ((by rw [hg]; exact (bZ_ (by repeat first|exact HB.out | refine Up1.w ?_ | refine bS_ ?_ GE101.out | refine bS_ ?_ GE111.out | refine bS_ ?_ GE112.out)) : w.heap.size ≤ gb120)); have n9_ := Az0.mk ((by rw [hg]; exact Nat.ne_of_lt (bL_ (Ups.b BK101.out)) : gb101 ≠ gb120)); have n10_ := Az0.mk ((by rw [hg]; exact Nat.ne_of_gt (bL_ (Ups.b BK101.out)) : gb120 ≠ gb101)); have n11_ := Az0.mk ((by rw [hg]; exact Nat.ne_of_lt (bL_ (Ups.b BK111.out)) : gb111 ≠ gb120)); have n12_ := Az0.mk ((by rw [hg]; exact Nat.ne_of_gt (bL_ (Ups.b BK111.out)) : gb120 ≠ gb111)); have n13_ := Az0.mk ((by rw [hg]; exact Nat.ne_of_lt (bL_ (Ups.b BK112.out)) : gb112 ≠ gb120)); have n14_ := Az0.mk ((by rw [hg]; exact Nat.ne_of_gt (bL_ (Ups.b BK112.out)) : gb120 ≠ gb112)); clear BK101; clear BK111; clear BK112; clear HB; have BK101 := n2_; have BK111 := n3_; have BK112 := n4_; have HB := n5_; have BK120 := n6_; have GW120 := n7_; have GE120 := n8_; have NB101_120 := n9_; have NB120_101 := n10_; have NB111_120 := n11_; have NB120_111 := n12_; have NB112_120 := n13_; have NB120_112 := n14_; clear n2_ n3_ n4_ n5_ n6_ n7_ n8_ n9_ n10_ n11_ n12_ n13_ n14_; clear hb hbox hg) | ((with_reducible refine gD_ (N := 9) rfl ?_); (try (refine gate_guard (by rfl) ?_; dsimp only)); refine bE_ ?hg (N := 9) ?hd (cs := #[.int .i64 0, .int .i64 0]) (t := 28) ?hr ?_; (case hd => rfl); (case hg => rfl); (case hr => first | (go_simp; done) | (go_simp; rfl)); intro gb121 hg w30 hbox hb; replace HO106 := Az0.mk (Kd.rW_ (by (repeat refine Up1.r ?_); exact HO106.out) hb); replace HO115 := Az0.mk (Kd.rW_ (by (repeat refine Up1.r ?_); exact HO115.out) hb); have n2_ := Az0.mk (bB_ (Ups.b BK101.out) hb); have n3_ := Az0.mk (bB_ (Ups.b BK111.out) hb); have n4_ := Az0.mk (bB_ (Ups.b BK112.out) hb); have n5_ := Az0.mk (bB_ (Ups.b BK120.out) hb); have n6_ := Az0.mk (bP_ (by repeat first|exact HB.out | refine Up1.w ?_ | refine bS_ ?_ GE101.out | refine bS_ ?_ GE111.out | refine bS_ ?_ GE112.out | refine bS_ ?_ GE120.out) hb); have n7_ := Az0.mk (hbox); have n8_ := Az0.mk ((by rw [hg]; exact (bZ_ (by repeat first|exact HB.out | refine Up1.w ?_ | refine bS_ ?_ GE101.out | refine bS_ ?_ GE111.out | refine bS_ ?_ GE112.out | refine bS_ ?_ GE120.out)) : w.heap.size ≤ gb121)); have n9_ := Az0.mk ((by rw [hg]; exact (bZ_ (by repeat first|exact HB.out | refine Up1.w ?_ | refine bS_ ?_ GE101.out | refine bS_ ?_ GE111.out | refine bS_ ?_ GE112.out | refine bS_ ?_ GE120.out)) : w.heap.size ≤ gb121)); have n10_ := Az0.mk ((by rw [hg]; exact Nat.ne_of_lt (bL_ (Ups.b BK101.out)) : gb101 ≠ gb121)); have n11_ := Az0.mk ((by rw [hg]; exact Nat.ne_of_gt (bL_ (Ups.b BK101.out)) : gb121 ≠ gb101)); have n12_ := Az0.mk ((by rw [hg]; exact Nat.ne_of_lt (bL_ (Ups.b BK111.out)) : gb111 ≠ gb121)); have n13_ := Az0.mk ((by rw [hg]; exact Nat.ne_of_gt (bL_ (Ups.b BK111.out)) : gb121 ≠ gb111)); have n14_ := Az0.mk ((by rw [hg]; exact Nat.ne_of_lt (bL_ (Ups.b BK112.out)) : gb112 ≠ gb121)); have n15_ := Az0.mk ((by rw [hg]; exact Nat.ne_of_gt (bL_ (Ups.b BK112.out)) : gb121 ≠ gb112)); have n16_ := Az0.mk ((by rw [hg]; exact Nat.ne_of_lt (bL_ (Ups.b BK120.out)) : gb120 ≠ gb121)); have n17_ := Az0.mk ((by rw [hg]; exact Nat.ne_of_gt (bL_ (Ups.b BK120.out)) : gb121 ≠ gb120)); clear BK101; clear BK111; clear BK112; clear BK120; clear HB; have BK101 := n2_; have BK111 := n3_; have BK112 := n4_; have BK120 := n5_; have HB := n6_; have BK121 := n7_; have GW121 := n8_; have GE121 := n9_; have NB101_121 := n10_; have NB121_101 := n11_; have NB111_121 := n12_; have NB121_111 := n13_; have NB112_121 := n14_; have NB121_112 := n15_; have NB120_121 := n16_; have NB121_120 := n17_; clear n2_ n3_ n4_ n5_ n6_ n7_ n8_ n9_ n10_ n11_ n12_ n13_ n14_ n15_ n16_ n17_; clear hb hbox hg; obtain ⟨Ao31, co31, eo31⟩ := Kd.R_slice HO115.out; subst eo31; have hnb32 := NB120_101.out; have hnc32 := NB101_120.out; have hnb33 := NB120_111.out; have hnc33 := NB111_120.out; have hnb34 := NB120_112.out; have hnc34 := NB112_120.out; have hnb35 := NB120_121.out; have hnc35 := NB121_120.out; have hcz36_0 : w30.cell? ⟨gb120, 0, none⟩ = some (.slice none 0 0) := (bkC BK120.out 0).trans rfl; have hcz36_1 : w30.cell? ⟨gb120, 1, none⟩ = some (.int .i64 0) := (bkC BK120.out 1).trans rfl; have hfz36_0 := bF_ BK120.out 0; have hfz36_1 := bF_ BK120.out 1; have hnb37 := NB121_101.out; have hnc37 := NB101_121.out; have hnb38 := NB121_111.out; have hnc38 := NB111_121.out; have hnb39 := NB121_112.out; have hnc39 := NB112_121.out; have hcz40_0 : w30.cell? ⟨gb121, 0, none⟩ = some (.int .i64 0) := (bkC BK121.out 0).trans rfl; have hcz40_1 : w30.cell? ⟨gb121, 1, none⟩ = some (.int .i64 0) := (bkC BK121.out 1).trans rfl; have hfz40_0 := bF_ BK121.out 0; have hfz40_1 := bF_ BK121.out 1; have hcz41_0 : w30.cell? ⟨gb111, 0, none⟩ = some (.slice Ao22 t104.length co22) := (bkC BK111.out 0).trans rfl; have hcz41_1 : w30.cell? ⟨gb111, 1, none⟩ = some (.int .i64 t107) := (bkC BK111.out 1).trans rfl; have hfz41_0 := bF_ BK111.out 0; have hfz41_1 := bF_ BK111.out 1) | ((with_reducible refine gate_callee (f := 45) rfl ?_); refine goesL_ (some 48) rfl rfl Try.func45 (by kernel_rfl) rfl #[.slice A0 l0.length c0, .agg #[.slice Ao22 t104.length co22, .int .i64 t107]] rfl (by (try simp only [List.map_toArray, List.map_cons, List.map_nil]); first | done | rfl | (simp only [List.length_drop, List.length_take]; rfl)) ?_; (with_reducible refine (jam_InBalance.calls kj2 _ _ l0 _ _ t104 t107 t122 t123 _ ?side1 ?side2 ?side3 ?side4 A15.out).mono ?_); (case side1 => exact Kd.C_below HR0.out (by repeat first|exact HB.out | refine Up1.w ?_ | refine bS_ ?_ GE101.out | refine bS_ ?_ GE111.out | refine bS_ ?_ GE112.out | refine bS_ ?_ GE120.out | refine bS_ ?_ GE121.out)); (case side2 => exact HC0.out); (case side3 => refine (Kd.R_reads' (e := 3) (base := w.heap.size) (ok := fun k_ => (True ∧ some k_ ≠ (.slice Ao31 t113.length co31 : Value).ownBlock)) (n := t104.length) (c := co22) ?_).2.2; exact (by (repeat refine Up1.r ?_); exact (Kd.rM_ (Kd.rM_ (Kd.rF_ (p := ⟨gb121, 1, none⟩) (Kd.rF_ (p := ⟨gb121, 0, none⟩) (Kd.rF_ (p := ⟨gb120, 1, none⟩) (Kd.rF_ (p := ⟨gb120, 0, none⟩) (Kd.rY_ (Kd.rY_ HO106.out BK120.out (by decide)) BK121.out (by decide)) (fun _ hk => hk.1.2) (.slice Ao31 t113.length co31)) (fun _ hk => hk.1.2) (.int .i64 t116)) (fun _ hk => hk.2) (.int .i64 t117)) (fun _ hk => hk.2) (.int .i64 t118)) (fun _ h_ => h_.1)) (fun _ h_ => h_.1)))); (case side4 => exact (Kd.R_reads' HO106.out).2.1); rintro e w42 ⟨rfl, hb⟩; refine ⟨_, rfl, ?_⟩; have n0_ := Az0.mk (Kd.rW_ (by (repeat refine Up1.r ?_); exact (Kd.rM_ (Kd.rM_ (Kd.rF_ (p := ⟨gb121, 1, none⟩) (Kd.rF_ (p := ⟨gb121, 0, none⟩) (Kd.rF_ (p := ⟨gb120, 1, none⟩) (Kd.rF_ (p := ⟨gb120, 0, none⟩) (Kd.rY_ (Kd.rY_ HO106.out BK120.out (by decide)) BK121.out (by decide)) (fun _ hk => hk.1.2) (.slice Ao31 t113.length co31)) (fun _ hk => hk.1.2) (.int .i64 t116)) (fun _ hk => hk.2) (.int .i64 t117)) (fun _ hk => hk.2) (.int .i64 t118)) (fun _ h_ => h_.1)) (fun _ h_ => h_.1))) hb); have n1_ := Az0.mk (Kd.rW_ (by (repeat refine Up1.r ?_); exact (Kd.rM_ (Kd.rM_ (Kd.rF_ (p := ⟨gb121, 1, none⟩) (Kd.rF_ (p := ⟨gb121, 0, none⟩) (Kd.rF_ (p := ⟨gb120, 1, none⟩) (Kd.rF_ (p := ⟨gb120, 0, none⟩) (Kd.rY_ (Kd.rY_ HO115.out BK120.out (by decide)) BK121.out (by decide)) (fun _ hk => hk.1.2) (.slice Ao31 t113.length co31)) (fun _ hk => hk.1.2) (.int .i64 t116)) (fun _ hk => hk.2) (.int .i64 t117)) (fun _ hk => hk.2) (.int .i64 t118)) (fun _ h_ => h_.1)) (fun _ h_ => h_.1))) hb); replace BK101 := Az0.mk (bB_ (g := gb101) (o := .cells #[.slice A1_0 l1_0.length c1_0, .int .i64 a1_1] 26 (0, 0)) (by refine Ups.b ?_; refine bR_ ?_ NB101_121.out _; refine Ups.b ?_; refine bR_ ?_ NB101_121.out _; refine Ups.b ?_; refine bR_ ?_ NB101_120.out _; refine Ups.b ?_; refine bR_ ?_ NB101_120.out _; refine Ups.b ?_; exact BK101.out) hb); replace BK111 := Az0.mk (bB_ (g := gb111) (o := .cells #[.slice Ao22 t104.length co22, .int .i64 t107] 26 (0, 0)) (by refine Ups.b ?_; refine bR_ ?_ NB111_121.out _; refine Ups.b ?_; refine bR_ ?_ NB111_121.out _; refine Ups.b ?_; refine bR_ ?_ NB111_120.out _; refine Ups.b ?_; refine bR_ ?_ NB111_120.out _; refine Ups.b ?_; exact BK111.out) hb); replace BK112 := Az0.mk (bB_ (g := gb112) (o := .cells #[.int .i64 t108, .int .i64 t109] 28 (0, 0)) (by refine Ups.b ?_; refine bR_ ?_ NB112_121.out _; refine Ups.b ?_; refine bR_ ?_ NB112_121.out _; refine Ups.b ?_; refine bR_ ?_ NB112_120.out _; refine Ups.b ?_; refine bR_ ?_ NB112_120.out _; refine Ups.b ?_; exact BK112.out) hb); have n5_ := Az0.mk (bB_ (g := gb120) (o := .cells #[.slice Ao31 t113.length co31, .int .i64 t116] 26 (0, 0)) (by refine Ups.b ?_; refine bR_ ?_ NB120_121.out _; refine Ups.b ?_; refine bR_ ?_ NB120_121.out _; refine Ups.b ?_; refine blk_put (cs := #[.slice Ao31 t113.length co31, .int .i64 0]) ?_ 1 _ rfl; refine Ups.b ?_; refine blk_put (cs := #[.slice none 0 0, .int .i64 0]) ?_ 0 _ rfl; refine Ups.b ?_; exact BK120.out) hb); have n6_ := Az0.mk (bB_ (g := gb121) (o := .cells #[.int .i64 t117, .int .i64 t118] 28 (0, 0)) (by refine Ups.b ?_; refine blk_put (cs := #[.int .i64 t117, .int .i64 0]) ?_ 1 _ rfl; refine Ups.b ?_; refine blk_put (cs := #[.int .i64 0, .int .i64 0]) ?_ 0 _ rfl; refine Ups.b ?_; refine bR_ ?_ NB121_120.out _; refine Ups.b ?_; refine bR_ ?_ NB121_120.out _; refine Ups.b ?_; exact BK121.out) hb); replace HB := Az0.mk (bP_ (by repeat first|exact HB.out | refine Up1.w ?_ | refine bS_ ?_ GE101.out | refine bS_ ?_ GE111.out | refine bS_ ?_ GE112.out | refine bS_ ?_ GE120.out | refine bS_ ?_ GE121.out) hb); clear HO106; clear HO115; clear BK120; clear BK121; have HO106 := n0_; have HO115 := n1_; have BK120 := n5_; have BK121 := n6_; clear n0_ n1_ n5_ n6_; (try clear hb); (try clear hb2); (try clear hk); (try clear hi); have hcz43_0 : w42.cell? ⟨gb111, 0, none⟩ = some (.slice Ao22 t104.length co22) := (bkC BK111.out 0).trans rfl; have hcz43_1 : w42.cell? ⟨gb111, 1, none⟩ = some (.int .i64 t107) := (bkC BK111.out 1).trans rfl; have hfz43_0 := bF_ BK111.out 0; have hfz43_1 := bF_ BK111.out 1) | ((with_reducible refine gate_callee (f := 43) rfl ?_); refine goesL_ (some 54) rfl rfl Try.func43 (by kernel_rfl) rfl #[.slice A0 l0.length c0, .agg #[.slice Ao22 t104.length co22, .int .i64 t107]] rfl (by (try simp only [List.map_toArray, List.map_cons, List.map_nil]); first | done | rfl | (simp only [List.length_drop, List.length_take]; rfl)) ?_; (with_reducible refine (jam_Delay.calls kj2 _ _ l0 _ _ t104 t107 t124 t125 t126 _ ?side1 ?side2 ?side3 ?side4 A16.out).mono ?_); (case side1 => repeat (first | exact (Kd.C_below HR0.out HB.out) | refine Up1.c ?_)); (case side2 => exact HC0.out); (case side3 => repeat (first | exact (Kd.R_reads' HO106.out).2.2 | refine Up1.c ?_)); (case side4 => exact (Kd.R_reads' HO106.out).2.1); rintro e w44 ⟨rfl, hb⟩; refine ⟨_, rfl, ?_⟩; replace HO106 := Az0.mk (Kd.rW_ (by (repeat refine Up1.r ?_); exact HO106.out) hb); replace HO115 := Az0.mk (Kd.rW_ (by (repeat refine Up1.r ?_); exact HO115.out) hb); replace BK101 := Az0.mk (bB_ (Ups.b BK101.out) hb); replace BK111 := Az0.mk (bB_ (Ups.b BK111.out) hb); replace BK112 := Az0.mk (bB_ (Ups.b BK112.out) hb); replace BK120 := Az0.mk (bB_ (Ups.b BK120.out) hb); replace BK121 := Az0.mk (bB_ (Ups.b BK121.out) hb); replace HB := Az0.mk (bP_ (by repeat first|exact HB.out | refine Up1.w ?_ | refine bS_ ?_ GE101.out | refine bS_ ?_ GE111.out | refine bS_ ?_ GE112.out | refine bS_ ?_ GE120.out | refine bS_ ?_ GE121.out) hb); (try clear hb); (try clear hb2); (try clear hk); (try clear hi)) | ((with_reducible refine gD_ (N := 13) rfl ?_); (try (refine gate_guard (by rfl) ?_; dsimp only)); refine bE_ ?hg (N := 13) ?hd (cs := #[.int .i64 0, .int .i64 0]) (t := 28) ?hr ?_; (case hd => rfl); (case hg => rfl); (case hr => first | (go_simp; done) | (go_simp; rfl)); intro gb127 hg w45 hbox hb; replace HO106 := Az0.mk (Kd.rW_ (by (repeat refine Up1.r ?_); exact HO106.out) hb); replace HO115 := Az0.mk (Kd.rW_ (by (repeat refine Up1.r ?_); exact HO115.out) hb); have n2_ := Az0.mk (bB_ (Ups.b BK101.out) hb); have n3_ := Az0.mk (bB_ (Ups.b BK111.out) hb); have n4_ := Az0.mk (bB_ (Ups.b BK112.out) hb); have n5_ := Az0.mk (bB_ (Ups.b BK120.out) hb); have n6_ := Az0.mk (bB_ (Ups.b BK121.out) hb); have n7_ := Az0.mk (bP_ (by repeat first|exact HB.out | refine Up1.w ?_ | refine bS_ ?_ GE101.out | refine bS_ ?_ GE111.out | refine bS_ ?_ GE112.out | refine bS_ ?_ GE120.out | refine bS_ ?_ GE121.out) hb); have n8_ := Az0.mk (hbox); have n9_ := Az0.mk ((by rw [hg]; exact (bZ_ (by repeat first|exact HB.out | refine Up1.w ?_ | refine bS_ ?_ GE101.out | refine bS_ ?_ GE111.out | refine bS_ ?_ GE112.out | refine bS_ ?_ GE120.out | refine bS_ ?_ GE121.out)) : w.heap.size ≤ gb127)); have n10_ := Az0.mk ((by rw [hg]; exact (bZ_ (by repeat first|exact HB.out | refine Up1.w ?_ | refine bS_ ?_ GE101.out | refine bS_ ?_ GE111.out | refine bS_ ?_ GE112.out | refine bS_ ?_ GE120.out | refine bS_ ?_ GE121.out)) : w.heap.size ≤ gb127)); have n11_ := Az0.mk ((by rw [hg]; exact Nat.ne_of_lt (bL_ (Ups.b BK101.out)) : gb101 ≠ gb127)); have n12_ := Az0.mk ((by rw [hg]; exact Nat.ne_of_gt (bL_ (Ups.b BK101.out)) : gb127 ≠ gb101)); have n13_ := Az0.mk ((by rw [hg]; exact Nat.ne_of_lt (bL_ (Ups.b BK111.out)) : gb111 ≠ gb127)); have n14_ := Az0.mk ((by rw [hg]; exact Nat.ne_of_gt (bL_ (Ups.b BK111.out)) : gb127 ≠ gb111)); have n15_ := Az0.mk ((by rw [hg]; exact Nat.ne_of_lt (bL_ (Ups.b BK112.out)) : gb112 ≠ gb127)); have n16_ := Az0.mk ((by rw [hg]; exact Nat.ne_of_gt (bL_ (Ups.b BK112.out)) : gb127 ≠ gb112)); have n17_ := Az0.mk ((by rw [hg]; exact Nat.ne_of_lt (bL_ (Ups.b BK120.out)) : gb120 ≠ gb127)); have n18_ := Az0.mk ((by rw [hg]; exact Nat.ne_of_gt (bL_ (Ups.b BK120.out)) : gb127 ≠ gb120)); have n19_ := Az0.mk ((by rw [hg]; exact Nat.ne_of_lt (bL_ (Ups.b BK121.out)) : gb121 ≠ gb127)); have n20_ := Az0.mk ((by rw [hg]; exact Nat.ne_of_gt (bL_ (Ups.b BK121.out)) : gb127 ≠ gb121)); clear BK101; clear BK111; clear BK112; clear BK120; clear BK121; clear HB; have BK101 := n2_; have BK111 := n3_; have BK112 := n4_; have BK120 := n5_; have BK121 := n6_; have HB := n7_; have BK127 := n8_; have GW127 := n9_; have GE127 := n10_; have NB101_127 := n11_; have NB127_101 := n12_; have NB111_127 := n13_; have NB127_111 := n14_; have NB112_127 := n15_; have NB127_112 := n16_; have NB120_127 := n17_; have NB127_120 := n18_; have NB121_127 := n19_; have NB127_121 := n20_; clear n2_ n3_ n4_ n5_ n6_ n7_ n8_ n9_ n10_ n11_ n12_ n13_ n14_ n15_ n16_ n17_ n18_ n19_ n20_; clear hb hbox hg; have hnb46 := NB127_101.out; have hnc46 := NB101_127.out; have hnb47 := NB127_111.out; have hnc47 := NB111_127.out; have hnb48 := NB127_112.out; have hnc48 := NB112_127.out; have hnb49 := NB127_120.out; have hnc49 := NB120_127.out; have hnb50 := NB127_121.out; have hnc50 := NB121_127.out; have hcz51_0 : w45.cell? ⟨gb127, 0, none⟩ = some (.int .i64 0) := (bkC BK127.out 0).trans rfl; have hcz51_1 : w45.cell? ⟨gb127, 1, none⟩ = some (.int .i64 0) := (bkC BK127.out 1).trans rfl; have hfz51_0 := bF_ BK127.out 0; have hfz51_1 := bF_ BK127.out 1; have hcz52_0 : w45.cell? ⟨gb120, 0, none⟩ = some (.slice Ao31 t113.length co31) := (bkC BK120.out 0).trans rfl; have hcz52_1 : w45.cell? ⟨gb120, 1, none⟩ = some (.int .i64 t116) := (bkC BK120.out 1).trans rfl; have hfz52_0 := bF_ BK120.out 0; have hfz52_1 := bF_ BK120.out 1) | ((with_reducible refine gate_callee (f := 43) rfl ?_); refine goesL_ (some 60) rfl rfl Try.func43 (by kernel_rfl) rfl #[.slice A0 l0.length c0, .agg #[.slice Ao31 t113.length co31, .int .i64 t116]] rfl (by (try simp only [List.map_toArray, List.map_cons, List.map_nil]); first | done | rfl | (simp only [List.length_drop, List.length_take]; rfl)) ?_; (with_reducible refine (jam_Delay.calls kj2 _ _ l0 _ _ t113 t116 t128 t129 t130 _ ?side1 ?side2 ?side3 ?side4 A17.out).mono ?_); (case side1 => exact Kd.C_below HR0.out (by repeat first|exact HB.out | refine Up1.w ?_ | refine bS_ ?_ GE101.out | refine bS_ ?_ GE111.out | refine bS_ ?_ GE112.out | refine bS_ ?_ GE120.out | refine bS_ ?_ GE121.out | refine bS_ ?_ GE127.out)); (case side2 => exact HC0.out); (case side3 => refine (Kd.R_reads' (e := 3) (base := w.heap.size) (ok := fun k_ => (True ∧ some k_ ≠ (.slice Ao22 t104.length co22 : Value).ownBlock)) (n := t113.length) (c := co31) ?_).2.2; exact (by (repeat refine Up1.r ?_); exact (Kd.rM_ (Kd.rF_ (p := ⟨gb127, 1, none⟩) (Kd.rF_ (p := ⟨gb127, 0, none⟩) (Kd.rY_ HO115.out BK127.out (by decide)) (fun _ hk => hk.2) (.int .i64 t124)) (fun _ hk => hk.2) (.int .i64 t125)) (fun _ h_ => h_.1)))); (case side4 => exact (Kd.R_reads' HO115.out).2.1); rintro e w53 ⟨rfl, hb⟩; refine ⟨_, rfl, ?_⟩; have n0_ := Az0.mk (Kd.rW_ (by (repeat refine Up1.r ?_); exact (Kd.rM_ (Kd.rF_ (p := ⟨gb127, 1, none⟩) (Kd.rF_ (p := ⟨gb127, 0, none⟩) (Kd.rY_ HO106.out BK127.out (by decide)) (fun _ hk => hk.2) (.int .i64 t124)) (fun _ hk => hk.2) (.int .i64 t125)) (fun _ h_ => h_.1))) hb); have n1_ := Az0.mk (Kd.rW_ (by (repeat refine Up1.r ?_); exact (Kd.rM_ (Kd.rF_ (p := ⟨gb127, 1, none⟩) (Kd.rF_ (p := ⟨gb127, 0, none⟩) (Kd.rY_ HO115.out BK127.out (by decide)) (fun _ hk => hk.2) (.int .i64 t124)) (fun _ hk => hk.2) (.int .i64 t125)) (fun _ h_ => h_.1))) hb); replace BK101 := Az0.mk (bB_ (g := gb101) (o := .cells #[.slice A1_0 l1_0.length c1_0, .int .i64 a1_1] 26 (0, 0)) (by refine Ups.b ?_; refine bR_ ?_ NB101_127.out _; refine Ups.b ?_; refine bR_ ?_ NB101_127.out _; refine Ups.b ?_; exact BK101.out) hb); replace BK111 := Az0.mk (bB_ (g := gb111) (o := .cells #[.slice Ao22 t104.length co22, .int .i64 t107] 26 (0, 0)) (by refine Ups.b ?_; refine bR_ ?_ NB111_127.out _; refine Ups.b ?_; refine bR_ ?_ NB111_127.out _; refine Ups.b ?_; exact BK111.out) hb); replace BK112 := Az0.mk (bB_ (g := gb112) (o := .cells #[.int .i64 t108, .int .i64 t109] 28 (0, 0)) (by refine Ups.b ?_; refine bR_ ?_ NB112_127.out _; refine Ups.b ?_; refine bR_ ?_ NB112_127.out _; refine Ups.b ?_; exact BK112.out) hb); replace BK120 := Az0.mk (bB_ (g := gb120) (o := .cells #[.slice Ao31 t113.length co31, .int .i64 t116] 26 (0, 0)) (by refine Ups.b ?_; refine bR_ ?_ NB120_127.out _; refine Ups.b ?_; refine bR_ ?_ NB120_127.out _; refine Ups.b ?_; exact BK120.out) hb); replace BK121 := Az0.mk (bB_ (g := gb121) (o := .cells #[.int .i64 t117, .int .i64 t118] 28 (0, 0)) (by refine Ups.b ?_; refine bR_ ?_ NB121_127.out _; refine Ups.b ?_; refine bR_ ?_ NB121_127.out _; refine Ups.b ?_; exact BK121.out) hb); have n7_ := Az0.mk (bB_ (g := gb127) (o := .cells #[.int .i64 t124, .int .i64 t125] 28 (0, 0)) (by refine Ups.b ?_; refine blk_put (cs := #[.int .i64 t124, .int .i64 0]) ?_ 1 _ rfl; refine Ups.b ?_; refine blk_put (cs := #[.int .i64 0, .int .i64 0]) ?_ 0 _ rfl; refine Ups.b ?_; exact BK127.out) hb); replace HB := Az0.mk (bP_ (by repeat first|exact HB.out | refine Up1.w ?_ | refine bS_ ?_ GE101.out | refine bS_ ?_ GE111.out | refine bS_ ?_ GE112.out | refine bS_ ?_ GE120.out | refine bS_ ?_ GE121.out | refine bS_ ?_ GE127.out) hb); clear HO106; clear HO115; clear BK127; have HO106 := n0_; have HO115 := n1_; have BK127 := n7_; clear n0_ n1_ n7_; (try clear hb); (try clear hb2); (try clear hk); (try clear hi)) | ((with_reducible refine gD_ (N := 15) rfl ?_); (try (refine gate_guard (by rfl) ?_; dsimp only)); refine bE_ ?hg (N := 15) ?hd (cs := #[.int .i64 0, .int .i64 0]) (t := 28) ?hr ?_; (case hd => rfl); (case hg => rfl); (case hr => first | (go_simp; done) | (go_simp; rfl)); intro gb131 hg w54 hbox hb; replace HO106 := Az0.mk (Kd.rW_ (by (repeat refine Up1.r ?_); exact HO106.out) hb); replace HO115 := Az0.mk (Kd.rW_ (by (repeat refine Up1.r ?_); exact HO115.out) hb); have n2_ := Az0.mk (bB_ (Ups.b BK101.out) hb); have n3_ := Az0.mk (bB_ (Ups.b BK111.out) hb); have n4_ := Az0.mk (bB_ (Ups.b BK112.out) hb); have n5_ := Az0.mk (bB_ (Ups.b BK120.out) hb); have n6_ := Az0.mk (bB_ (Ups.b BK121.out) hb); have n7_ := Az0.mk (bB_ (Ups.b BK127.out) hb); have n8_ := Az0.mk (bP_ (by repeat first|exact HB.out | refine Up1.w ?_ | refine bS_ ?_ GE101.out | refine bS_ ?_ GE111.out | refine bS_ ?_ GE112.out | refine bS_ ?_ GE120.out | refine bS_ ?_ GE121.out | refine bS_ ?_ GE127.out) hb); have n9_ := Az0.mk (hbox); have n10_ := Az0.mk ((by rw [hg]; exact (bZ_ (by repeat first|exact HB.out | refine Up1.w ?_ | refine bS_ ?_ GE101.out | refine bS_ ?_ GE111.out | refine bS_ ?_ GE112.out | refine bS_ ?_ GE120.out | refine bS_ ?_ GE121.out | refine bS_ ?_ GE127.out)) : w.heap.size ≤ gb131)); have n11_ := Az0.mk ((by rw [hg]; exact (bZ_ (by repeat first|exact HB.out | refine Up1.w ?_ | refine bS_ ?_ GE101.out | refine bS_ ?_ GE111.out | refine bS_ ?_ GE112.out | refine bS_ ?_ GE120.out | refine bS_ ?_ GE121.out | refine bS_ ?_ GE127.out)) : w.heap.size ≤ gb131)); have n12_ := Az0.mk ((by rw [hg]; exact Nat.ne_of_lt (bL_ (Ups.b BK101.out)) : gb101 ≠ gb131)); have n13_ := Az0.mk ((by rw [hg]; exact Nat.ne_of_gt (bL_ (Ups.b BK101.out)) : gb131 ≠ gb101)); have n14_ := Az0.mk ((by rw [hg]; exact Nat.ne_of_lt (bL_ (Ups.b BK111.out)) : gb111 ≠ gb131)); have n15_ := Az0.mk ((by rw [hg]; exact Nat.ne_of_gt (bL_ (Ups.b BK111.out)) : gb131 ≠ gb111)); have n16_ := Az0.mk ((by rw [hg]; exact Nat.ne_of_lt (bL_ (Ups.b BK112.out)) : gb112 ≠ gb131)); have n17_ := Az0.mk ((by rw [hg]; exact Nat.ne_of_gt (bL_ (Ups.b BK112.out)) : gb131 ≠ gb112)); have n18_ := Az0.mk ((by rw [hg]; exact Nat.ne_of_lt (bL_ (Ups.b BK120.out)) : gb120 ≠ gb131)); have n19_ := Az0.mk ((by rw [hg]; exact Nat.ne_of_gt (bL_ (Ups.b BK120.out)) : gb131 ≠ gb120)); have n20_ := Az0.mk ((by rw [hg]; exact Nat.ne_of_lt (bL_ (Ups.b BK121.out)) : gb121 ≠ gb131)); have n21_ := Az0.mk ((by rw [hg]; exact Nat.ne_of_gt (bL_ (Ups.b BK121.out)) : gb131 ≠ gb121)); have n22_ := Az0.mk ((by rw [hg]; exact Nat.ne_of_lt (bL_ (Ups.b BK127.out)) : gb127 ≠ gb131)); have n23_ := Az0.mk ((by rw [hg]; exact Nat.ne_of_gt (bL_ (Ups.b BK127.out)) : gb131 ≠ gb127)); clear BK101; clear BK111; clear BK112; clear BK120; clear BK121; clear BK127; clear HB; have BK101 := n2_; have BK111 := n3_; have BK112 := n4_; have BK120 := n5_; have BK121 := n6_; have BK127 := n7_; have HB := n8_; have BK131 := n9_; have GW131 := n10_; have GE131 := n11_; have NB101_131 := n12_; have NB131_101 := n13_; have NB111_131 := n14_; have NB131_111 := n15_; have NB112_131 := n16_; have NB131_112 := n17_; have NB120_131 := n18_; have NB131_120 := n19_; have NB121_131 := n20_; have NB131_121 := n21_; have NB127_131 := n22_; have NB131_127 := n23_; clear n2_ n3_ n4_ n5_ n6_ n7_ n8_ n9_ n10_ n11_ n12_ n13_ n14_ n15_ n16_ n17_ n18_ n19_ n20_ n21_ n22_ n23_; clear hb hbox hg; have hnb55 := NB131_101.out; have hnc55 := NB101_131.out; have hnb56 := NB131_111.out; have hnc56 := NB111_131.out; have hnb57 := NB131_112.out; have hnc57 := NB112_131.out; have hnb58 := NB131_120.out; have hnc58 := NB120_131.out; have hnb59 := NB131_121.out; have hnc59 := NB121_131.out; have hnb60 := NB131_127.out; have hnc60 := NB127_131.out; have hcz61_0 : w54.cell? ⟨gb131, 0, none⟩ = some (.int .i64 0) := (bkC BK131.out 0).trans rfl; have hcz61_1 : w54.cell? ⟨gb131, 1, none⟩ = some (.int .i64 0) := (bkC BK131.out 1).trans rfl; have hfz61_0 := bF_ BK131.out 0; have hfz61_1 := bF_ BK131.out 1))
   (try simp only [Act.put, Ups.sA, Ups.sZ, Ups.sS])
   go_cut [104] (fun v104 wc => ∃ (kq : Nat) (x104_17 : Bool), v104 = .bool x104_17 ∧ Az0 (lJS_.j1 kq l0 x104_17 l1_0 a1_1 t104 t107 t108 t109 t113 t116 t117 t118 = some r) ∧ Az0 (kq ≤ kj2) ∧ Az0 (Kd.R (Kd.int .i64) 3 wc w.heap.size (fun k_ => some k_ ≠ ((.slice Ao31 t113.length co31) : Value).ownBlock) (.slice Ao22 t104.length co22) t104) ∧ Az0 (Kd.R (Kd.int .i64) 3 wc w.heap.size (fun k_ => some k_ ≠ ((.slice Ao22 t104.length co22) : Value).ownBlock) (.slice Ao31 t113.length co31) t113) ∧ Az0 (wc.heap[gb101]? = some (.cells #[(.slice A1_0 l1_0.length c1_0), .int .i64 a1_1] 26 (0, 0))) ∧ Az0 (wc.heap[gb111]? = some (.cells #[(.slice Ao22 t104.length co22), .int .i64 t107] 26 (0, 0))) ∧ Az0 (wc.heap[gb112]? = some (.cells #[.int .i64 t108, .int .i64 t109] 28 (0, 0))) ∧ Az0 (wc.heap[gb120]? = some (.cells #[(.slice Ao31 t113.length co31), .int .i64 t116] 26 (0, 0))) ∧ Az0 (wc.heap[gb121]? = some (.cells #[.int .i64 t117, .int .i64 t118] 28 (0, 0))) ∧ Az0 (wc.heap[gb127]? = some (.cells #[.int .i64 t124, .int .i64 t125] 28 (0, 0))) ∧ Az0 (wc.heap[gb131]? = some (.cells #[.int .i64 t128, .int .i64 t129] 28 (0, 0))) ∧ Az0 (Below w.heap.size w wc))
   case first =>
    have H := HC18.out
    clear HC18
    by_cases c62 : t110 = 0
    ·rw [if_pos c62] at H
     have c62b0 : (t110 == 0) = true := beq_iff_eq.mpr c62
     have c62b1 : (t110 != 0) = false := bne_eq_false_iff_eq.mpr c62
     clear c62
     (first | rw [c62b0] | (simp only [i64_w, i32_w]; rw [c62b0]) | skip)
     by_cases c63 : t119 = 0
     ·rw [if_pos c63] at H
      have c63b0 : (t119 == 0) = true := beq_iff_eq.mpr c63
      have c63b1 : (t119 != 0) = false := bne_eq_false_iff_eq.mpr c63
      clear c63
      by_cases c64 : t123 = 0
      ·rw [if_pos c64] at H
       have c64b0 : (t123 == 0) = true := beq_iff_eq.mpr c64
       have c64b1 : (t123 != 0) = false := bne_eq_false_iff_eq.mpr c64
       clear c64
       by_cases c65 : t126 = 0
       ·rw [if_pos c65] at H
        have c65b0 : (t126 == 0) = true := beq_iff_eq.mpr c65
        have c65b1 : (t126 != 0) = false := bne_eq_false_iff_eq.mpr c65
        clear c65
        by_cases c66 : t130 = 0
        ·rw [if_pos c66] at H
         have c66b0 : (t130 == 0) = true := beq_iff_eq.mpr c66
         have c66b1 : (t130 != 0) = false := bne_eq_false_iff_eq.mpr c66
         clear c66
         by_cases c67 : t122 = true
         ·subst c67
          have H1 : (if (!(t124 == t108) || (!(t125 == t109))) = true then (lJS_.j1 kj2 l0 true l1_0 a1_1 t104 t107 t108 t109 t113 t116 t117 t118) else (if (!(t128 == t117) || (!(t129 == t118))) = true then (lJS_.j1 kj2 l0 true l1_0 a1_1 t104 t107 t108 t109 t113 t116 t117 t118) else (if t109 < 1 then (lJS_.j1 kj2 l0 true l1_0 a1_1 t104 t107 t108 t109 t113 t116 t117 t118) else (lJS_.j1 kj2 l0 (decide (t118 < 1)) l1_0 a1_1 t104 t107 t108 t109 t113 t116 t117 t118)))) = some r := by rw [if_pos rfl] at H; exact H
          clear H
          have H := H1
          clear H1
          by_cases c68 : (!(t124 == t108) || (!(t125 == t109))) = true
          ·rw [if_pos c68] at H
           have c68b0 : (!(t124 == t108) || (!(t125 == t109))) = true := c68
           clear c68
           exact absurd ((lJS_.j1_no _ _ _ _ _ _ _ _ _ _ _ _ _ H).symm.trans HRT.out) (by decide)
          rw [if_neg c68] at H
          have c68b0 : (!(t124 == t108) || (!(t125 == t109))) = false := by simpa using c68
          clear c68
          by_cases c82 : (!(t128 == t117) || (!(t129 == t118))) = true
          ·rw [if_pos c82] at H
           have c82b0 : (!(t128 == t117) || (!(t129 == t118))) = true := c82
           clear c82
           exact absurd ((lJS_.j1_no _ _ _ _ _ _ _ _ _ _ _ _ _ H).symm.trans HRT.out) (by decide)
          rw [if_neg c82] at H
          have c82b0 : (!(t128 == t117) || (!(t129 == t118))) = false := by simpa using c82
          clear c82
          by_cases c105 : t109 < 1
          ·rw [if_pos c105] at H
           have c105b0 : decide (t109 < 1) = true := decide_eq_true c105
           clear c105
           exact absurd ((lJS_.j1_no _ _ _ _ _ _ _ _ _ _ _ _ _ H).symm.trans HRT.out) (by decide)
          rw [if_neg c105] at H
          have c105b0 : decide (t109 < 1) = false := decide_eq_false c105
          clear c105
          have H' := Az0.mk H
          clear H
          have hnb128 := NB127_101.out
          have hnc128 := NB101_127.out
          have hnb129 := NB127_111.out
          have hnc129 := NB111_127.out
          have hnb130 := NB127_112.out
          have hnc130 := NB112_127.out
          have hnb131 := NB127_120.out
          have hnc131 := NB120_127.out
          have hnb132 := NB127_121.out
          have hnc132 := NB121_127.out
          have hnb133 := NB127_131.out
          have hnc133 := NB131_127.out
          have hcz134_0 : w54.cell? ⟨gb127, 0, none⟩ = some (.int .i64 t124) := (bkC BK127.out 0).trans rfl
          have hcz134_1 : w54.cell? ⟨gb127, 1, none⟩ = some (.int .i64 t125) := (bkC BK127.out 1).trans rfl
          have hfz134_0 := bF_ BK127.out 0
          have hfz134_1 := bF_ BK127.out 1
          have hnb135 := NB112_101.out
          have hnc135 := NB101_112.out
          have hnb136 := NB112_111.out
          have hnc136 := NB111_112.out
          have hnb137 := NB112_120.out
          have hnc137 := NB120_112.out
          have hnb138 := NB112_121.out
          have hnc138 := NB121_112.out
          have hnb139 := NB112_131.out
          have hnc139 := NB131_112.out
          have hcz140_0 : w54.cell? ⟨gb112, 0, none⟩ = some (.int .i64 t108) := (bkC BK112.out 0).trans rfl
          have hcz140_1 : w54.cell? ⟨gb112, 1, none⟩ = some (.int .i64 t109) := (bkC BK112.out 1).trans rfl
          have hfz140_0 := bF_ BK112.out 0
          have hfz140_1 := bF_ BK112.out 1
          have hnb141 := NB131_101.out
          have hnc141 := NB101_131.out
          have hnb142 := NB131_111.out
          have hnc142 := NB111_131.out
          have hnb143 := NB131_120.out
          have hnc143 := NB120_131.out
          have hnb144 := NB131_121.out
          have hnc144 := NB121_131.out
          have hcz145_0 : w54.cell? ⟨gb131, 0, none⟩ = some (.int .i64 0) := (bkC BK131.out 0).trans rfl
          have hcz145_1 : w54.cell? ⟨gb131, 1, none⟩ = some (.int .i64 0) := (bkC BK131.out 1).trans rfl
          have hfz145_0 := bF_ BK131.out 0
          have hfz145_1 := bF_ BK131.out 1
          have hnb146 := NB121_101.out
          have hnc146 := NB101_121.out
          have hnb147 := NB121_111.out
          have hnc147 := NB111_121.out
          have hnb148 := NB121_120.out
          have hnc148 := NB120_121.out
          have hcz149_0 : w54.cell? ⟨gb121, 0, none⟩ = some (.int .i64 t117) := (bkC BK121.out 0).trans rfl
          have hcz149_1 : w54.cell? ⟨gb121, 1, none⟩ = some (.int .i64 t118) := (bkC BK121.out 1).trans rfl
          have hfz149_0 := bF_ BK121.out 0
          have hfz149_1 := bF_ BK121.out 1
          go_wp2
          go_meet
          case rel => exact ⟨_, (decide (t118 < 1)), (by first | rfl | (simp; done) | (simp [*]; done)), H', ⟨by have := HJ2.out; first | omega | exact Nat.le_refl _⟩, ⟨by (repeat refine Up1.r ?_); exact Kd.rM_ (Kd.rF_ (p := ⟨gb131, 1, none⟩) (Kd.rF_ (p := ⟨gb131, 0, none⟩) (Kd.rY_ HO106.out BK131.out (by decide)) (fun _ hk => hk.2) (.int .i64 t128)) (fun _ hk => hk.2) (.int .i64 t129)) (fun _ hk => hk.1.2)⟩, ⟨by (repeat refine Up1.r ?_); exact Kd.rM_ (Kd.rF_ (p := ⟨gb131, 1, none⟩) (Kd.rF_ (p := ⟨gb131, 0, none⟩) (Kd.rY_ HO115.out BK131.out (by decide)) (fun _ hk => hk.2) (.int .i64 t128)) (fun _ hk => hk.2) (.int .i64 t129)) (fun _ hk => hk.1.2)⟩, ⟨by refine Ups.b ?_; refine bR_ ?_ NB101_131.out _; refine Ups.b ?_; refine bR_ ?_ NB101_131.out _; refine Ups.b ?_; exact BK101.out⟩, ⟨by refine Ups.b ?_; refine bR_ ?_ NB111_131.out _; refine Ups.b ?_; refine bR_ ?_ NB111_131.out _; refine Ups.b ?_; exact BK111.out⟩, ⟨by refine Ups.b ?_; refine bR_ ?_ NB112_131.out _; refine Ups.b ?_; refine bR_ ?_ NB112_131.out _; refine Ups.b ?_; exact BK112.out⟩, ⟨by refine Ups.b ?_; refine bR_ ?_ NB120_131.out _; refine Ups.b ?_; refine bR_ ?_ NB120_131.out _; refine Ups.b ?_; exact BK120.out⟩, ⟨by refine Ups.b ?_; refine bR_ ?_ NB121_131.out _; refine Ups.b ?_; refine bR_ ?_ NB121_131.out _; refine Ups.b ?_; exact BK121.out⟩, ⟨by refine Ups.b ?_; refine bR_ ?_ NB127_131.out _; refine Ups.b ?_; refine bR_ ?_ NB127_131.out _; refine Ups.b ?_; exact BK127.out⟩, ⟨by refine Ups.b ?_; refine blk_put (cs := #[.int .i64 t128, .int .i64 0]) ?_ 1 _ rfl; refine Ups.b ?_; refine blk_put (cs := #[.int .i64 0, .int .i64 0]) ?_ 0 _ rfl; refine Ups.b ?_; exact BK131.out⟩, ⟨by repeat first|exact HB.out | refine Up1.w ?_ | refine bS_ ?_ GE101.out | refine bS_ ?_ GE111.out | refine bS_ ?_ GE112.out | refine bS_ ?_ GE120.out | refine bS_ ?_ GE121.out | refine bS_ ?_ GE127.out | refine bS_ ?_ GE131.out⟩⟩
         replace c67 := Bool.eq_false_iff.mpr c67
         subst c67
         have H1 : (lJS_.j1 kj2 l0 true l1_0 a1_1 t104 t107 t108 t109 t113 t116 t117 t118) = some r := by rw [if_neg (show ¬ (false = true) by decide)] at H; exact H
         clear H
         have H := H1
         clear H1
         exact absurd ((lJS_.j1_no _ _ _ _ _ _ _ _ _ _ _ _ _ H).symm.trans HRT.out) (by decide)
        rw [if_neg c66] at H
        have c66b0 : (t130 == 0) = false := beq_eq_false_iff_ne.mpr c66
        have c66b1 : (t130 != 0) = true := bne_iff_ne.mpr c66
        exact absurd ((lJS_.j1_no _ _ _ _ _ _ _ _ _ _ _ _ _ H).symm.trans HRT.out) (by decide)
       rw [if_neg c65] at H
       have c65b0 : (t126 == 0) = false := beq_eq_false_iff_ne.mpr c65
       have c65b1 : (t126 != 0) = true := bne_iff_ne.mpr c65
       exact absurd ((lJS_.j1_no _ _ _ _ _ _ _ _ _ _ _ _ _ H).symm.trans HRT.out) (by decide)
      rw [if_neg c64] at H
      have c64b0 : (t123 == 0) = false := beq_eq_false_iff_ne.mpr c64
      have c64b1 : (t123 != 0) = true := bne_iff_ne.mpr c64
      exact absurd ((lJS_.j1_no _ _ _ _ _ _ _ _ _ _ _ _ _ H).symm.trans HRT.out) (by decide)
     rw [if_neg c63] at H
     have c63b0 : (t119 == 0) = false := beq_eq_false_iff_ne.mpr c63
     have c63b1 : (t119 != 0) = true := bne_iff_ne.mpr c63
     exact absurd ((lJS_.j1_no _ _ _ _ _ _ _ _ _ _ _ _ _ H).symm.trans HRT.out) (by decide)
    rw [if_neg c62] at H
    have c62b0 : (t110 == 0) = false := beq_eq_false_iff_ne.mpr c62
    have c62b1 : (t110 != 0) = true := bne_iff_ne.mpr c62
    (first | rw [c62b0] | (simp only [i64_w, i32_w]; rw [c62b0]) | skip)
    exact absurd ((lJS_.j1_no _ _ _ _ _ _ _ _ _ _ _ _ _ H).symm.trans HRT.out) (by decide)
   case rest =>
    clear HC18
    try clear c1
    try clear c2
    try clear p2
    try clear c3
    try clear c4
    try clear c5
    try clear c5b0
    try clear c5b1
    try clear c6
    try clear c6b0
    try clear c6b1
    try clear c7
    try clear c8
    try clear c9
    try clear c10
    try clear c11
    try clear c12
    try clear c13
    try clear c14
    try clear c16
    try clear c17
    try clear c20
    try clear c23
    try clear c24
    try clear c26
    try clear c32
    try clear c33
    try clear c34
    try clear c35
    try clear c37
    try clear c38
    try clear c39
    try clear c43
    try clear c45
    try clear c46
    try clear c47
    try clear c48
    try clear c49
    try clear c50
    try clear c55
    try clear c56
    try clear c57
    try clear c58
    try clear c59
    try clear c60
    try clear c62
    try clear c62b0
    try clear c62b1
    try clear c63
    try clear c63b0
    try clear c63b1
    try clear c64
    try clear c64b0
    try clear c64b1
    try clear c65
    try clear c65b0
    try clear c65b1
    try clear c66
    try clear c66b0
    try clear c66b1
    try clear c67
    try clear c68
    try clear c68b0
    try clear c69
    try clear c70
    try clear c71
    try clear c72
    try clear c73
    try clear c74
    try clear c76
    try clear c77
    try clear c78
    try clear c79
    try clear c80
    try clear c82
    try clear c82b0
    try clear c83
    try clear c84
    try clear c85
    try clear c86
    try clear c87
    try clear c88
    try clear c90
    try clear c91
    try clear c92
    try clear c93
    try clear c94
    try clear c96
    try clear c97
    try clear c98
    try clear c99
    try clear c101
    try clear c102
    try clear c103
    try clear c105
    try clear c105b0
    try clear c106
    try clear c107
    try clear c108
    try clear c109
    try clear c110
    try clear c111
    try clear c113
    try clear c114
    try clear c115
    try clear c116
    try clear c117
    try clear c119
    try clear c120
    try clear c121
    try clear c122
    try clear c124
    try clear c125
    try clear c126
    try clear c128
    try clear c129
    try clear c130
    try clear c131
    try clear c132
    try clear c133
    try clear c135
    try clear c136
    try clear c137
    try clear c138
    try clear c139
    try clear c141
    try clear c142
    try clear c143
    try clear c144
    try clear c146
    try clear c147
    try clear c148
    try clear hcz100_0
    try clear hcz100_1
    try clear hcz104_0
    try clear hcz104_1
    try clear hcz112_0
    try clear hcz112_1
    try clear hcz118_0
    try clear hcz118_1
    try clear hcz123_0
    try clear hcz123_1
    try clear hcz127_0
    try clear hcz127_1
    try clear hcz134_0
    try clear hcz134_1
    try clear hcz140_0
    try clear hcz140_1
    try clear hcz145_0
    try clear hcz145_1
    try clear hcz149_0
    try clear hcz149_1
    try clear hcz25_0
    try clear hcz25_1
    try clear hcz27_0
    try clear hcz27_1
    try clear hcz36_0
    try clear hcz36_1
    try clear hcz40_0
    try clear hcz40_1
    try clear hcz41_0
    try clear hcz41_1
    try clear hcz43_0
    try clear hcz43_1
    try clear hcz51_0
    try clear hcz51_1
    try clear hcz52_0
    try clear hcz52_1
    try clear hcz61_0
    try clear hcz61_1
    try clear hcz75_0
    try clear hcz75_1
    try clear hcz7_0
    try clear hcz7_1
    try clear hcz81_0
    try clear hcz81_1
    try clear hcz89_0
    try clear hcz89_1
    try clear hcz95_0
    try clear hcz95_1
    try clear hcz9_0
    try clear hcz9_1
    try clear hfz100_0
    try clear hfz100_1
    try clear hfz104_0
    try clear hfz104_1
    try clear hfz112_0
    try clear hfz112_1
    try clear hfz118_0
    try clear hfz118_1
    try clear hfz123_0
    try clear hfz123_1
    try clear hfz127_0
    try clear hfz127_1
    try clear hfz134_0
    try clear hfz134_1
    try clear hfz140_0
    try clear hfz140_1
    try clear hfz145_0
    try clear hfz145_1
    try clear hfz149_0
    try clear hfz149_1
    try clear hfz25_0
    try clear hfz25_1
    try clear hfz27_0
    try clear hfz27_1
    try clear hfz36_0
    try clear hfz36_1
    try clear hfz40_0
    try clear hfz40_1
    try clear hfz41_0
    try clear hfz41_1
    try clear hfz43_0
    try clear hfz43_1
    try clear hfz51_0
    try clear hfz51_1
    try clear hfz52_0
    try clear hfz52_1
    try clear hfz61_0
    try clear hfz61_1
    try clear hfz75_0
    try clear hfz75_1
    try clear hfz7_0
    try clear hfz7_1
    try clear hfz81_0
    try clear hfz81_1
    try clear hfz89_0
    try clear hfz89_1
    try clear hfz95_0
    try clear hfz95_1
    try clear hfz9_0
    try clear hfz9_1
    try clear p2
    obtain ⟨kq, x104_17, rfl, HA, HJ17, HO_112000, HO_121000, BK101, BK111, BK112, BK120, BK121, BK127, BK131, HB⟩ := hcut
    cases kq with
    | zero => exact absurd HA.out (by simp [lJS_.j1])
    | succ kj17 =>
     have H := HA.out
     clear HA
     simp only [lJS_.j1] at H
     by_cases c150 : x104_17 = true
     ·subst c150
      have H1 : (some false) = some r := by rw [if_pos rfl] at H; exact H
      exact absurd ((Option.some.inj H1).trans HRT.out) (by decide)
     replace c150 := Bool.eq_false_iff.mpr c150
     subst c150
     have H1 : ((lLe_.f kj17 t108 t109 1 t117 t118 1).bind fun t132 => (if t132 = true then (lJS_.j2 kj17 l0 true l1_0 a1_1 t104 t107 t113 t116 t117 t118) else ((lLe_.f kj17 t117 t118 4 t108 t109 3).bind fun t133 => (lJS_.j2 kj17 l0 t133 l1_0 a1_1 t104 t107 t113 t116 t117 t118)))) = some r := by rw [if_neg (show ¬ (false = true) by decide)] at H; exact H
     clear H
     have H := H1
     clear H1
     have HC151 := Az0.mk H
     clear H
     go_upto_region 10 with (fail)
     go_cut [112] (fun v112 wc => ∃ (kq : Nat) (x112_150 : Bool), v112 = .bool x112_150 ∧ Az0 (lJS_.j2 kq l0 x112_150 l1_0 a1_1 t104 t107 t113 t116 t117 t118 = some r) ∧ Az0 (kq ≤ kj17) ∧ Az0 (Kd.R (Kd.int .i64) 3 wc w.heap.size (fun k_ => some k_ ≠ ((.slice Ao31 t113.length co31) : Value).ownBlock) (.slice Ao22 t104.length co22) t104) ∧ Az0 (Kd.R (Kd.int .i64) 3 wc w.heap.size (fun k_ => some k_ ≠ ((.slice Ao22 t104.length co22) : Value).ownBlock) (.slice Ao31 t113.length co31) t113) ∧ Az0 (wc.heap[gb101]? = some (.cells #[(.slice A1_0 l1_0.length c1_0), .int .i64 a1_1] 26 (0, 0))) ∧ Az0 (wc.heap[gb111]? = some (.cells #[(.slice Ao22 t104.length co22), .int .i64 t107] 26 (0, 0))) ∧ Az0 (wc.heap[gb112]? = some (.cells #[.int .i64 t108, .int .i64 t109] 28 (0, 0))) ∧ Az0 (wc.heap[gb120]? = some (.cells #[(.slice Ao31 t113.length co31), .int .i64 t116] 26 (0, 0))) ∧ Az0 (wc.heap[gb121]? = some (.cells #[.int .i64 t117, .int .i64 t118] 28 (0, 0))) ∧ Az0 (wc.heap[gb127]? = some (.cells #[.int .i64 t124, .int .i64 t125] 28 (0, 0))) ∧ Az0 (wc.heap[gb131]? = some (.cells #[.int .i64 t128, .int .i64 t129] 28 (0, 0))) ∧ Az0 (Below w.heap.size w wc))
     case first =>
      have H := HC151.out
      clear HC151
      replace H := Option.bind_eq_some_iff.mp H
      obtain ⟨t132, A1520, H⟩ := H
      try dsimp only at H
      have A152 := Az0.mk A1520
      clear A1520
      by_cases c153 : t132 = true
      ·subst c153
       have H1 : (lJS_.j2 kj17 l0 true l1_0 a1_1 t104 t107 t113 t116 t117 t118) = some r := by rw [if_pos rfl] at H; exact H
       clear H
       have H := H1
       clear H1
       exact absurd ((lJS_.j2_no _ _ _ _ _ _ _ _ _ _ _ H).symm.trans HRT.out) (by decide)
      replace c153 := Bool.eq_false_iff.mpr c153
      subst c153
      have H1 : ((lLe_.f kj17 t117 t118 4 t108 t109 3).bind fun t133 => (lJS_.j2 kj17 l0 t133 l1_0 a1_1 t104 t107 t113 t116 t117 t118)) = some r := by rw [if_neg (show ¬ (false = true) by decide)] at H; exact H
      clear H
      have H := H1
      clear H1
      replace H := Option.bind_eq_some_iff.mp H
      obtain ⟨t133, A1680, H⟩ := H
      try dsimp only at H
      have A168 := Az0.mk A1680
      clear A1680
      have H' := Az0.mk H
      clear H
      have hnb169 := NB112_101.out
      have hnc169 := NB101_112.out
      have hnb170 := NB112_111.out
      have hnc170 := NB111_112.out
      have hnb171 := NB112_120.out
      have hnc171 := NB120_112.out
      have hnb172 := NB112_121.out
      have hnc172 := NB121_112.out
      have hnb173 := NB112_127.out
      have hnc173 := NB127_112.out
      have hnb174 := NB112_131.out
      have hnc174 := NB131_112.out
      have hcz175_0 : wc.cell? ⟨gb112, 0, none⟩ = some (.int .i64 t108) := (bkC BK112.out 0).trans rfl
      have hcz175_1 : wc.cell? ⟨gb112, 1, none⟩ = some (.int .i64 t109) := (bkC BK112.out 1).trans rfl
      have hfz175_0 := bF_ BK112.out 0
      have hfz175_1 := bF_ BK112.out 1
      have hnb176 := NB121_101.out
      have hnc176 := NB101_121.out
      have hnb177 := NB121_111.out
      have hnc177 := NB111_121.out
      have hnb178 := NB121_120.out
      have hnc178 := NB120_121.out
      have hnb179 := NB121_127.out
      have hnc179 := NB127_121.out
      have hnb180 := NB121_131.out
      have hnc180 := NB131_121.out
      have hcz181_0 : wc.cell? ⟨gb121, 0, none⟩ = some (.int .i64 t117) := (bkC BK121.out 0).trans rfl
      have hcz181_1 : wc.cell? ⟨gb121, 1, none⟩ = some (.int .i64 t118) := (bkC BK121.out 1).trans rfl
      have hfz181_0 := bF_ BK121.out 0
      have hfz181_1 := bF_ BK121.out 1
      go_wp2_with (first | ((with_reducible refine gate_callee (f := 23) rfl ?_); refine goesL_ (some 107) rfl rfl Try.func23 (by kernel_rfl) rfl #[.agg #[.int .i64 t108, .int .i64 t109], .int .i64 1, .agg #[.int .i64 t117, .int .i64 t118], .int .i64 1] rfl (by (try simp only [List.map_toArray, List.map_cons, List.map_nil]); first | done | rfl | (simp only [List.length_drop, List.length_take]; rfl)) ?_; (with_reducible refine (lLe_.calls kj17 t108 t109 1 t117 t118 1 false _ A152.out).mono ?_); rintro e w182 ⟨rfl, hb⟩; refine ⟨_, rfl, ?_⟩; replace HO_112000 := Az0.mk (Kd.rW_ (by (repeat refine Up1.r ?_); exact HO_112000.out) hb); replace HO_121000 := Az0.mk (Kd.rW_ (by (repeat refine Up1.r ?_); exact HO_121000.out) hb); replace BK101 := Az0.mk (bB_ (Ups.b BK101.out) hb); replace BK111 := Az0.mk (bB_ (Ups.b BK111.out) hb); replace BK112 := Az0.mk (bB_ (Ups.b BK112.out) hb); replace BK120 := Az0.mk (bB_ (Ups.b BK120.out) hb); replace BK121 := Az0.mk (bB_ (Ups.b BK121.out) hb); replace BK127 := Az0.mk (bB_ (Ups.b BK127.out) hb); replace BK131 := Az0.mk (bB_ (Ups.b BK131.out) hb); replace HB := Az0.mk (bP_ (by repeat first|exact HB.out | refine Up1.w ?_ | refine bS_ ?_ GE101.out | refine bS_ ?_ GE111.out | refine bS_ ?_ GE112.out | refine bS_ ?_ GE120.out | refine bS_ ?_ GE121.out | refine bS_ ?_ GE127.out | refine bS_ ?_ GE131.out) hb); (try clear hb); (try clear hb2); (try clear hk); (try clear hi); have hcz183_0 : w182.cell? ⟨gb121, 0, none⟩ = some (.int .i64 t117) := (bkC BK121.out 0).trans rfl; have hcz183_1 : w182.cell? ⟨gb121, 1, none⟩ = some (.int .i64 t118) := (bkC BK121.out 1).trans rfl; have hfz183_0 := bF_ BK121.out 0; have hfz183_1 := bF_ BK121.out 1; have hcz184_0 : w182.cell? ⟨gb112, 0, none⟩ = some (.int .i64 t108) := (bkC BK112.out 0).trans rfl; have hcz184_1 : w182.cell? ⟨gb112, 1, none⟩ = some (.int .i64 t109) := (bkC BK112.out 1).trans rfl; have hfz184_0 := bF_ BK112.out 0; have hfz184_1 := bF_ BK112.out 1) | (go_at_call 23; (with_reducible refine (lLe_.calls kj17 t117 t118 4 t108 t109 3 t133 _ A168.out).mono ?_); rintro e w185 ⟨rfl, hb⟩; replace HO_112000 := Az0.mk (Kd.rW_ (by (repeat refine Up1.r ?_); exact HO_112000.out) hb); replace HO_121000 := Az0.mk (Kd.rW_ (by (repeat refine Up1.r ?_); exact HO_121000.out) hb); replace BK101 := Az0.mk (bB_ (Ups.b BK101.out) hb); replace BK111 := Az0.mk (bB_ (Ups.b BK111.out) hb); replace BK112 := Az0.mk (bB_ (Ups.b BK112.out) hb); replace BK120 := Az0.mk (bB_ (Ups.b BK120.out) hb); replace BK121 := Az0.mk (bB_ (Ups.b BK121.out) hb); replace BK127 := Az0.mk (bB_ (Ups.b BK127.out) hb); replace BK131 := Az0.mk (bB_ (Ups.b BK131.out) hb); replace HB := Az0.mk (bP_ (by repeat first|exact HB.out | refine Up1.w ?_ | refine bS_ ?_ GE101.out | refine bS_ ?_ GE111.out | refine bS_ ?_ GE112.out | refine bS_ ?_ GE120.out | refine bS_ ?_ GE121.out | refine bS_ ?_ GE127.out | refine bS_ ?_ GE131.out) hb); (try clear hb); (try clear hb2); (try clear hk); (try clear hi)))
      go_meet
      case rel => exact ⟨_, (t133), (by first | rfl | (simp; done) | (simp [*]; done)), H', ⟨by have := HJ2.out; have := HJ17.out; first | omega | exact Nat.le_refl _⟩, ⟨by (repeat refine Up1.r ?_); exact HO_112000.out⟩, ⟨by (repeat refine Up1.r ?_); exact HO_121000.out⟩, ⟨by refine Ups.b ?_; exact BK101.out⟩, ⟨by refine Ups.b ?_; exact BK111.out⟩, ⟨by refine Ups.b ?_; exact BK112.out⟩, ⟨by refine Ups.b ?_; exact BK120.out⟩, ⟨by refine Ups.b ?_; exact BK121.out⟩, ⟨by refine Ups.b ?_; exact BK127.out⟩, ⟨by refine Ups.b ?_; exact BK131.out⟩, ⟨by repeat first|exact HB.out | refine Up1.w ?_ | refine bS_ ?_ GE101.out | refine bS_ ?_ GE111.out | refine bS_ ?_ GE112.out | refine bS_ ?_ GE120.out | refine bS_ ?_ GE121.out | refine bS_ ?_ GE127.out | refine bS_ ?_ GE131.out⟩⟩
     case rest =>
      clear HC151
      try clear c1
      try clear c2
      try clear p2
      try clear c3
      try clear c4
      try clear c5
      try clear c5b0
      try clear c5b1
      try clear c6
      try clear c6b0
      try clear c6b1
      try clear c7
      try clear c8
      try clear c9
      try clear c10
      try clear c11
      try clear c12
      try clear c13
      try clear c14
      try clear c15
      try clear c16
      try clear c17
      try clear c18
      try clear c20
      try clear c23
      try clear c24
      try clear c26
      try clear c32
      try clear c33
      try clear c34
      try clear c35
      try clear c37
      try clear c38
      try clear c39
      try clear c43
      try clear c45
      try clear c46
      try clear c47
      try clear c48
      try clear c49
      try clear c50
      try clear c55
      try clear c56
      try clear c57
      try clear c58
      try clear c59
      try clear c60
      try clear c62
      try clear c62b0
      try clear c62b1
      try clear c63
      try clear c63b0
      try clear c63b1
      try clear c64
      try clear c64b0
      try clear c64b1
      try clear c65
      try clear c65b0
      try clear c65b1
      try clear c66
      try clear c66b0
      try clear c66b1
      try clear c67
      try clear c68
      try clear c68b0
      try clear c69
      try clear c70
      try clear c71
      try clear c72
      try clear c73
      try clear c74
      try clear c76
      try clear c77
      try clear c78
      try clear c79
      try clear c80
      try clear c82
      try clear c82b0
      try clear c83
      try clear c84
      try clear c85
      try clear c86
      try clear c87
      try clear c88
      try clear c90
      try clear c91
      try clear c92
      try clear c93
      try clear c94
      try clear c96
      try clear c97
      try clear c98
      try clear c99
      try clear c101
      try clear c102
      try clear c103
      try clear c105
      try clear c105b0
      try clear c106
      try clear c107
      try clear c108
      try clear c109
      try clear c110
      try clear c111
      try clear c113
      try clear c114
      try clear c115
      try clear c116
      try clear c117
      try clear c119
      try clear c120
      try clear c121
      try clear c122
      try clear c124
      try clear c125
      try clear c126
      try clear c128
      try clear c129
      try clear c130
      try clear c131
      try clear c132
      try clear c133
      try clear c135
      try clear c136
      try clear c137
      try clear c138
      try clear c139
      try clear c141
      try clear c142
      try clear c143
      try clear c144
      try clear c146
      try clear c147
      try clear c148
      try clear c150
      try clear c153
      try clear c154
      try clear c155
      try clear c156
      try clear c157
      try clear c158
      try clear c159
      try clear c161
      try clear c162
      try clear c163
      try clear c164
      try clear c165
      try clear c169
      try clear c170
      try clear c171
      try clear c172
      try clear c173
      try clear c174
      try clear c176
      try clear c177
      try clear c178
      try clear c179
      try clear c180
      try clear hcz100_0
      try clear hcz100_1
      try clear hcz104_0
      try clear hcz104_1
      try clear hcz112_0
      try clear hcz112_1
      try clear hcz118_0
      try clear hcz118_1
      try clear hcz123_0
      try clear hcz123_1
      try clear hcz127_0
      try clear hcz127_1
      try clear hcz134_0
      try clear hcz134_1
      try clear hcz140_0
      try clear hcz140_1
      try clear hcz145_0
      try clear hcz145_1
      try clear hcz149_0
      try clear hcz149_1
      try clear hcz160_0
      try clear hcz160_1
      try clear hcz166_0
      try clear hcz166_1
      try clear hcz175_0
      try clear hcz175_1
      try clear hcz181_0
      try clear hcz181_1
      try clear hcz183_0
      try clear hcz183_1
      try clear hcz184_0
      try clear hcz184_1
      try clear hcz25_0
      try clear hcz25_1
      try clear hcz27_0
      try clear hcz27_1
      try clear hcz36_0
      try clear hcz36_1
      try clear hcz40_0
      try clear hcz40_1
      try clear hcz41_0
      try clear hcz41_1
      try clear hcz43_0
      try clear hcz43_1
      try clear hcz51_0
      try clear hcz51_1
      try clear hcz52_0
      try clear hcz52_1
      try clear hcz61_0
      try clear hcz61_1
      try clear hcz75_0
      try clear hcz75_1
      try clear hcz7_0
      try clear hcz7_1
      try clear hcz81_0
      try clear hcz81_1
      try clear hcz89_0
      try clear hcz89_1
      try clear hcz95_0
      try clear hcz95_1
      try clear hcz9_0
      try clear hcz9_1
      try clear hfz100_0
      try clear hfz100_1
      try clear hfz104_0
      try clear hfz104_1
      try clear hfz112_0
      try clear hfz112_1
      try clear hfz118_0
      try clear hfz118_1
      try clear hfz123_0
      try clear hfz123_1
      try clear hfz127_0
      try clear hfz127_1
      try clear hfz134_0
      try clear hfz134_1
      try clear hfz140_0
      try clear hfz140_1
      try clear hfz145_0
      try clear hfz145_1
      try clear hfz149_0
      try clear hfz149_1
      try clear hfz160_0
      try clear hfz160_1
      try clear hfz166_0
      try clear hfz166_1
      try clear hfz175_0
      try clear hfz175_1
      try clear hfz181_0
      try clear hfz181_1
      try clear hfz183_0
      try clear hfz183_1
      try clear hfz184_0
      try clear hfz184_1
      try clear hfz25_0
      try clear hfz25_1
      try clear hfz27_0
      try clear hfz27_1
      try clear hfz36_0
      try clear hfz36_1
      try clear hfz40_0
      try clear hfz40_1
      try clear hfz41_0
      try clear hfz41_1
      try clear hfz43_0
      try clear hfz43_1
      try clear hfz51_0
      try clear hfz51_1
      try clear hfz52_0
      try clear hfz52_1
      try clear hfz61_0
      try clear hfz61_1
      try clear hfz75_0
      try clear hfz75_1
      try clear hfz7_0
      try clear hfz7_1
      try clear hfz81_0
      try clear hfz81_1
      try clear hfz89_0
      try clear hfz89_1
      try clear hfz95_0
      try clear hfz95_1
      try clear hfz9_0
      try clear hfz9_1
      try clear p2
      obtain ⟨kq, x112_150, rfl, HA, HJ150, HO_112000, HO_121000, BK101, BK111, BK112, BK120, BK121, BK127, BK131, HB⟩ := hcut
      cases kq with
      | zero => exact absurd HA.out (by simp [lJS_.j2])
      | succ kj150 =>
       have H := HA.out
       clear HA
       simp only [lJS_.j2] at H
       by_cases c186 : x112_150 = true
       ·subst c186
        have H1 : (some false) = some r := by rw [if_pos rfl] at H; exact H
        exact absurd ((Option.some.inj H1).trans HRT.out) (by decide)
       replace c186 := Bool.eq_false_iff.mpr c186
       subst c186
       have H1 : ((jam_InBalance.f kj150 l0 l1_0 a1_1).bind fun bt134 => ((jam_Delay.f kj150 l0 l1_0 a1_1).bind fun bt136 => (if bt134.2 = 0 then (if bt134.1 = true then ((trishawlaw02_parts.f kj150 l1_0 a1_1 t104 t107).bind fun t140 => (lJS_.j3 kj150 bt136.2.2 bt134.1 (!t140) l1_0 a1_1 t113 t116 t117 t118 bt136.1 bt136.2.1)) else (lJS_.j3 kj150 bt136.2.2 bt134.1 false l1_0 a1_1 t113 t116 t117 t118 bt136.1 bt136.2.1)) else (lJS_.j3 kj150 bt136.2.2 bt134.1 true l1_0 a1_1 t113 t116 t117 t118 bt136.1 bt136.2.1)))) = some r := by rw [if_neg (show ¬ (false = true) by decide)] at H; exact H
       clear H
       have H := H1
       clear H1
       replace H := Option.bind_eq_some_iff.mp H
       obtain ⟨⟨t134, t135⟩, A1870, H⟩ := H
       try dsimp only at H
       have A187 := Az0.mk A1870
       clear A1870
       replace H := Option.bind_eq_some_iff.mp H
       obtain ⟨⟨t136, t137, t138⟩, A1880, H⟩ := H
       try dsimp only at H
       have A188 := Az0.mk A1880
       clear A1880
       have HC189 := Az0.mk H
       clear H
       have hnb190 := NB101_111.out
       have hnc190 := NB111_101.out
       have hnb191 := NB101_112.out
       have hnc191 := NB112_101.out
       have hnb192 := NB101_120.out
       have hnc192 := NB120_101.out
       have hnb193 := NB101_121.out
       have hnc193 := NB121_101.out
       have hnb194 := NB101_127.out
       have hnc194 := NB127_101.out
       have hnb195 := NB101_131.out
       have hnc195 := NB131_101.out
       have hcz196_0 : wc.cell? ⟨gb101, 0, none⟩ = some (.slice A1_0 l1_0.length c1_0) := (bkC BK101.out 0).trans rfl
       have hcz196_1 : wc.cell? ⟨gb101, 1, none⟩ = some (.int .i64 a1_1) := (bkC BK101.out 1).trans rfl
       have hfz196_0 := bF_ BK101.out 0
       have hfz196_1 := bF_ BK101.out 1
       go_upto_region 14 with (first | ((with_reducible refine gate_callee (f := 45) rfl ?_); refine goesL_ (some 116) rfl rfl Try.func45 (by kernel_rfl) rfl #[.slice A0 l0.length c0, .agg #[.slice A1_0 l1_0.length c1_0, .int .i64 a1_1]] rfl (by (try simp only [List.map_toArray, List.map_cons, List.map_nil]); first | done | rfl | (simp only [List.length_drop, List.length_take]; rfl)) ?_; (with_reducible refine (jam_InBalance.calls kj150 _ _ l0 _ _ l1_0 a1_1 t134 t135 _ ?side1 ?side2 ?side3 ?side4 A187.out).mono ?_); (case side1 => repeat (first | exact (Kd.C_below HR0.out HB.out) | refine Up1.c ?_)); (case side2 => exact HC0.out); (case side3 => repeat (first | exact (Kd.C_below HR1_0.out HB.out) | refine Up1.c ?_)); (case side4 => exact HC1_0.out); rintro e w197 ⟨rfl, hb⟩; refine ⟨_, rfl, ?_⟩; replace HO_112000 := Az0.mk (Kd.rW_ (by (repeat refine Up1.r ?_); exact HO_112000.out) hb); replace HO_121000 := Az0.mk (Kd.rW_ (by (repeat refine Up1.r ?_); exact HO_121000.out) hb); replace BK101 := Az0.mk (bB_ (Ups.b BK101.out) hb); replace BK111 := Az0.mk (bB_ (Ups.b BK111.out) hb); replace BK112 := Az0.mk (bB_ (Ups.b BK112.out) hb); replace BK120 := Az0.mk (bB_ (Ups.b BK120.out) hb); replace BK121 := Az0.mk (bB_ (Ups.b BK121.out) hb); replace BK127 := Az0.mk (bB_ (Ups.b BK127.out) hb); replace BK131 := Az0.mk (bB_ (Ups.b BK131.out) hb); replace HB := Az0.mk (bP_ (by repeat first|exact HB.out | refine Up1.w ?_ | refine bS_ ?_ GE101.out | refine bS_ ?_ GE111.out | refine bS_ ?_ GE112.out | refine bS_ ?_ GE120.out | refine bS_ ?_ GE121.out | refine bS_ ?_ GE127.out | refine bS_ ?_ GE131.out) hb); (try clear hb); (try clear hb2); (try clear hk); (try clear hi); have hcz198_0 : w197.cell? ⟨gb101, 0, none⟩ = some (.slice A1_0 l1_0.length c1_0) := (bkC BK101.out 0).trans rfl; have hcz198_1 : w197.cell? ⟨gb101, 1, none⟩ = some (.int .i64 a1_1) := (bkC BK101.out 1).trans rfl; have hfz198_0 := bF_ BK101.out 0; have hfz198_1 := bF_ BK101.out 1) | ((with_reducible refine gate_callee (f := 43) rfl ?_); refine goesL_ (some 122) rfl rfl Try.func43 (by kernel_rfl) rfl #[.slice A0 l0.length c0, .agg #[.slice A1_0 l1_0.length c1_0, .int .i64 a1_1]] rfl (by (try simp only [List.map_toArray, List.map_cons, List.map_nil]); first | done | rfl | (simp only [List.length_drop, List.length_take]; rfl)) ?_; (with_reducible refine (jam_Delay.calls kj150 _ _ l0 _ _ l1_0 a1_1 t136 t137 t138 _ ?side1 ?side2 ?side3 ?side4 A188.out).mono ?_); (case side1 => repeat (first | exact (Kd.C_below HR0.out HB.out) | refine Up1.c ?_)); (case side2 => exact HC0.out); (case side3 => repeat (first | exact (Kd.C_below HR1_0.out HB.out) | refine Up1.c ?_)); (case side4 => exact HC1_0.out); rintro e w199 ⟨rfl, hb⟩; refine ⟨_, rfl, ?_⟩; replace HO_112000 := Az0.mk (Kd.rW_ (by (repeat refine Up1.r ?_); exact HO_112000.out) hb); replace HO_121000 := Az0.mk (Kd.rW_ (by (repeat refine Up1.r ?_); exact HO_121000.out) hb); replace BK101 := Az0.mk (bB_ (Ups.b BK101.out) hb); replace BK111 := Az0.mk (bB_ (Ups.b BK111.out) hb); replace BK112 := Az0.mk (bB_ (Ups.b BK112.out) hb); replace BK120 := Az0.mk (bB_ (Ups.b BK120.out) hb); replace BK121 := Az0.mk (bB_ (Ups.b BK121.out) hb); replace BK127 := Az0.mk (bB_ (Ups.b BK127.out) hb); replace BK131 := Az0.mk (bB_ (Ups.b BK131.out) hb); replace HB := Az0.mk (bP_ (by repeat first|exact HB.out | refine Up1.w ?_ | refine bS_ ?_ GE101.out | refine bS_ ?_ GE111.out | refine bS_ ?_ GE112.out | refine bS_ ?_ GE120.out | refine bS_ ?_ GE121.out | refine bS_ ?_ GE127.out | refine bS_ ?_ GE131.out) hb); (try clear hb); (try clear hb2); (try clear hk); (try clear hi)) | ((with_reducible refine gD_ (N := 17) rfl ?_); (try (refine gate_guard (by rfl) ?_; dsimp only)); refine bE_ ?hg (N := 17) ?hd (cs := #[.int .i64 0, .int .i64 0]) (t := 28) ?hr ?_; (case hd => rfl); (case hg => rfl); (case hr => first | (go_simp; done) | (go_simp; rfl)); intro gb139 hg w200 hbox hb; replace HO_112000 := Az0.mk (Kd.rW_ (by (repeat refine Up1.r ?_); exact HO_112000.out) hb); replace HO_121000 := Az0.mk (Kd.rW_ (by (repeat refine Up1.r ?_); exact HO_121000.out) hb); have n2_ := Az0.mk (bB_ (Ups.b BK101.out) hb); have n3_ := Az0.mk (bB_ (Ups.b BK111.out) hb); have n4_ := Az0.mk (bB_ (Ups.b BK112.out) hb); have n5_ := Az0.mk (bB_ (Ups.b BK120.out) hb); have n6_ := Az0.mk (bB_ (Ups.b BK121.out) hb); have n7_ := Az0.mk (bB_ (Ups.b BK127.out) hb); have n8_ := Az0.mk (bB_ (Ups.b BK131.out) hb); have n9_ := Az0.mk (bP_ (by repeat first|exact HB.out | refine Up1.w ?_ | refine bS_ ?_ GE101.out | refine bS_ ?_ GE111.out | refine bS_ ?_ GE112.out | refine bS_ ?_ GE120.out | refine bS_ ?_ GE121.out | refine bS_ ?_ GE127.out | refine bS_ ?_ GE131.out) hb); have n10_ := Az0.mk (hbox); have n11_ := Az0.mk ((by rw [hg]; exact (bZ_ (by repeat first|exact HB.out | refine Up1.w ?_ | refine bS_ ?_ GE101.out | refine bS_ ?_ GE111.out | refine bS_ ?_ GE112.out | refine bS_ ?_ GE120.out | refine bS_ ?_ GE121.out | refine bS_ ?_ GE127.out | refine bS_ ?_ GE131.out)) : w.heap.size ≤ gb139)); have n12_ := Az0.mk ((by rw [hg]; exact (bZ_ (by repeat first|exact HB.out | refine Up1.w ?_ | refine bS_ ?_ GE101.out | refine bS_ ?_ GE111.out | refine bS_ ?_ GE112.out | refine bS_ ?_ GE120.out | refine bS_ ?_ GE121.out | refine bS_ ?_ GE127.out | refine bS_ ?_ GE131.out)) : w.heap.size ≤ gb139)); have n13_ := Az0.mk ((by rw [hg]; exact Nat.ne_of_lt (bL_ (Ups.b BK101.out)) : gb101 ≠ gb139)); have n14_ := Az0.mk ((by rw [hg]; exact Nat.ne_of_gt (bL_ (Ups.b BK101.out)) : gb139 ≠ gb101)); have n15_ := Az0.mk ((by rw [hg]; exact Nat.ne_of_lt (bL_ (Ups.b BK111.out)) : gb111 ≠ gb139)); have n16_ := Az0.mk ((by rw [hg]; exact Nat.ne_of_gt (bL_ (Ups.b BK111.out)) : gb139 ≠ gb111)); have n17_ := Az0.mk ((by rw [hg]; exact Nat.ne_of_lt (bL_ (Ups.b BK112.out)) : gb112 ≠ gb139)); have n18_ := Az0.mk ((by rw [hg]; exact Nat.ne_of_gt (bL_ (Ups.b BK112.out)) : gb139 ≠ gb112)); have n19_ := Az0.mk ((by rw [hg]; exact Nat.ne_of_lt (bL_ (Ups.b BK120.out)) : gb120 ≠ gb139)); have n20_ := Az0.mk ((by rw [hg]; exact Nat.ne_of_gt (bL_ (Ups.b BK120.out)) : gb139 ≠ gb120)); have n21_ := Az0.mk ((by rw [hg]; exact Nat.ne_of_lt (bL_ (Ups.b BK121.out)) : gb121 ≠ gb139)); have n22_ := Az0.mk ((by rw [hg]; exact Nat.ne_of_gt (bL_ (Ups.b BK121.out)) : gb139 ≠ gb121)); have n23_ := Az0.mk ((by rw [hg]; exact Nat.ne_of_lt (bL_ (Ups.b BK127.out)) : gb127 ≠ gb139)); have n24_ := Az0.mk ((by rw [hg]; exact Nat.ne_of_gt (bL_ (Ups.b BK127.out)) : gb139 ≠ gb127)); have n25_ := Az0.mk ((by rw [hg]; exact Nat.ne_of_lt (bL_ (Ups.b BK131.out)) : gb131 ≠ gb139)); have n26_ := Az0.mk ((by rw [hg]; exact Nat.ne_of_gt (bL_ (Ups.b BK131.out)) : gb139 ≠ gb131)); clear BK101; clear BK111; clear BK112; clear BK120; clear BK121; clear BK127; clear BK131; clear HB; have BK101 := n2_; have BK111 := n3_; have BK112 := n4_; have BK120 := n5_; have BK121 := n6_; have BK127 := n7_; have BK131 := n8_; have HB := n9_; have BK139 := n10_; have GW139 := n11_; have GE139 := n12_; have NB101_139 := n13_; have NB139_101 := n14_; have NB111_139 := n15_; have NB139_111 := n16_; have NB112_139 := n17_; have NB139_112 := n18_; have NB120_139 := n19_; have NB139_120 := n20_; have NB121_139 := n21_; have NB139_121 := n22_; have NB127_139 := n23_; have NB139_127 := n24_; have NB131_139 := n25_; have NB139_131 := n26_; clear n2_ n3_ n4_ n5_ n6_ n7_ n8_ n9_ n10_ n11_ n12_ n13_ n14_ n15_ n16_ n17_ n18_ n19_ n20_ n21_ n22_ n23_ n24_ n25_ n26_; clear hb hbox hg; have hnb201 := NB139_101.out; have hnc201 := NB101_139.out; have hnb202 := NB139_111.out; have hnc202 := NB111_139.out; have hnb203 := NB139_112.out; have hnc203 := NB112_139.out; have hnb204 := NB139_120.out; have hnc204 := NB120_139.out; have hnb205 := NB139_121.out; have hnc205 := NB121_139.out; have hnb206 := NB139_127.out; have hnc206 := NB127_139.out; have hnb207 := NB139_131.out; have hnc207 := NB131_139.out; have hcz208_0 : w200.cell? ⟨gb139, 0, none⟩ = some (.int .i64 0) := (bkC BK139.out 0).trans rfl; have hcz208_1 : w200.cell? ⟨gb139, 1, none⟩ = some (.int .i64 0) := (bkC BK139.out 1).trans rfl; have hfz208_0 := bF_ BK139.out 0; have hfz208_1 := bF_ BK139.out 1))
       (try simp only [Act.put, Ups.sA, Ups.sZ, Ups.sS])
       go_cut [135] (fun v135 wc => ∃ (kq : Nat) (x135_188 : Bool), v135 = .bool x135_188 ∧ Az0 (lJS_.j3 kq t138 t134 x135_188 l1_0 a1_1 t113 t116 t117 t118 t136 t137 = some r) ∧ Az0 (kq ≤ kj150) ∧ Az0 (Kd.R (Kd.int .i64) 3 wc w.heap.size (fun k_ => some k_ ≠ ((.slice Ao31 t113.length co31) : Value).ownBlock) (.slice Ao22 t104.length co22) t104) ∧ Az0 (Kd.R (Kd.int .i64) 3 wc w.heap.size (fun k_ => some k_ ≠ ((.slice Ao22 t104.length co22) : Value).ownBlock) (.slice Ao31 t113.length co31) t113) ∧ Az0 (wc.heap[gb101]? = some (.cells #[(.slice A1_0 l1_0.length c1_0), .int .i64 a1_1] 26 (0, 0))) ∧ Az0 (wc.heap[gb111]? = some (.cells #[(.slice Ao22 t104.length co22), .int .i64 t107] 26 (0, 0))) ∧ Az0 (wc.heap[gb112]? = some (.cells #[.int .i64 t108, .int .i64 t109] 28 (0, 0))) ∧ Az0 (wc.heap[gb120]? = some (.cells #[(.slice Ao31 t113.length co31), .int .i64 t116] 26 (0, 0))) ∧ Az0 (wc.heap[gb121]? = some (.cells #[.int .i64 t117, .int .i64 t118] 28 (0, 0))) ∧ Az0 (wc.heap[gb127]? = some (.cells #[.int .i64 t124, .int .i64 t125] 28 (0, 0))) ∧ Az0 (wc.heap[gb131]? = some (.cells #[.int .i64 t128, .int .i64 t129] 28 (0, 0))) ∧ Az0 (wc.heap[gb139]? = some (.cells #[.int .i64 t136, .int .i64 t137] 28 (0, 0))) ∧ Az0 (Below w.heap.size w wc))
       case first =>
        have H := HC189.out
        clear HC189
        by_cases c209 : t135 = 0
        ·rw [if_pos c209] at H
         have c209b0 : (t135 == 0) = true := beq_iff_eq.mpr c209
         have c209b1 : (t135 != 0) = false := bne_eq_false_iff_eq.mpr c209
         clear c209
         (first | rw [c209b0] | (simp only [i64_w, i32_w]; rw [c209b0]) | skip)
         by_cases c210 : t134 = true
         ·subst c210
          have H1 : ((trishawlaw02_parts.f kj150 l1_0 a1_1 t104 t107).bind fun t140 => (lJS_.j3 kj150 t138 true (!t140) l1_0 a1_1 t113 t116 t117 t118 t136 t137)) = some r := by rw [if_pos rfl] at H; exact H
          clear H
          have H := H1
          clear H1
          replace H := Option.bind_eq_some_iff.mp H
          obtain ⟨t140, A2110, H⟩ := H
          try dsimp only at H
          have A211 := Az0.mk A2110
          clear A2110
          have H' := Az0.mk H
          clear H
          have hnb212 := NB101_111.out
          have hnc212 := NB111_101.out
          have hnb213 := NB101_112.out
          have hnc213 := NB112_101.out
          have hnb214 := NB101_120.out
          have hnc214 := NB120_101.out
          have hnb215 := NB101_121.out
          have hnc215 := NB121_101.out
          have hnb216 := NB101_127.out
          have hnc216 := NB127_101.out
          have hnb217 := NB101_131.out
          have hnc217 := NB131_101.out
          have hnb218 := NB101_139.out
          have hnc218 := NB139_101.out
          have hcz219_0 : w200.cell? ⟨gb101, 0, none⟩ = some (.slice A1_0 l1_0.length c1_0) := (bkC BK101.out 0).trans rfl
          have hcz219_1 : w200.cell? ⟨gb101, 1, none⟩ = some (.int .i64 a1_1) := (bkC BK101.out 1).trans rfl
          have hfz219_0 := bF_ BK101.out 0
          have hfz219_1 := bF_ BK101.out 1
          have hnb220 := NB111_112.out
          have hnc220 := NB112_111.out
          have hnb221 := NB111_120.out
          have hnc221 := NB120_111.out
          have hnb222 := NB111_121.out
          have hnc222 := NB121_111.out
          have hnb223 := NB111_127.out
          have hnc223 := NB127_111.out
          have hnb224 := NB111_131.out
          have hnc224 := NB131_111.out
          have hnb225 := NB111_139.out
          have hnc225 := NB139_111.out
          have hcz226_0 : w200.cell? ⟨gb111, 0, none⟩ = some (.slice Ao22 t104.length co22) := (bkC BK111.out 0).trans rfl
          have hcz226_1 : w200.cell? ⟨gb111, 1, none⟩ = some (.int .i64 t107) := (bkC BK111.out 1).trans rfl
          have hfz226_0 := bF_ BK111.out 0
          have hfz226_1 := bF_ BK111.out 1
          go_wp2_with (first | (go_at_call 19; (with_reducible refine (trishawlaw02_parts.calls kj150 _ _ l1_0 a1_1 _ _ t104 t107 t140 _ ?side1 ?side2 ?side3 ?side4 A211.out).mono ?_); (case side1 => exact Kd.C_below HR1_0.out (by repeat first|exact HB.out | refine Up1.w ?_ | refine bS_ ?_ GE101.out | refine bS_ ?_ GE111.out | refine bS_ ?_ GE112.out | refine bS_ ?_ GE120.out | refine bS_ ?_ GE121.out | refine bS_ ?_ GE127.out | refine bS_ ?_ GE131.out | refine bS_ ?_ GE139.out)); (case side2 => exact HC1_0.out); (case side3 => refine (Kd.R_reads' (e := 3) (base := w.heap.size) (ok := fun k_ => some k_ ≠ (.slice Ao31 t113.length co31 : Value).ownBlock) (n := t104.length) (c := co22) ?_).2.2; exact (by (repeat refine Up1.r ?_); exact (Kd.rM_ (Kd.rF_ (p := ⟨gb139, 1, none⟩) (Kd.rF_ (p := ⟨gb139, 0, none⟩) (Kd.rY_ HO_112000.out BK139.out (by decide)) (fun _ hk => hk.2) (.int .i64 t136)) (fun _ hk => hk.2) (.int .i64 t137)) (fun _ h_ => h_.1)))); (case side4 => exact (Kd.R_reads' HO_112000.out).2.1); rintro e w227 ⟨rfl, hb⟩; have n0_ := Az0.mk (Kd.rW_ (by (repeat refine Up1.r ?_); exact (Kd.rM_ (Kd.rF_ (p := ⟨gb139, 1, none⟩) (Kd.rF_ (p := ⟨gb139, 0, none⟩) (Kd.rY_ HO_112000.out BK139.out (by decide)) (fun _ hk => hk.2) (.int .i64 t136)) (fun _ hk => hk.2) (.int .i64 t137)) (fun _ h_ => h_.1))) hb); have n1_ := Az0.mk (Kd.rW_ (by (repeat refine Up1.r ?_); exact (Kd.rM_ (Kd.rF_ (p := ⟨gb139, 1, none⟩) (Kd.rF_ (p := ⟨gb139, 0, none⟩) (Kd.rY_ HO_121000.out BK139.out (by decide)) (fun _ hk => hk.2) (.int .i64 t136)) (fun _ hk => hk.2) (.int .i64 t137)) (fun _ h_ => h_.1))) hb); replace BK101 := Az0.mk (bB_ (g := gb101) (o := .cells #[.slice A1_0 l1_0.length c1_0, .int .i64 a1_1] 26 (0, 0)) (by refine Ups.b ?_; refine bR_ ?_ NB101_139.out _; refine Ups.b ?_; refine bR_ ?_ NB101_139.out _; refine Ups.b ?_; exact BK101.out) hb); replace BK111 := Az0.mk (bB_ (g := gb111) (o := .cells #[.slice Ao22 t104.length co22, .int .i64 t107] 26 (0, 0)) (by refine Ups.b ?_; refine bR_ ?_ NB111_139.out _; refine Ups.b ?_; refine bR_ ?_ NB111_139.out _; refine Ups.b ?_; exact BK111.out) hb); replace BK112 := Az0.mk (bB_ (g := gb112) (o := .cells #[.int .i64 t108, .int .i64 t109] 28 (0, 0)) (by refine Ups.b ?_; refine bR_ ?_ NB112_139.out _; refine Ups.b ?_; refine bR_ ?_ NB112_139.out _; refine Ups.b ?_; exact BK112.out) hb); replace BK120 := Az0.mk (bB_ (g := gb120) (o := .cells #[.slice Ao31 t113.length co31, .int .i64 t116] 26 (0, 0)) (by refine Ups.b ?_; refine bR_ ?_ NB120_139.out _; refine Ups.b ?_; refine bR_ ?_ NB120_139.out _; refine Ups.b ?_; exact BK120.out) hb); replace BK121 := Az0.mk (bB_ (g := gb121) (o := .cells #[.int .i64 t117, .int .i64 t118] 28 (0, 0)) (by refine Ups.b ?_; refine bR_ ?_ NB121_139.out _; refine Ups.b ?_; refine bR_ ?_ NB121_139.out _; refine Ups.b ?_; exact BK121.out) hb); replace BK127 := Az0.mk (bB_ (g := gb127) (o := .cells #[.int .i64 t124, .int .i64 t125] 28 (0, 0)) (by refine Ups.b ?_; refine bR_ ?_ NB127_139.out _; refine Ups.b ?_; refine bR_ ?_ NB127_139.out _; refine Ups.b ?_; exact BK127.out) hb); replace BK131 := Az0.mk (bB_ (g := gb131) (o := .cells #[.int .i64 t128, .int .i64 t129] 28 (0, 0)) (by refine Ups.b ?_; refine bR_ ?_ NB131_139.out _; refine Ups.b ?_; refine bR_ ?_ NB131_139.out _; refine Ups.b ?_; exact BK131.out) hb); have n9_ := Az0.mk (bB_ (g := gb139) (o := .cells #[.int .i64 t136, .int .i64 t137] 28 (0, 0)) (by refine Ups.b ?_; refine blk_put (cs := #[.int .i64 t136, .int .i64 0]) ?_ 1 _ rfl; refine Ups.b ?_; refine blk_put (cs := #[.int .i64 0, .int .i64 0]) ?_ 0 _ rfl; refine Ups.b ?_; exact BK139.out) hb); replace HB := Az0.mk (bP_ (by repeat first|exact HB.out | refine Up1.w ?_ | refine bS_ ?_ GE101.out | refine bS_ ?_ GE111.out | refine bS_ ?_ GE112.out | refine bS_ ?_ GE120.out | refine bS_ ?_ GE121.out | refine bS_ ?_ GE127.out | refine bS_ ?_ GE131.out | refine bS_ ?_ GE139.out) hb); clear HO_112000; clear HO_121000; clear BK139; have HO_112000 := n0_; have HO_121000 := n1_; have BK139 := n9_; clear n0_ n1_ n9_; (try clear hb); (try clear hb2); (try clear hk); (try clear hi)))
          go_meet
          case rel => exact ⟨_, (!t140), (by first | rfl | (simp; done) | (simp [*]; done)), H', ⟨by have := HJ2.out; have := HJ17.out; have := HJ150.out; first | omega | exact Nat.le_refl _⟩, ⟨by (repeat refine Up1.r ?_); exact HO_112000.out⟩, ⟨by (repeat refine Up1.r ?_); exact HO_121000.out⟩, ⟨by refine Ups.b ?_; exact BK101.out⟩, ⟨by refine Ups.b ?_; exact BK111.out⟩, ⟨by refine Ups.b ?_; exact BK112.out⟩, ⟨by refine Ups.b ?_; exact BK120.out⟩, ⟨by refine Ups.b ?_; exact BK121.out⟩, ⟨by refine Ups.b ?_; exact BK127.out⟩, ⟨by refine Ups.b ?_; exact BK131.out⟩, ⟨by refine Ups.b ?_; exact BK139.out⟩, ⟨by repeat first|exact HB.out | refine Up1.w ?_ | refine bS_ ?_ GE101.out | refine bS_ ?_ GE111.out | refine bS_ ?_ GE112.out | refine bS_ ?_ GE120.out | refine bS_ ?_ GE121.out | refine bS_ ?_ GE127.out | refine bS_ ?_ GE131.out | refine bS_ ?_ GE139.out⟩⟩
         replace c210 := Bool.eq_false_iff.mpr c210
         subst c210
         have H1 : (lJS_.j3 kj150 t138 false false l1_0 a1_1 t113 t116 t117 t118 t136 t137) = some r := by rw [if_neg (show ¬ (false = true) by decide)] at H; exact H
         clear H
         have H := H1
         clear H1
         have H' := Az0.mk H
         clear H
         go_wp2
         go_meet
         case rel => exact ⟨_, (false), (by first | rfl | (simp; done) | (simp [*]; done)), H', ⟨by have := HJ2.out; have := HJ17.out; have := HJ150.out; first | omega | exact Nat.le_refl _⟩, ⟨by (repeat refine Up1.r ?_); exact Kd.rM_ (Kd.rF_ (p := ⟨gb139, 1, none⟩) (Kd.rF_ (p := ⟨gb139, 0, none⟩) (Kd.rY_ HO_112000.out BK139.out (by decide)) (fun _ hk => hk.2) (.int .i64 t136)) (fun _ hk => hk.2) (.int .i64 t137)) (fun _ hk => hk.1)⟩, ⟨by (repeat refine Up1.r ?_); exact Kd.rM_ (Kd.rF_ (p := ⟨gb139, 1, none⟩) (Kd.rF_ (p := ⟨gb139, 0, none⟩) (Kd.rY_ HO_121000.out BK139.out (by decide)) (fun _ hk => hk.2) (.int .i64 t136)) (fun _ hk => hk.2) (.int .i64 t137)) (fun _ hk => hk.1)⟩, ⟨by refine Ups.b ?_; refine bR_ ?_ NB101_139.out _; refine Ups.b ?_; refine bR_ ?_ NB101_139.out _; refine Ups.b ?_; exact BK101.out⟩, ⟨by refine Ups.b ?_; refine bR_ ?_ NB111_139.out _; refine Ups.b ?_; refine bR_ ?_ NB111_139.out _; refine Ups.b ?_; exact BK111.out⟩, ⟨by refine Ups.b ?_; refine bR_ ?_ NB112_139.out _; refine Ups.b ?_; refine bR_ ?_ NB112_139.out _; refine Ups.b ?_; exact BK112.out⟩, ⟨by refine Ups.b ?_; refine bR_ ?_ NB120_139.out _; refine Ups.b ?_; refine bR_ ?_ NB120_139.out _; refine Ups.b ?_; exact BK120.out⟩, ⟨by refine Ups.b ?_; refine bR_ ?_ NB121_139.out _; refine Ups.b ?_; refine bR_ ?_ NB121_139.out _; refine Ups.b ?_; exact BK121.out⟩, ⟨by refine Ups.b ?_; refine bR_ ?_ NB127_139.out _; refine Ups.b ?_; refine bR_ ?_ NB127_139.out _; refine Ups.b ?_; exact BK127.out⟩, ⟨by refine Ups.b ?_; refine bR_ ?_ NB131_139.out _; refine Ups.b ?_; refine bR_ ?_ NB131_139.out _; refine Ups.b ?_; exact BK131.out⟩, ⟨by refine Ups.b ?_; refine blk_put (cs := #[.int .i64 t136, .int .i64 0]) ?_ 1 _ rfl; refine Ups.b ?_; refine blk_put (cs := #[.int .i64 0, .int .i64 0]) ?_ 0 _ rfl; refine Ups.b ?_; exact BK139.out⟩, ⟨by repeat first|exact HB.out | refine Up1.w ?_ | refine bS_ ?_ GE101.out | refine bS_ ?_ GE111.out | refine bS_ ?_ GE112.out | refine bS_ ?_ GE120.out | refine bS_ ?_ GE121.out | refine bS_ ?_ GE127.out | refine bS_ ?_ GE131.out | refine bS_ ?_ GE139.out⟩⟩
        rw [if_neg c209] at H
        have c209b0 : (t135 == 0) = false := beq_eq_false_iff_ne.mpr c209
        have c209b1 : (t135 != 0) = true := bne_iff_ne.mpr c209
        (first | rw [c209b0] | (simp only [i64_w, i32_w]; rw [c209b0]) | skip)
        exact absurd ((lJS_.j3_no _ _ _ _ _ _ _ _ _ _ _ _ H).symm.trans HRT.out) (by decide)
       case rest =>
        clear HC189
        try clear c1
        try clear c2
        try clear p2
        try clear c3
        try clear c4
        try clear c5
        try clear c5b0
        try clear c5b1
        try clear c6
        try clear c6b0
        try clear c6b1
        try clear c7
        try clear c8
        try clear c9
        try clear c10
        try clear c11
        try clear c12
        try clear c13
        try clear c14
        try clear c15
        try clear c16
        try clear c17
        try clear c18
        try clear c19
        try clear c20
        try clear c21
        try clear c22
        try clear c23
        try clear c24
        try clear c26
        try clear c32
        try clear c33
        try clear c34
        try clear c35
        try clear c37
        try clear c38
        try clear c39
        try clear c43
        try clear c45
        try clear c46
        try clear c47
        try clear c48
        try clear c49
        try clear c50
        try clear c55
        try clear c56
        try clear c57
        try clear c58
        try clear c59
        try clear c60
        try clear c62
        try clear c62b0
        try clear c62b1
        try clear c63
        try clear c63b0
        try clear c63b1
        try clear c64
        try clear c64b0
        try clear c64b1
        try clear c65
        try clear c65b0
        try clear c65b1
        try clear c66
        try clear c66b0
        try clear c66b1
        try clear c67
        try clear c68
        try clear c68b0
        try clear c69
        try clear c70
        try clear c71
        try clear c72
        try clear c73
        try clear c74
        try clear c76
        try clear c77
        try clear c78
        try clear c79
        try clear c80
        try clear c82
        try clear c82b0
        try clear c83
        try clear c84
        try clear c85
        try clear c86
        try clear c87
        try clear c88
        try clear c90
        try clear c91
        try clear c92
        try clear c93
        try clear c94
        try clear c96
        try clear c97
        try clear c98
        try clear c99
        try clear c101
        try clear c102
        try clear c103
        try clear c105
        try clear c105b0
        try clear c106
        try clear c107
        try clear c108
        try clear c109
        try clear c110
        try clear c111
        try clear c113
        try clear c114
        try clear c115
        try clear c116
        try clear c117
        try clear c119
        try clear c120
        try clear c121
        try clear c122
        try clear c124
        try clear c125
        try clear c126
        try clear c128
        try clear c129
        try clear c130
        try clear c131
        try clear c132
        try clear c133
        try clear c135
        try clear c136
        try clear c137
        try clear c138
        try clear c139
        try clear c141
        try clear c142
        try clear c143
        try clear c144
        try clear c146
        try clear c147
        try clear c148
        try clear c150
        try clear c153
        try clear c154
        try clear c155
        try clear c156
        try clear c157
        try clear c158
        try clear c159
        try clear c161
        try clear c162
        try clear c163
        try clear c164
        try clear c165
        try clear c169
        try clear c170
        try clear c171
        try clear c172
        try clear c173
        try clear c174
        try clear c176
        try clear c177
        try clear c178
        try clear c179
        try clear c180
        try clear c186
        try clear c190
        try clear c191
        try clear c192
        try clear c193
        try clear c194
        try clear c195
        try clear c201
        try clear c202
        try clear c203
        try clear c204
        try clear c205
        try clear c206
        try clear c207
        try clear c209
        try clear c209b0
        try clear c209b1
        try clear c210
        try clear c212
        try clear c213
        try clear c214
        try clear c215
        try clear c216
        try clear c217
        try clear c218
        try clear c220
        try clear c221
        try clear c222
        try clear c223
        try clear c224
        try clear c225
        try clear hcz100_0
        try clear hcz100_1
        try clear hcz104_0
        try clear hcz104_1
        try clear hcz112_0
        try clear hcz112_1
        try clear hcz118_0
        try clear hcz118_1
        try clear hcz123_0
        try clear hcz123_1
        try clear hcz127_0
        try clear hcz127_1
        try clear hcz134_0
        try clear hcz134_1
        try clear hcz140_0
        try clear hcz140_1
        try clear hcz145_0
        try clear hcz145_1
        try clear hcz149_0
        try clear hcz149_1
        try clear hcz160_0
        try clear hcz160_1
        try clear hcz166_0
        try clear hcz166_1
        try clear hcz175_0
        try clear hcz175_1
        try clear hcz181_0
        try clear hcz181_1
        try clear hcz183_0
        try clear hcz183_1
        try clear hcz184_0
        try clear hcz184_1
        try clear hcz196_0
        try clear hcz196_1
        try clear hcz198_0
        try clear hcz198_1
        try clear hcz208_0
        try clear hcz208_1
        try clear hcz219_0
        try clear hcz219_1
        try clear hcz226_0
        try clear hcz226_1
        try clear hcz25_0
        try clear hcz25_1
        try clear hcz27_0
        try clear hcz27_1
        try clear hcz36_0
        try clear hcz36_1
        try clear hcz40_0
        try clear hcz40_1
        try clear hcz41_0
        try clear hcz41_1
        try clear hcz43_0
        try clear hcz43_1
        try clear hcz51_0
        try clear hcz51_1
        try clear hcz52_0
        try clear hcz52_1
        try clear hcz61_0
        try clear hcz61_1
        try clear hcz75_0
        try clear hcz75_1
        try clear hcz7_0
        try clear hcz7_1
        try clear hcz81_0
        try clear hcz81_1
        try clear hcz89_0
        try clear hcz89_1
        try clear hcz95_0
        try clear hcz95_1
        try clear hcz9_0
        try clear hcz9_1
        try clear hfz100_0
        try clear hfz100_1
        try clear hfz104_0
        try clear hfz104_1
        try clear hfz112_0
        try clear hfz112_1
        try clear hfz118_0
        try clear hfz118_1
        try clear hfz123_0
        try clear hfz123_1
        try clear hfz127_0
        try clear hfz127_1
        try clear hfz134_0
        try clear hfz134_1
        try clear hfz140_0
        try clear hfz140_1
        try clear hfz145_0
        try clear hfz145_1
        try clear hfz149_0
        try clear hfz149_1
        try clear hfz160_0
        try clear hfz160_1
        try clear hfz166_0
        try clear hfz166_1
        try clear hfz175_0
        try clear hfz175_1
        try clear hfz181_0
        try clear hfz181_1
        try clear hfz183_0
        try clear hfz183_1
        try clear hfz184_0
        try clear hfz184_1
        try clear hfz196_0
        try clear hfz196_1
        try clear hfz198_0
        try clear hfz198_1
        try clear hfz208_0
        try clear hfz208_1
        try clear hfz219_0
        try clear hfz219_1
        try clear hfz226_0
        try clear hfz226_1
        try clear hfz25_0
        try clear hfz25_1
        try clear hfz27_0
        try clear hfz27_1
        try clear hfz36_0
        try clear hfz36_1
        try clear hfz40_0
        try clear hfz40_1
        try clear hfz41_0
        try clear hfz41_1
        try clear hfz43_0
        try clear hfz43_1
        try clear hfz51_0
        try clear hfz51_1
        try clear hfz52_0
        try clear hfz52_1
        try clear hfz61_0
        try clear hfz61_1
        try clear hfz75_0
        try clear hfz75_1
        try clear hfz7_0
        try clear hfz7_1
        try clear hfz81_0
        try clear hfz81_1
        try clear hfz89_0
        try clear hfz89_1
        try clear hfz95_0
        try clear hfz95_1
        try clear hfz9_0
        try clear hfz9_1
        try clear p2
        obtain ⟨kq, x135_188, rfl, HA, HJ188, HO_112000, HO_121000, BK101, BK111, BK112, BK120, BK121, BK127, BK131, BK139, HB⟩ := hcut
        cases kq with
        | zero => exact absurd HA.out (by simp [lJS_.j3])
        | succ kj188 =>
         have H := HA.out
         clear HA
         simp only [lJS_.j3] at H
         by_cases c228 : x135_188 = true
         ·subst c228
          have H1 : (some false) = some r := by rw [if_pos rfl] at H; exact H
          exact absurd ((Option.some.inj H1).trans HRT.out) (by decide)
         replace c228 := Bool.eq_false_iff.mpr c228
         subst c228
         have H1 : (if t138 = 0 then (if t137 ≥ 1 then ((lLe_.f kj188 t136 t137 1 t117 t118 1).bind fun t141 => (if t141 = true then (some false) else (if (!(t136 == t117) || (!(t137 == t118))) = true then ((lAl_.f kj188).bind fun t142 => (some t142)) else ((trishawlaw02_parts.f kj188 l1_0 a1_1 t113 t116).bind fun t143 => (if t143 = true then ((lAl_.f kj188).bind fun t144 => (some t144)) else (some false)))))) else (some false)) else (if t138 = 2 then (if t134 = true then (some false) else ((lAl_.f kj188).bind fun t145 => (some t145))) else (some false))) = some r := by rw [if_neg (show ¬ (false = true) by decide)] at H; exact H
         clear H
         have H := H1
         clear H1
         by_cases c229 : t138 = 0
         ·rw [if_pos c229] at H
          have c229b0 : (t138 == 0) = true := beq_iff_eq.mpr c229
          have c229b1 : (t138 != 0) = false := bne_eq_false_iff_eq.mpr c229
          clear c229
          by_cases c230 : t137 ≥ 1
          ·rw [if_pos c230] at H
           have c230b0 : decide (1 ≤ t137) = true := decide_eq_true c230
           clear c230
           replace H := Option.bind_eq_some_iff.mp H
           obtain ⟨t141, A2310, H⟩ := H
           try dsimp only at H
           have A231 := Az0.mk A2310
           clear A2310
           by_cases c232 : t141 = true
           ·subst c232
            have H1 : (some false) = some r := by rw [if_pos rfl] at H; exact H
            exact absurd ((Option.some.inj H1).trans HRT.out) (by decide)
           replace c232 := Bool.eq_false_iff.mpr c232
           subst c232
           have H1 : (if (!(t136 == t117) || (!(t137 == t118))) = true then ((lAl_.f kj188).bind fun t142 => (some t142)) else ((trishawlaw02_parts.f kj188 l1_0 a1_1 t113 t116).bind fun t143 => (if t143 = true then ((lAl_.f kj188).bind fun t144 => (some t144)) else (some false)))) = some r := by rw [if_neg (show ¬ (false = true) by decide)] at H; exact H
           clear H
           have H := H1
           clear H1
           by_cases c249 : (!(t136 == t117) || (!(t137 == t118))) = true
           ·rw [if_pos c249] at H
            have c249b0 : (!(t136 == t117) || (!(t137 == t118))) = true := c249
            clear c249
            replace H := Option.bind_eq_some_iff.mp H
            obtain ⟨t142, A2500, H⟩ := H
            try dsimp only at H
            have A250 := Az0.mk A2500
            clear A2500
            obtain rfl := Option.some.inj H
            have hnb251 := NB139_101.out
            have hnc251 := NB101_139.out
            have hnb252 := NB139_111.out
            have hnc252 := NB111_139.out
            have hnb253 := NB139_112.out
            have hnc253 := NB112_139.out
            have hnb254 := NB139_120.out
            have hnc254 := NB120_139.out
            have hnb255 := NB139_121.out
            have hnc255 := NB121_139.out
            have hnb256 := NB139_127.out
            have hnc256 := NB127_139.out
            have hnb257 := NB139_131.out
            have hnc257 := NB131_139.out
            have hcz258_0 : wc.cell? ⟨gb139, 0, none⟩ = some (.int .i64 t136) := (bkC BK139.out 0).trans rfl
            have hcz258_1 : wc.cell? ⟨gb139, 1, none⟩ = some (.int .i64 t137) := (bkC BK139.out 1).trans rfl
            have hfz258_0 := bF_ BK139.out 0
            have hfz258_1 := bF_ BK139.out 1
            have hnb259 := NB121_101.out
            have hnc259 := NB101_121.out
            have hnb260 := NB121_111.out
            have hnc260 := NB111_121.out
            have hnb261 := NB121_112.out
            have hnc261 := NB112_121.out
            have hnb262 := NB121_120.out
            have hnc262 := NB120_121.out
            have hnb263 := NB121_127.out
            have hnc263 := NB127_121.out
            have hnb264 := NB121_131.out
            have hnc264 := NB131_121.out
            have hcz265_0 : wc.cell? ⟨gb121, 0, none⟩ = some (.int .i64 t117) := (bkC BK121.out 0).trans rfl
            have hcz265_1 : wc.cell? ⟨gb121, 1, none⟩ = some (.int .i64 t118) := (bkC BK121.out 1).trans rfl
            have hfz265_0 := bF_ BK121.out 0
            have hfz265_1 := bF_ BK121.out 1
            go_wp2_with (first | (go_at_call 23; (with_reducible refine (lLe_.calls kj188 t136 t137 1 t117 t118 1 false _ A231.out).mono ?_); rintro e w266 ⟨rfl, hb⟩; replace HO_121000 := Az0.mk (Kd.rW_ (by (repeat refine Up1.r ?_); exact HO_121000.out) hb); replace BK101 := Az0.mk (bB_ (Ups.b BK101.out) hb); replace BK120 := Az0.mk (bB_ (Ups.b BK120.out) hb); replace BK121 := Az0.mk (bB_ (Ups.b BK121.out) hb); replace BK139 := Az0.mk (bB_ (Ups.b BK139.out) hb); replace HB := Az0.mk (bP_ (by repeat first|exact HB.out | refine Up1.w ?_ | refine bS_ ?_ GE101.out | refine bS_ ?_ GE111.out | refine bS_ ?_ GE112.out | refine bS_ ?_ GE120.out | refine bS_ ?_ GE121.out | refine bS_ ?_ GE127.out | refine bS_ ?_ GE131.out | refine bS_ ?_ GE139.out) hb); (try clear hb); (try clear hb2); (try clear hk); (try clear hi); have hcz267_0 : w266.cell? ⟨gb139, 0, none⟩ = some (.int .i64 t136) := (bkC BK139.out 0).trans rfl; have hcz267_1 : w266.cell? ⟨gb139, 1, none⟩ = some (.int .i64 t137) := (bkC BK139.out 1).trans rfl; have hfz267_0 := bF_ BK139.out 0; have hfz267_1 := bF_ BK139.out 1; have hcz268_0 : w266.cell? ⟨gb121, 0, none⟩ = some (.int .i64 t117) := (bkC BK121.out 0).trans rfl; have hcz268_1 : w266.cell? ⟨gb121, 1, none⟩ = some (.int .i64 t118) := (bkC BK121.out 1).trans rfl; have hfz268_0 := bF_ BK121.out 0; have hfz268_1 := bF_ BK121.out 1) | (go_at_call 16; (with_reducible refine (lAl_.calls kj188  t142 _ A250.out).mono ?_); rintro e w269 ⟨rfl, hb⟩; replace HO_121000 := Az0.mk (Kd.rW_ (by (repeat refine Up1.r ?_); exact HO_121000.out) hb); replace BK101 := Az0.mk (bB_ (Ups.b BK101.out) hb); replace BK120 := Az0.mk (bB_ (Ups.b BK120.out) hb); replace BK121 := Az0.mk (bB_ (Ups.b BK121.out) hb); replace BK139 := Az0.mk (bB_ (Ups.b BK139.out) hb); replace HB := Az0.mk (bP_ (by repeat first|exact HB.out | refine Up1.w ?_ | refine bS_ ?_ GE101.out | refine bS_ ?_ GE111.out | refine bS_ ?_ GE112.out | refine bS_ ?_ GE120.out | refine bS_ ?_ GE121.out | refine bS_ ?_ GE127.out | refine bS_ ?_ GE131.out | refine bS_ ?_ GE139.out) hb); (try clear hb); (try clear hb2); (try clear hk); (try clear hi)))
            go_ret
            exact ⟨by first | rfl | (simp [errW_none, errW_some] <;> rfl) | (simp [*, errW_none, errW_some] <;> rfl), by repeat first|exact HB.out | refine Up1.w ?_ | refine bS_ ?_ GE101.out | refine bS_ ?_ GE111.out | refine bS_ ?_ GE112.out | refine bS_ ?_ GE120.out | refine bS_ ?_ GE121.out | refine bS_ ?_ GE127.out | refine bS_ ?_ GE131.out | refine bS_ ?_ GE139.out⟩
           rw [if_neg c249] at H
           have c249b0 : (!(t136 == t117) || (!(t137 == t118))) = false := by simpa using c249
           clear c249
           replace H := Option.bind_eq_some_iff.mp H
           obtain ⟨t143, A2700, H⟩ := H
           try dsimp only at H
           have A270 := Az0.mk A2700
           clear A2700
           by_cases c271 : t143 = true
           ·subst c271
            have H1 : ((lAl_.f kj188).bind fun t144 => (some t144)) = some r := by rw [if_pos rfl] at H; exact H
            clear H
            have H := H1
            clear H1
            replace H := Option.bind_eq_some_iff.mp H
            obtain ⟨t144, A2720, H⟩ := H
            try dsimp only at H
            have A272 := Az0.mk A2720
            clear A2720
            obtain rfl := Option.some.inj H
            have hnb273 := NB139_101.out
            have hnc273 := NB101_139.out
            have hnb274 := NB139_111.out
            have hnc274 := NB111_139.out
            have hnb275 := NB139_112.out
            have hnc275 := NB112_139.out
            have hnb276 := NB139_120.out
            have hnc276 := NB120_139.out
            have hnb277 := NB139_121.out
            have hnc277 := NB121_139.out
            have hnb278 := NB139_127.out
            have hnc278 := NB127_139.out
            have hnb279 := NB139_131.out
            have hnc279 := NB131_139.out
            have hcz280_0 : wc.cell? ⟨gb139, 0, none⟩ = some (.int .i64 t136) := (bkC BK139.out 0).trans rfl
            have hcz280_1 : wc.cell? ⟨gb139, 1, none⟩ = some (.int .i64 t137) := (bkC BK139.out 1).trans rfl
            have hfz280_0 := bF_ BK139.out 0
            have hfz280_1 := bF_ BK139.out 1
            have hnb281 := NB121_101.out
            have hnc281 := NB101_121.out
            have hnb282 := NB121_111.out
            have hnc282 := NB111_121.out
            have hnb283 := NB121_112.out
            have hnc283 := NB112_121.out
            have hnb284 := NB121_120.out
            have hnc284 := NB120_121.out
            have hnb285 := NB121_127.out
            have hnc285 := NB127_121.out
            have hnb286 := NB121_131.out
            have hnc286 := NB131_121.out
            have hcz287_0 : wc.cell? ⟨gb121, 0, none⟩ = some (.int .i64 t117) := (bkC BK121.out 0).trans rfl
            have hcz287_1 : wc.cell? ⟨gb121, 1, none⟩ = some (.int .i64 t118) := (bkC BK121.out 1).trans rfl
            have hfz287_0 := bF_ BK121.out 0
            have hfz287_1 := bF_ BK121.out 1
            go_wp2_with (first | (go_at_call 23; (with_reducible refine (lLe_.calls kj188 t136 t137 1 t117 t118 1 false _ A231.out).mono ?_); rintro e w288 ⟨rfl, hb⟩; replace HO_121000 := Az0.mk (Kd.rW_ (by (repeat refine Up1.r ?_); exact HO_121000.out) hb); replace BK101 := Az0.mk (bB_ (Ups.b BK101.out) hb); replace BK120 := Az0.mk (bB_ (Ups.b BK120.out) hb); replace BK121 := Az0.mk (bB_ (Ups.b BK121.out) hb); replace BK139 := Az0.mk (bB_ (Ups.b BK139.out) hb); replace HB := Az0.mk (bP_ (by repeat first|exact HB.out | refine Up1.w ?_ | refine bS_ ?_ GE101.out | refine bS_ ?_ GE111.out | refine bS_ ?_ GE112.out | refine bS_ ?_ GE120.out | refine bS_ ?_ GE121.out | refine bS_ ?_ GE127.out | refine bS_ ?_ GE131.out | refine bS_ ?_ GE139.out) hb); (try clear hb); (try clear hb2); (try clear hk); (try clear hi); have hcz289_0 : w288.cell? ⟨gb139, 0, none⟩ = some (.int .i64 t136) := (bkC BK139.out 0).trans rfl; have hcz289_1 : w288.cell? ⟨gb139, 1, none⟩ = some (.int .i64 t137) := (bkC BK139.out 1).trans rfl; have hfz289_0 := bF_ BK139.out 0; have hfz289_1 := bF_ BK139.out 1; have hcz290_0 : w288.cell? ⟨gb121, 0, none⟩ = some (.int .i64 t117) := (bkC BK121.out 0).trans rfl; have hcz290_1 : w288.cell? ⟨gb121, 1, none⟩ = some (.int .i64 t118) := (bkC BK121.out 1).trans rfl; have hfz290_0 := bF_ BK121.out 0; have hfz290_1 := bF_ BK121.out 1; have hnb291 := NB101_111.out; have hnc291 := NB111_101.out; have hnb292 := NB101_112.out; have hnc292 := NB112_101.out; have hnb293 := NB101_120.out; have hnc293 := NB120_101.out; have hnb294 := NB101_127.out; have hnc294 := NB127_101.out; have hnb295 := NB101_131.out; have hnc295 := NB131_101.out; have hcz296_0 : w288.cell? ⟨gb101, 0, none⟩ = some (.slice A1_0 l1_0.length c1_0) := (bkC BK101.out 0).trans rfl; have hcz296_1 : w288.cell? ⟨gb101, 1, none⟩ = some (.int .i64 a1_1) := (bkC BK101.out 1).trans rfl; have hfz296_0 := bF_ BK101.out 0; have hfz296_1 := bF_ BK101.out 1; have hnb297 := NB120_111.out; have hnc297 := NB111_120.out; have hnb298 := NB120_112.out; have hnc298 := NB112_120.out; have hnb299 := NB120_127.out; have hnc299 := NB127_120.out; have hnb300 := NB120_131.out; have hnc300 := NB131_120.out; have hcz301_0 : w288.cell? ⟨gb120, 0, none⟩ = some (.slice Ao31 t113.length co31) := (bkC BK120.out 0).trans rfl; have hcz301_1 : w288.cell? ⟨gb120, 1, none⟩ = some (.int .i64 t116) := (bkC BK120.out 1).trans rfl; have hfz301_0 := bF_ BK120.out 0; have hfz301_1 := bF_ BK120.out 1) | (go_at_call 19; (with_reducible refine (trishawlaw02_parts.calls kj188 _ _ l1_0 a1_1 _ _ t113 t116 true _ ?side1 ?side2 ?side3 ?side4 A270.out).mono ?_); (case side1 => repeat (first | exact (Kd.C_below HR1_0.out HB.out) | refine Up1.c ?_)); (case side2 => exact HC1_0.out); (case side3 => repeat (first | exact (Kd.R_reads' HO_121000.out).2.2 | refine Up1.c ?_)); (case side4 => exact (Kd.R_reads' HO_121000.out).2.1); rintro e w302 ⟨rfl, hb⟩; replace HB := Az0.mk (bP_ (by repeat first|exact HB.out | refine Up1.w ?_ | refine bS_ ?_ GE101.out | refine bS_ ?_ GE111.out | refine bS_ ?_ GE112.out | refine bS_ ?_ GE120.out | refine bS_ ?_ GE121.out | refine bS_ ?_ GE127.out | refine bS_ ?_ GE131.out | refine bS_ ?_ GE139.out) hb); (try clear hb); (try clear hb2); (try clear hk); (try clear hi)) | (go_at_call 16; (with_reducible refine (lAl_.calls kj188  t144 _ A272.out).mono ?_); rintro e w303 ⟨rfl, hb⟩; replace HB := Az0.mk (bP_ (by repeat first|exact HB.out | refine Up1.w ?_ | refine bS_ ?_ GE101.out | refine bS_ ?_ GE111.out | refine bS_ ?_ GE112.out | refine bS_ ?_ GE120.out | refine bS_ ?_ GE121.out | refine bS_ ?_ GE127.out | refine bS_ ?_ GE131.out | refine bS_ ?_ GE139.out) hb); (try clear hb); (try clear hb2); (try clear hk); (try clear hi)))
            go_ret
            exact ⟨by first | rfl | (simp [errW_none, errW_some] <;> rfl) | (simp [*, errW_none, errW_some] <;> rfl), by repeat first|exact HB.out | refine Up1.w ?_ | refine bS_ ?_ GE101.out | refine bS_ ?_ GE111.out | refine bS_ ?_ GE112.out | refine bS_ ?_ GE120.out | refine bS_ ?_ GE121.out | refine bS_ ?_ GE127.out | refine bS_ ?_ GE131.out | refine bS_ ?_ GE139.out⟩
           replace c271 := Bool.eq_false_iff.mpr c271
           subst c271
           have H1 : (some false) = some r := by rw [if_neg (show ¬ (false = true) by decide)] at H; exact H
           exact absurd ((Option.some.inj H1).trans HRT.out) (by decide)
          rw [if_neg c230] at H
          have c230b0 : decide (1 ≤ t137) = false := decide_eq_false c230
          clear c230
          exact absurd ((Option.some.inj H).trans HRT.out) (by decide)
         rw [if_neg c229] at H
         have c229b0 : (t138 == 0) = false := beq_eq_false_iff_ne.mpr c229
         have c229b1 : (t138 != 0) = true := bne_iff_ne.mpr c229
         by_cases c342 : t138 = 2
         ·rw [if_pos c342] at H
          have c342b0 : (t138 == 2) = true := beq_iff_eq.mpr c342
          have c342b1 : (t138 != 2) = false := bne_eq_false_iff_eq.mpr c342
          clear c342
          by_cases c343 : t134 = true
          ·subst c343
           have H1 : (some false) = some r := by rw [if_pos rfl] at H; exact H
           exact absurd ((Option.some.inj H1).trans HRT.out) (by decide)
          replace c343 := Bool.eq_false_iff.mpr c343
          subst c343
          have H1 : ((lAl_.f kj188).bind fun t145 => (some t145)) = some r := by rw [if_neg (show ¬ (false = true) by decide)] at H; exact H
          clear H
          have H := H1
          clear H1
          replace H := Option.bind_eq_some_iff.mp H
          obtain ⟨t145, A3440, H⟩ := H
          try dsimp only at H
          have A344 := Az0.mk A3440
          clear A3440
          obtain rfl := Option.some.inj H
          go_wp2_with (first | (go_at_call 16; (with_reducible refine (lAl_.calls kj188  t145 _ A344.out).mono ?_); rintro e w345 ⟨rfl, hb⟩; replace HB := Az0.mk (bP_ (by repeat first|exact HB.out | refine Up1.w ?_ | refine bS_ ?_ GE101.out | refine bS_ ?_ GE111.out | refine bS_ ?_ GE112.out | refine bS_ ?_ GE120.out | refine bS_ ?_ GE121.out | refine bS_ ?_ GE127.out | refine bS_ ?_ GE131.out | refine bS_ ?_ GE139.out) hb); (try clear hb); (try clear hb2); (try clear hk); (try clear hi)))
          go_ret
          exact ⟨by first | rfl | (simp [errW_none, errW_some] <;> rfl) | (simp [*, errW_none, errW_some] <;> rfl), by repeat first|exact HB.out | refine Up1.w ?_ | refine bS_ ?_ GE101.out | refine bS_ ?_ GE111.out | refine bS_ ?_ GE112.out | refine bS_ ?_ GE120.out | refine bS_ ?_ GE121.out | refine bS_ ?_ GE127.out | refine bS_ ?_ GE131.out | refine bS_ ?_ GE139.out⟩
         rw [if_neg c342] at H
         have c342b0 : (t138 == 2) = false := beq_eq_false_iff_ne.mpr c342
         have c342b1 : (t138 != 2) = true := bne_iff_ne.mpr c342
         exact absurd ((Option.some.inj H).trans HRT.out) (by decide)
end Go.Proofs.Ytjgbdicbdlollaa.B
namespace Go.Proofs.Ytjgbdicbdlollaa.B
open Go.RowKit Go.ChangeShapes Go.WideShapes Go.Deep Go.Proofs.YtjgbdicbdlollaaW.PrintWords Go.Proofs.YtjgbdicbdlollaaW.PrintLast Go.Proofs.YtjgbdicbdlollaaW.PrintMore
/-- A lane's two numbers are whole numbers of 64 bits. -/
def okS36 (x : S36) : Prop := (Lit.int .i64 x.f0).wf = true ∧ (Lit.int .i64 x.f1).wf = true
section
variable {H : Type} {enc : TypeId × Value → H} {w : World} {spare : Nat → Bool} {held : Bool}
set_option maxRecDepth 100000 in
theorem open_lane {fuel : Nat} {cs : List Value} {x : DataW H × List MemPlace} (h : DataW.trod enc Try.prog w 0 spare held fuel 36 cs = some x) : ∃ s : S36, cs = [.int .i64 s.f0, .int .i64 s.f1] ∧ okS36 s := by
  obtain ⟨xs, n, _, _, hlen, hxl, hf⟩ := DataW.trod_struct Try.underlying36 h
  have h36 : Try.prog.cellsOf 36 = 2 := by kernel_rfl
  have h3 : Try.prog.cellsOf 3 = 1 := by kernel_rfl
  rw [h36] at hlen
  match cs, hlen with
  | [c0, c1], _ =>
    have hsz : xs.length = 2 := hxl
    match xs, hsz with
    | [y0, y1], _ =>
      have g0 : DataW.trod enc Try.prog w 0 spare held n 3 (([c0, c1].drop 0).take (Try.prog.cellsOf 3)) = some y0 := hf 0 _ rfl
      have g1 : DataW.trod enc Try.prog w 0 spare held n 3 (([c0, c1].drop 1).take (Try.prog.cellsOf 3)) = some y1 := hf 1 _ rfl
      rw [h3] at g0 g1
      obtain ⟨n0, e0, _, w0⟩ := DataW.trod_int Try.underlying3 g0
      obtain ⟨n1, e1, _, w1⟩ := DataW.trod_int Try.underlying3 g1
      obtain rfl : c0 = .int .i64 n0 := by injection e0
      obtain rfl : c1 = .int .i64 n1 := by injection e1
      exact ⟨⟨n0, n1⟩, rfl, w0, w1⟩
theorem open_lanes {a : Option Addr} {len cap : Nat} {d : DataW H} {p : List MemPlace} (h : DataW.Trod enc Try.prog w 0 spare held 22 (.slice a len cap) d p) :
    ∃ l : List S36, Kd.C k36 w a l.length l ∧ l.length = len ∧ len ≤ cap ∧ cap ≤ maxLen ∧ ∀ x ∈ l, okS36 x := by
  obtain ⟨fuel, hf⟩ := h
  rcases open_slice Try.underlying22 hf with ⟨hcs, _⟩ | ⟨x, l, c, m, n, D, Pl, hcs, _, hl, hm, hmm, _, hi⟩
  · simp [Value.cells] at hcs
    obtain ⟨rfl, rfl, rfl⟩ := hcs
    exact ⟨[], ⟨rfl, by simp, fun h => absurd h (by simp)⟩, rfl, Nat.le_refl _, by simp, by simp⟩
  simp [Value.cells] at hcs
  obtain ⟨rfl, rfl, rfl⟩ := hcs
  have hlm : len ≤ m := by rw [hmm]; split <;> omega
  have h36 : Try.prog.cellsOf 36 = 2 := by kernel_rfl
  rw [h36] at hi
  have hex : ∀ i : Nat, ∃ s : S36, i < len → okS36 s ∧ w.cells? 0 (x.add (i * 2)) 2 = some [.int .i64 s.f0, .int .i64 s.f1] := by
    intro i
    by_cases h : i < len
    · obtain ⟨cs', hc, ht⟩ := hi i (by omega)
      obtain ⟨s, rfl, hs⟩ := open_lane ht
      exact ⟨s, fun _ => ⟨hs, hc⟩⟩
    exact ⟨z36, fun h' => absurd h' h⟩
  obtain ⟨f, hf⟩ := Classical.axiomOfChoice hex
  have hll : ((List.range len).map f).length = len := by simp
  refine ⟨(List.range len).map f, ⟨rfl, by rw [hll]; simp only [maxLen] at hm; omega, fun _ => ⟨x, rfl, fun j p hj => ?_⟩⟩, hll, hl, hm, fun y hy => ?_⟩
  · have hjl : j < len := by have := (List.getElem?_eq_some_iff.1 hj).1; rw [hll] at this; exact this
    rw [List.getElem?_map, List.getElem?_range hjl] at hj
    injection hj with hj
    subst hj
    obtain ⟨hs, hc⟩ := hf j hjl
    obtain ⟨_, _, hat⟩ := World.cells?_some hc
    refine ⟨[.int .i64 (f j).f0, .int .i64 (f j).f1], rfl, k36_mk w (f j), fun i u hu => ?_⟩
    have hi2 : i < 2 := (List.getElem?_eq_some_iff.1 hu).1
    show w.cell? (x.add (j * 2 + i)) = some u
    rw [← Go.Deep.add_add, hat i hi2, hu]
  obtain ⟨j, hj, rfl⟩ := List.mem_map.1 hy
  exact (hf j (List.mem_range.1 hj)).1
end
end Go.Proofs.Ytjgbdicbdlollaa.B
namespace Go.Proofs.Ytjgbdicbdlollaa.B
open Go.RowKit Go.ChangeShapes Go.WideShapes Go.Deep Go.Proofs.YtjgbdicbdlollaaW.PrintWords Go.Proofs.YtjgbdicbdlollaaW.PrintLast Go.Proofs.YtjgbdicbdlollaaW.PrintMore
def okI (x : Int) : Prop := (Lit.int .i64 x).wf = true
def okRow (l : List Int) : Prop := l.length ≤ maxLen ∧ ∀ x ∈ l, okI x
section
variable {H : Type} {enc : TypeId × Value → H} {w : World} {spare : Nat → Bool} {held : Bool}
theorem open_list {α : Type} [Inhabited α] (d : Kd α) (ok : α → Prop) {t e : TypeId} (ht : Try.prog.underlying t = some (.slice e)) (hsz : Try.prog.cellsOf e = d.sz)
    (ho : ∀ (fuel : Nat) (cs : List Value) (x : DataW H × List MemPlace), DataW.trod enc Try.prog w 0 spare held fuel e cs = some x → ∃ s, d.K w s cs ∧ ok s)
    {fuel : Nat} {cs : List Value} {x : DataW H × List MemPlace} (h : DataW.trod enc Try.prog w 0 spare held fuel t cs = some x) :
    ∃ (A : Option Addr) (l : List α) (c : Nat), cs = [.slice A l.length c] ∧ l.length ≤ c ∧ c ≤ maxLen ∧ Kd.C d w A l.length l ∧ ∀ x ∈ l, ok x := by
  rcases open_slice ht h with ⟨rfl, _⟩ | ⟨x, l, c, m, n, D, Pl, rfl, _, hl, hm, hmm, _, hi⟩
  · exact ⟨none, [], 0, rfl, Nat.le_refl _, by simp, Kd.C_nil d w, by simp⟩
  have hlm : l ≤ m := by rw [hmm]; split <;> omega
  rw [hsz] at hi
  have hex : ∀ i : Nat, ∃ s : α, i < l → ok s ∧ ∃ cs', d.K w s cs' ∧ w.cells? 0 (x.add (i * d.sz)) d.sz = some cs' := by
    intro i
    by_cases h : i < l
    · obtain ⟨cs', hc, ht⟩ := hi i (by omega)
      obtain ⟨s, hs, hk⟩ := ho _ _ _ ht
      exact ⟨s, fun _ => ⟨hk, cs', hs, hc⟩⟩
    exact ⟨default, fun h' => absurd h' h⟩
  obtain ⟨f, hf⟩ := Classical.axiomOfChoice hex
  have hll : ((List.range l).map f).length = l := by simp
  refine ⟨some x, (List.range l).map f, c, by rw [hll], by rw [hll]; exact hl, hm, ⟨rfl, by rw [hll]; simp only [maxLen] at hm; omega, fun _ => ⟨x, rfl, fun j p hj => ?_⟩⟩, fun y hy => ?_⟩
  · have hjl : j < l := by have := (List.getElem?_eq_some_iff.1 hj).1; rw [hll] at this; exact this
    rw [List.getElem?_map, List.getElem?_range hjl] at hj
    injection hj with hj
    subst hj
    obtain ⟨hs, cs', hK, hc⟩ := hf j hjl
    obtain ⟨_, hlen, hat⟩ := World.cells?_some hc
    refine ⟨cs', hlen, hK, fun i u hu => ?_⟩
    have hi2 : i < d.sz := by have := (List.getElem?_eq_some_iff.1 hu).1; omega
    rw [← Go.Deep.add_add, hat i hi2, hu]
  obtain ⟨j, hj, rfl⟩ := List.mem_map.1 hy
  exact (hf j (List.mem_range.1 hj)).1
theorem open_int3 (fuel : Nat) (cs : List Value) (x : DataW H × List MemPlace) (h : DataW.trod enc Try.prog w 0 spare held fuel 3 cs = some x) : ∃ s : Int, (Kd.int .i64).K w s cs ∧ okI s := by
  obtain ⟨n0, e0, _, w0⟩ := DataW.trod_int Try.underlying3 h
  subst e0
  exact ⟨n0, rfl, w0⟩
theorem open_row24 {fuel : Nat} {cs : List Value} {x : DataW H × List MemPlace} (h : DataW.trod enc Try.prog w 0 spare held fuel 24 cs = some x) :
    ∃ (A : Option Addr) (l : List Int) (c : Nat), cs = [.slice A l.length c] ∧ l.length ≤ c ∧ c ≤ maxLen ∧ Kd.C (Kd.int .i64) w A l.length l ∧ ∀ x ∈ l, okI x :=
  open_list (Kd.int .i64) okI Try.underlying24 (by kernel_rfl) open_int3 h
end
end Go.Proofs.Ytjgbdicbdlollaa.B
namespace Go.Proofs.Ytjgbdicbdlollaa.B
open Go.RowKit Go.ChangeShapes Go.WideShapes Go.Deep Go.Proofs.YtjgbdicbdlollaaW.PrintWords Go.Proofs.YtjgbdicbdlollaaW.PrintLast Go.Proofs.YtjgbdicbdlollaaW.PrintMore
section
variable {H : Type} {enc : TypeId × Value → H} {w : World} {spare : Nat → Bool} {held : Bool}
set_option maxRecDepth 100000 in
theorem open_parts {r : Reach} {b0 : Nat} {v : Value} {d : DataW H} {ps : List MemPlace} (hval : Value.okWide Try.prog w r b0 26 v) (h : DataW.Trod enc Try.prog w 0 spare held 26 v d ps) :
    ∃ (A : Option Addr) (l : List Int) (c : Nat) (a : Int), v = .agg #[.slice A l.length c, .int .i64 a] ∧
      (l.length ≤ c ∧ c ≤ maxLen ∧ Kd.C (Kd.int .i64) w A l.length l ∧ ∀ x ∈ l, okI x) ∧ okI a := by
  obtain ⟨fuel, hf⟩ := h
  obtain ⟨cs, rfl, _⟩ := okWide_struct Try.underlying26 hval
  obtain ⟨xs, n, _, _, hlen, hxl, hg⟩ := DataW.trod_struct Try.underlying26 hf
  have h26 : Try.prog.cellsOf 26 = 2 := by kernel_rfl
  have h24 : Try.prog.cellsOf 24 = 1 := by kernel_rfl
  have h3 : Try.prog.cellsOf 3 = 1 := by kernel_rfl
  have hcs : ∃ u0 u1, cs = #[u0, u1] := by
    have hl2 : cs.toList.length = 2 := by rw [h26] at hlen; exact hlen
    match hc : cs.toList, hl2 with
    | [u0, u1], _ => exact ⟨u0, u1, by rw [← hc]⟩
  obtain ⟨u0, u1, rfl⟩ := hcs
  have hsz : xs.length = 2 := hxl
  match xs, hsz with
  | [y0, y1], _ =>
    have g0 : DataW.trod enc Try.prog w 0 spare held n 24 (([u0, u1].drop 0).take (Try.prog.cellsOf 24)) = some y0 := hg 0 _ rfl
    have g1 : DataW.trod enc Try.prog w 0 spare held n 3 (([u0, u1].drop 1).take (Try.prog.cellsOf 3)) = some y1 := hg 1 _ rfl
    rw [h24] at g0
    rw [h3] at g1
    obtain ⟨A, l, c, e0, k0⟩ := open_row24 g0
    obtain ⟨n1, e1, _, w1⟩ := DataW.trod_int Try.underlying3 g1
    obtain rfl : u0 = .slice A l.length c := by injection e0
    obtain rfl : u1 = .int .i64 n1 := by injection e1
    exact ⟨A, l, c, n1, rfl, k0, w1⟩
end
end Go.Proofs.Ytjgbdicbdlollaa.B
namespace Go.Proofs.Ytjgbdicbdlollaa.B
open Go.RowKit Go.Proofs.YtjgbdicbdlollaaW.PrintWords Go.Proofs.YtjgbdicbdlollaaW.PrintLast Go.Proofs.YtjgbdicbdlollaaW.PrintMore
def lJS_.Pure : Prop := ∀ (l0 : List S36) (l1_0 : List Int) (a1_1 : Int), l0.length ≤ maxLen → (∀ x ∈ l0, okS36 x) → okRow l1_0 → ∃ k, lJS_.f k l0 l1_0 a1_1 = some true
theorem lJS_.walk (P : lJS_.Pure) (w : World) (A0 : Option Addr) (c0 : Nat) (l0 : List S36) (hr0 : Kd.C k36 w A0 l0.length l0) (hc0 : l0.length ≤ c0) (A1_0 : Option Addr) (c1_0 : Nat) (l1_0 : List Int) (hr1_0 : Kd.C (Kd.int .i64) w A1_0 l1_0.length l1_0) (hc1_0 : l1_0.length ≤ c1_0) (a1_1 : Int) (h0_0 : l0.length ≤ maxLen) (h1_0 : (∀ x ∈ l0, okS36 x)) (h2_0 : okRow l1_0) :
    Calls Try.prog 14 #[.slice A0 l0.length c0, .agg #[.slice A1_0 l1_0.length c1_0, .int .i64 a1_1]] w fun e w' => e = .returned (.bool true) ∧ Below w.heap.size w w' := by
  obtain ⟨k, h⟩ := P l0 l1_0 a1_1 h0_0 h1_0 h2_0
  refine (lJS_.calls k A0 c0 l0 A1_0 c1_0 l1_0 a1_1 true w hr0 hc0 hr1_0 hc1_0 h rfl).mono ?_
  rintro e w' ⟨rfl, hd⟩
  exact ⟨rfl, hd⟩
end Go.Proofs.Ytjgbdicbdlollaa.B
namespace Go.Proofs.Ytjgbdicbdlollaa.B
open Go.RowKit Go.Proofs.YtjgbdicbdlollaaW.PrintWords Go.Proofs.YtjgbdicbdlollaaW.PrintLast Go.Proofs.YtjgbdicbdlollaaW.PrintMore
attribute [local go_sem] max2_int min2_int max_two min_two max_three min_three max_four min_four   -- for this text's walks alone
set_option linter.unusedVariables false
set_option linter.unusedSimpArgs false
def trishawref01_Ratio.f (k : Nat) (a0 : Int) (a1 : Int) : Option (Int × Int) := (trishawref01_Gcd.f k (mx a0 (wrap64 (-a0))) a1).bind fun t283 => (if t283 = 0 then (none) else (some (wrap64 (Int.tdiv a0 t283), wrap64 (Int.tdiv a1 t283))))
end Go.Proofs.Ytjgbdicbdlollaa.B
namespace Go.Proofs.Ytjgbdicbdlollaa.B
open Go.RowKit Go.Proofs.YtjgbdicbdlollaaW.PrintWords Go.Proofs.YtjgbdicbdlollaaW.PrintLast Go.Proofs.YtjgbdicbdlollaaW.PrintMore
attribute [local go_sem] max2_int min2_int max_two min_two max_three min_three max_four min_four   -- for this text's walks alone
set_option linter.unusedVariables false
set_option linter.unusedSimpArgs false
def trishawref02_delay.l0 : Nat → List (S36) → Int → Int → List Int → Int → Option (Int × Int)
  | 0, _, _, _, _, _ => none
  | k + 1, x0, x5, x6, x297000, x297001 => if x6 < (x0.length : Int) then (if 0 ≤ x6 then (if x6 < (x297000.length : Int) then (trishawref02_delay.l0 k x0 (wrap64 (x5 + (wrap64 ((rd x297000 x6) * (wrap64 ((wrap64 (((rdT_ x0 x6).f0) * x297001)) + (wrap64 (((rdT_ x0 x6).f1) * (rd x297000 x6))))))))) (wrap64 (x6 + 1)) x297000 x297001) else (none)) else (none)) else ((trishawref01_Ratio.f k x5 (wrap64 (x297001 * x297001))).bind fun bt302 => (some (bt302.1, bt302.2)))
def trishawref02_delay.f (k : Nat) (l0 : List (S36)) (l1_0 : List Int) (a1_1 : Int) : Option (Int × Int) := trishawref02_delay.l0 k l0 0 0 l1_0 a1_1
end Go.Proofs.Ytjgbdicbdlollaa.B
namespace Go.Proofs.Ytjgbdicbdlollaa.B
open Go.RowKit Go.Proofs.YtjgbdicbdlollaaW.PrintWords Go.Proofs.YtjgbdicbdlollaaW.PrintLast Go.Proofs.YtjgbdicbdlollaaW.PrintMore
set_option linter.unusedVariables false
set_option linter.unusedSimpArgs false
def sm (x : Int) : Prop := -4611686018427387904 ≤ x ∧ x ≤ 4611686018427387904
theorem wsm {x : Int} (h : sm x) : wrap64 x = x := by unfold sm at h; unfold wrap64; omega
theorem absmx {a : Int} (h : sm a) : mx a (wrap64 (-a)) = (a.natAbs : Int) := by
  unfold sm at h
  rw [wsm (by unfold sm; omega)]
  unfold mx
  split <;> omega
theorem wrapN (i : Nat) (h : i < 1000000) : wrap64 ((i : Int) + 1) = ((i + 1 : Nat) : Int) := by unfold wrap64; omega
theorem gcd_step (a b : Int) : Int.gcd b (a.tmod b) = Int.gcd a b := by
  show Nat.gcd b.natAbs (a.tmod b).natAbs = Nat.gcd a.natAbs b.natAbs
  rw [Int.natAbs_tmod, Nat.gcd_comm a.natAbs b.natAbs, Nat.gcd_rec b.natAbs a.natAbs, Nat.gcd_comm]
theorem sm_tmod {a b : Int} (ha : sm a) (hb : sm b) : sm (a.tmod b) := by
  have h := Int.natAbs_tmod a b
  have h2 : a.natAbs % b.natAbs ≤ a.natAbs := Nat.mod_le _ _
  unfold sm at *
  omega
theorem tmod_lt {a b : Int} (h0 : b ≠ 0) : (a.tmod b).natAbs < b.natAbs := by
  rw [Int.natAbs_tmod]
  exact Nat.mod_lt _ (by omega)
theorem divisor_ev : ∀ (n : Nat) (a b : Int), b.natAbs ≤ n → sm a → sm b → Ev (fun k => ratio_divisor.f k a b) (Int.gcd a b : Int)
  | n, a, b, hn, ha, hb => by
    by_cases h0 : b = 0
    · subst h0
      refine Ev.step (f := fun _ => some (a.natAbs : Int)) (fun k => ?_) (by simpa using Ev.now (a.natAbs : Int))
      simp only [ratio_divisor.f, if_true, absmx ha]
    cases n with
    | zero => omega
    | succ n =>
      have ih := divisor_ev n b (a.tmod b) (by have := tmod_lt (a := a) h0; omega) hb (sm_tmod ha hb)
      rw [gcd_step] at ih
      refine Ev.step (f := fun k => (ratio_divisor.f k b (a.tmod b)).bind fun t => some t) (fun k => ?_) (Ev.bind ih (Ev.now _))
      simp only [ratio_divisor.f, if_neg h0]
theorem gcd_ev : ∀ (n : Nat) (a b : Int), b.natAbs ≤ n → sm a → sm b → Ev (fun k => trishawref01_Gcd.f k a b) (Int.gcd a b : Int)
  | n, a, b, hn, ha, hb => by
    unfold trishawref01_Gcd.f
    by_cases h0 : b = 0
    · subst h0
      refine Ev.step (f := fun _ => some (a.natAbs : Int)) (fun k => ?_) (by simpa using Ev.now (a.natAbs : Int))
      simp only [trishawref01_Gcd.l0, if_true, absmx ha]
    cases n with
    | zero => omega
    | succ n =>
      have ih := gcd_ev n b (a.tmod b) (by have := tmod_lt (a := a) h0; omega) hb (sm_tmod ha hb)
      rw [gcd_step] at ih
      unfold trishawref01_Gcd.f at ih
      refine Ev.step (f := fun k => trishawref01_Gcd.l0 k b (a.tmod b)) (fun k => ?_) ih
      simp only [trishawref01_Gcd.l0, if_neg h0]
theorem sm_gcd {a b : Int} (ha : sm a) (h0 : 0 < a) : sm (Int.gcd a b : Int) ∧ 0 < (Int.gcd a b : Int) ∧ (Int.gcd a b : Int) ≤ a := by
  have h1 : Int.gcd a b ∣ a.natAbs := Nat.gcd_dvd_left _ _
  have h2 := Nat.le_of_dvd (by omega) h1
  have h3 : 0 < Int.gcd a b := Nat.gcd_pos_of_pos_left _ (by omega)
  unfold sm at *
  omega
theorem sm_tdiv {a b : Int} (ha : sm a) (hb : 0 < b) : sm (a.tdiv b) := by
  have h1 : (a.tdiv b).natAbs = a.natAbs / b.natAbs := Int.natAbs_tdiv a b
  have h2 : a.natAbs / b.natAbs ≤ a.natAbs := Nat.div_le_self _ _
  unfold sm at *
  omega
/-- The greatest divisor of d and all of the numbers. -/
def gl : List Int → Int → Int
  | [], d => d
  | n :: l, d => gl l (Int.gcd d n : Int)
theorem rd_drop (l : List Int) (i : Nat) (h : i < l.length) : l.drop i = rd l (i : Int) :: l.drop (i + 1) := by
  rw [List.drop_eq_getElem_cons h]
  congr 1
  simp [rd, List.getD, List.getElem?_eq_getElem h]
theorem rd_mem2 (l : List Int) (i : Nat) (h : i < l.length) : rd l (i : Int) ∈ l := by
  have : rd l (i : Int) = l[i] := by simp [rd, List.getD, List.getElem?_eq_getElem h]
  rw [this]; exact List.getElem_mem h
/-- Parts over a divisor. -/
def partsR (nums : List Int) (den D : Int) : List Int × Int := (nums.map fun n => Int.tdiv n D, Int.tdiv den D)
theorem take_map_rd (g : Int → Int) (l : List Int) (i : Nat) (h : i < l.length) : (l.take (i + 1)).map g = (l.take i).map g ++ [g (rd l (i : Int))] := by
  rw [List.take_add_one, List.getElem?_eq_getElem h, List.map_append]
  congr 1
  rw [show rd l (i : Int) = l[i] from by simp [rd, List.getD, List.getElem?_eq_getElem h]]
  rfl
theorem parts_l1 (nums : List Int) (den D : Int) (hl : nums.length < 1000000) (hs : ∀ n ∈ nums, sm n) (hd : sm den) (hD : 0 < D) : ∀ (m i : Nat), i + m = nums.length →
    Ev (fun k => ratio_Parts.l1 k den D ((nums.take i).map (fun n => Int.tdiv n D) ++ List.replicate m 0) nums (nums.length : Int) (i : Int)) (partsR nums den D)
  | 0, i, h => by
    have hD0 : D ≠ 0 := by omega
    refine Ev.step (f := fun _ => some (partsR nums den D)) (fun k => ?_) (Ev.now _)
    simp only [ratio_Parts.l1]
    rw [if_neg (by omega), if_neg hD0, wsm (sm_tdiv hd hD), List.take_of_length_le (by omega)]
    simp [partsR]
  | m + 1, i, h => by
    have hD0 : D ≠ 0 := by omega
    have hi : i < nums.length := by omega
    have ih := parts_l1 nums den D hl hs hd hD m (i + 1) (by omega)
    refine Ev.step (fun k => ?_) ih
    simp only [ratio_Parts.l1]
    rw [if_pos (by omega), if_pos (by omega), if_pos (by omega), if_neg hD0, if_pos (by simp; omega), wrapN i (by omega), wsm (sm_tdiv (hs _ (rd_mem2 nums i hi)) hD)]
    congr 1
    rw [take_map_rd _ nums i hi, Int.toNat_natCast, List.set_append_right _ _ (by simp; omega)]
    simp [List.length_take, Nat.min_eq_left (Nat.le_of_lt hi), List.replicate_succ]
theorem parts_l0 (nums : List Int) (den : Int) (hl : nums.length < 1000000) (hs : ∀ n ∈ nums, sm n) (hd : sm den) (h0 : 0 < den) : ∀ (m i : Nat) (d : Int), i + m = nums.length → sm d → 0 < d →
    Ev (fun k => ratio_Parts.l0 k nums den d nums (nums.length : Int) (i : Int)) (partsR nums den (gl (nums.drop i) d))
  | 0, i, d, h, hsd, hd0 => by
    have h1 := parts_l1 nums den d hl hs hd hd0 nums.length 0 (by omega)
    rw [List.drop_of_length_le (by omega)]
    refine Ev.step (fun k => ?_) h1
    simp only [ratio_Parts.l0]
    rw [if_neg (by omega), if_pos (by omega), if_pos (by simp; omega), absmx hsd, show ((d.natAbs : Nat) : Int) = d by omega]
    simp
  | m + 1, i, d, h, hsd, hd0 => by
    have hi : i < nums.length := by omega
    have hn := hs _ (rd_mem2 nums i hi)
    obtain ⟨g1, g2, g3⟩ := sm_gcd (b := rd nums (i : Int)) hsd hd0
    have ih := parts_l0 nums den hl hs hd h0 m (i + 1) _ (by omega) g1 g2
    rw [rd_drop nums i hi]
    refine Ev.step (fun k => ?_) (Ev.bind (f := fun k t => ratio_Parts.l0 k nums den t nums (nums.length : Int) ((i + 1 : Nat) : Int)) (divisor_ev _ d (rd nums (i : Int)) (Nat.le_refl _) hsd hn) ih)
    simp only [ratio_Parts.l0]
    rw [if_pos (by omega), if_pos (by omega), if_pos (by omega), wrapN i (by omega)]
/-- Parts answers in lowest terms. -/
theorem parts_ev (nums : List Int) (den : Int) (hl : nums.length < 1000000) (hs : ∀ n ∈ nums, sm n) (hd : sm den) (h0 : 0 < den) : Ev (fun k => ratio_Parts.f k nums den) (partsR nums den (gl nums den)) := by
  unfold ratio_Parts.f
  exact parts_l0 nums den hl hs hd h0 nums.length 0 den (by omega) hd h0
/-- A quotient in lowest terms. -/
def ratR (a b : Int) : Int × Int := (Int.tdiv a (Int.gcd a b : Int), Int.tdiv b (Int.gcd a b : Int))
theorem gcd_posr {a b : Int} (hb : 0 < b) : 0 < (Int.gcd a b : Int) := by
  have : 0 < Int.gcd a b := Nat.gcd_pos_of_pos_right _ (by omega)
  omega
theorem of_ev {a b : Int} (ha : sm a) (hb : sm b) (h0 : 0 < b) : Ev (fun k => ratio_Of.f k a b) (ratR a b) := by
  have hg := gcd_posr (a := a) h0
  unfold ratio_Of.f
  refine Ev.bind (divisor_ev _ a b (Nat.le_refl _) ha hb) ?_
  refine Ev.congr (f := fun _ => some (ratR a b)) (fun k => ?_) (Ev.now _)
  rw [if_neg (by omega), if_neg (by omega), wsm (sm_tdiv ha hg), wsm (sm_tdiv hb hg)]
  rfl
theorem ratio_ev {a b : Int} (ha : sm a) (hb : sm b) (h0 : 0 < b) : Ev (fun k => trishawref01_Ratio.f k a b) (ratR a b) := by
  have hg := gcd_posr (a := a) h0
  unfold trishawref01_Ratio.f
  rw [absmx ha]
  have h1 := gcd_ev _ (a.natAbs : Int) b (Nat.le_refl _) (by unfold sm at *; omega) hb
  have h2 : Int.gcd (a.natAbs : Int) b = Int.gcd a b := by
    show Nat.gcd ((a.natAbs : Int)).natAbs b.natAbs = Nat.gcd a.natAbs b.natAbs
    rw [Int.natAbs_natCast]
  rw [h2] at h1
  refine Ev.bind h1 ?_
  refine Ev.congr (f := fun _ => some (ratR a b)) (fun k => ?_) (Ev.now _)
  rw [if_neg (by omega), wsm (sm_tdiv ha hg), wsm (sm_tdiv hb hg)]
  rfl
end Go.Proofs.Ytjgbdicbdlollaa.B
namespace Go.Proofs.Ytjgbdicbdlollaa.B
open Go.RowKit Go.Sort Go.Proofs.YtjgbdicbdlollaaW.PrintWords Go.Proofs.YtjgbdicbdlollaaW.PrintLast Go.Proofs.YtjgbdicbdlollaaW.PrintMore
set_option linter.unusedVariables false
set_option linter.unusedSimpArgs false
def okL (x : S36) : Prop := 0 ≤ x.f0 ∧ x.f0 ≤ 10 ∧ 1 ≤ x.f1 ∧ x.f1 ≤ 10
def sumL (f : S36 → Int) : List S36 → Int
  | [] => 0
  | x :: l => f x + sumL f l
theorem sumL_append (f : S36 → Int) : ∀ a b : List S36, sumL f (a ++ b) = sumL f a + sumL f b
  | [], b => by simp [sumL]
  | x :: a, b => by simp only [List.cons_append, sumL, sumL_append f a b]; omega
theorem sumL_perm (f : S36 → Int) {a b : List S36} (h : a.Perm b) : sumL f a = sumL f b := by
  induction h with
  | nil => rfl
  | cons x _ ih => simp only [sumL, ih]
  | swap x y l => simp only [sumL]; omega
  | trans _ _ h1 h2 => exact h1.trans h2
theorem sumL_congr {f g : S36 → Int} : ∀ {l : List S36}, (∀ x ∈ l, f x = g x) → sumL f l = sumL g l
  | [], _ => rfl
  | x :: l, h => by simp only [sumL]; rw [h x (by simp), sumL_congr fun y hy => h y (by simp [hy])]
theorem sumL_le {f g : S36 → Int} : ∀ {l : List S36}, (∀ x ∈ l, f x ≤ g x) → sumL f l ≤ sumL g l
  | [], _ => Int.le_refl _
  | x :: l, h => by
    have h1 := h x (by simp)
    have h2 := sumL_le (l := l) fun y hy => h y (by simp [hy])
    simp only [sumL]; omega
theorem sumL_lt {f g : S36 → Int} : ∀ {l : List S36}, (∀ x ∈ l, f x ≤ g x) → (∃ x ∈ l, f x < g x) → sumL f l < sumL g l
  | [], _, ⟨x, hx, _⟩ => by simp at hx
  | x :: l, h, ⟨y, hy, hlt⟩ => by
    have h1 := h x (by simp)
    have h2 := sumL_le (l := l) fun y hy => h y (by simp [hy])
    simp only [sumL]
    rcases List.mem_cons.1 hy with rfl | hy
    · omega
    have h3 := sumL_lt (l := l) (fun z hz => h z (by simp [hz])) ⟨y, hy, hlt⟩
    omega
theorem sumL_mul (f : S36 → Int) (c : Int) : ∀ l : List S36, sumL (fun x => c * f x) l = c * sumL f l
  | [] => by simp [sumL]
  | x :: l => by simp only [sumL, sumL_mul f c l, Int.mul_add]
theorem sumL_add (f g : S36 → Int) : ∀ l : List S36, sumL (fun x => f x + g x) l = sumL f l + sumL g l
  | [] => by simp [sumL]
  | x :: l => by simp only [sumL, sumL_add f g l]; omega
theorem sumL_const (c : Int) : ∀ l : List S36, sumL (fun _ => c) l = c * l.length
  | [] => by simp [sumL]
  | x :: l => by simp only [sumL, sumL_const c l, List.length_cons, Int.natCast_add, Int.mul_add]; simp; omega
theorem sumL_pos {f : S36 → Int} {l : List S36} (h : ∀ x ∈ l, 0 ≤ f x) : 0 ≤ sumL f l := by
  have := sumL_le (f := fun _ => 0) (g := f) h
  rw [sumL_const] at this; simpa using this
/-- A time num/den is good: its own set of lanes gives it. -/
def Good (w : S36 → Int) (p : Int) (l : List S36) (n d : Int) : Prop :=
  0 < d ∧ n = p + sumL (fun x => if x.f0 * d < n then x.f0 * w x else 0) l ∧ d = sumL (fun x => if x.f0 * d < n then w x else 0) l
theorem Good.perm {w p} {a b : List S36} {n d} (h : a.Perm b) (g : Good w p a n d) : Good w p b n d := by
  obtain ⟨h0, h1, h2⟩ := g
  exact ⟨h0, by rw [← sumL_perm _ h]; exact h1, by rw [← sumL_perm _ h]; exact h2⟩
/-- What the lanes take at a time num/den is the whole stream. -/
theorem Good.full {w p} {l : List S36} {n d} (g : Good w p l n d) : sumL (fun x => if x.f0 * d < n then w x * (n - x.f0 * d) else 0) l = p * d := by
  obtain ⟨h0, h1, h2⟩ := g
  have e : sumL (fun x => if x.f0 * d < n then w x * (n - x.f0 * d) else 0) l = n * sumL (fun x => if x.f0 * d < n then w x else 0) l + (-d) * sumL (fun x => if x.f0 * d < n then x.f0 * w x else 0) l := by
    rw [← sumL_mul, ← sumL_mul, ← sumL_add]
    refine sumL_congr fun x _ => ?_
    by_cases hx : x.f0 * d < n
    · simp only [if_pos hx]; rw [Int.mul_sub, Int.mul_comm n, Int.neg_mul, Int.sub_eq_add_neg]
      congr 1; congr 1; rw [Int.mul_comm (w x), Int.mul_comm x.f0 d, Int.mul_assoc]
    simp [if_neg hx]
  rw [e, ← h2]
  have h3 : sumL (fun x => if x.f0 * d < n then x.f0 * w x else 0) l = n - p := by omega
  rw [h3, Int.mul_comm n d, Int.neg_mul, ← Int.sub_eq_add_neg, ← Int.mul_sub, Int.mul_comm p d]
  congr 1; omega
theorem full_scale {w : S36 → Int} {l : List S36} {n d c : Int} (hc : 0 < c) : sumL (fun x => if x.f0 * (d * c) < n * c then w x * (n * c - x.f0 * (d * c)) else 0) l = c * sumL (fun x => if x.f0 * d < n then w x * (n - x.f0 * d) else 0) l := by
  rw [← sumL_mul]
  refine sumL_congr fun x _ => ?_
  rw [← Int.mul_assoc]
  by_cases hx : x.f0 * d < n
  · rw [if_pos hx, if_pos (Int.mul_lt_mul_of_pos_right hx hc), ← Int.sub_mul, ← Int.mul_assoc, Int.mul_comm]
  rw [if_neg hx, if_neg (fun h => hx (Int.lt_of_mul_lt_mul_right h (Int.le_of_lt hc)))]; simp
theorem full_lt {w : S36 → Int} {l : List S36} {a b D : Int} (hw : ∀ x ∈ l, 0 < w x) (h : a < b) (h0 : 0 < sumL (fun x => if x.f0 * D < a then w x * (a - x.f0 * D) else 0) l) :
    sumL (fun x => if x.f0 * D < a then w x * (a - x.f0 * D) else 0) l < sumL (fun x => if x.f0 * D < b then w x * (b - x.f0 * D) else 0) l := by
  have step : ∀ x ∈ l, x.f0 * D < a → w x * (a - x.f0 * D) < w x * (b - x.f0 * D) := fun x hx _ => Int.mul_lt_mul_of_pos_left (by omega) (hw x hx)
  refine sumL_lt (fun x hx => ?_) ?_
  · by_cases h1 : x.f0 * D < a
    · rw [if_pos h1, if_pos (by omega)]; exact Int.le_of_lt (step x hx h1)
    rw [if_neg h1]
    split
    · exact Int.mul_nonneg (Int.le_of_lt (hw x hx)) (by omega)
    omega
  by_cases hex : ∃ x ∈ l, x.f0 * D < a
  · obtain ⟨x, hx, h1⟩ := hex
    refine ⟨x, hx, ?_⟩
    rw [if_pos h1, if_pos (by omega)]; exact step x hx h1
  exfalso
  rw [sumL_congr (g := fun _ => 0) (fun x hx => if_neg fun h2 => hex ⟨x, hx, h2⟩), sumL_const] at h0
  omega
theorem Good.cross {w p} {l : List S36} {n d n' d'} (hw : ∀ x ∈ l, 0 < w x) (hp : 0 < p) (g : Good w p l n d) (g' : Good w p l n' d') : ¬ n * d' < n' * d := by
  intro h
  have e1 := g.full
  have e2 := g'.full
  have s1 := full_scale (w := w) (l := l) (n := n) (d := d) g'.1
  have s2 := full_scale (w := w) (l := l) (n := n') (d := d') g.1
  rw [e1] at s1
  rw [e2, Int.mul_comm d' d] at s2
  have hz : 0 < d' * (p * d) := Int.mul_pos g'.1 (Int.mul_pos hp g.1)
  have := full_lt (w := w) (l := l) (D := d * d') hw h (by rw [s1]; exact hz)
  rw [s1, s2] at this
  have e3 : d' * (p * d) = d * (p * d') := by rw [Int.mul_left_comm, Int.mul_comm d' d, Int.mul_left_comm]
  omega
theorem Good.uniq {w p} {l : List S36} {n d n' d'} (hw : ∀ x ∈ l, 0 < w x) (hp : 0 < p) (g : Good w p l n d) (g' : Good w p l n' d') : n = n' ∧ d = d' := by
  have c1 := Good.cross hw hp g g'
  have c2 := Good.cross hw hp g' g
  have e : n * d' = n' * d := by omega
  have hs : ∀ x : S36, (x.f0 * d < n) ↔ (x.f0 * d' < n') := by
    intro x
    have h1 : x.f0 * d < n ↔ x.f0 * d * d' < n * d' := ⟨fun h => Int.mul_lt_mul_of_pos_right h g'.1, fun h => Int.lt_of_mul_lt_mul_right h (Int.le_of_lt g'.1)⟩
    have h2 : x.f0 * d' < n' ↔ x.f0 * d' * d < n' * d := ⟨fun h => Int.mul_lt_mul_of_pos_right h g.1, fun h => Int.lt_of_mul_lt_mul_right h (Int.le_of_lt g.1)⟩
    rw [h1, h2, e, Int.mul_right_comm]
  have hd : d = d' := by
    rw [g.2.2, g'.2.2]
    refine sumL_congr fun x _ => ?_
    by_cases hx : x.f0 * d < n
    · rw [if_pos hx, if_pos ((hs x).1 hx)]
    rw [if_neg hx, if_neg fun h => hx ((hs x).2 h)]
  refine ⟨?_, hd⟩
  rw [g.2.1, g'.2.1]
  congr 1
  refine sumL_congr fun x _ => ?_
  by_cases hx : x.f0 * d < n
  · rw [if_pos hx, if_pos ((hs x).1 hx)]
  rw [if_neg hx, if_neg fun h => hx ((hs x).2 h)]
end Go.Proofs.Ytjgbdicbdlollaa.B
namespace Go.Proofs.Ytjgbdicbdlollaa.B
open Go.RowKit Go.Sort Go.Proofs.YtjgbdicbdlollaaW.PrintWords Go.Proofs.YtjgbdicbdlollaaW.PrintLast Go.Proofs.YtjgbdicbdlollaaW.PrintMore
set_option linter.unusedVariables false
set_option linter.unusedSimpArgs false
theorem rdT_drop (l : List S36) (i : Nat) (h : i < l.length) : l.drop i = rdT_ l (i : Int) :: l.drop (i + 1) := by
  rw [List.drop_eq_getElem_cons h]
  congr 1
  simp [rdT_, List.getD, List.getElem?_eq_getElem h]
theorem rdT_mem (l : List S36) (i : Nat) (h : i < l.length) : rdT_ l (i : Int) ∈ l := by
  have : rdT_ l (i : Int) = l[i] := by simp [rdT_, List.getD, List.getElem?_eq_getElem h]
  rw [this]; exact List.getElem_mem h
theorem mulb {x y X Y : Int} (hx : 0 ≤ x) (hX : x ≤ X) (hy : 0 ≤ y) (hY : y ≤ Y) : 0 ≤ x * y ∧ x * y ≤ X * Y :=
  ⟨Int.mul_nonneg hx hy, Int.mul_le_mul hX hY hy (by omega)⟩
def prodL (t : Int) : List S36 → Int
  | [] => 1
  | x :: l => (x.f1 * t) * prodL t l
theorem bt_b {t : Int} (ht : t = 1 ∨ t = 2) {x : S36} (h : okL x) : 1 ≤ x.f1 * t ∧ x.f1 * t ≤ 20 := by
  unfold okL at h
  rcases ht with rfl | rfl <;> omega
theorem prodL_b {t : Int} (ht : t = 1 ∨ t = 2) : ∀ {l : List S36}, (∀ x ∈ l, okL x) → 0 < prodL t l ∧ prodL t l ≤ 20 ^ l.length
  | [], _ => by simp [prodL]
  | x :: l, h => by
    have h1 := bt_b ht (h x (by simp))
    have h2 := prodL_b ht (l := l) fun y hy => h y (by simp [hy])
    have h3 := mulb (X := 20) (Y := 20 ^ l.length) (x := x.f1 * t) (y := prodL t l) (by omega) (by omega) (by omega) h2.2
    simp only [prodL, List.length_cons, Int.pow_succ]
    exact ⟨Int.mul_pos (by omega) h2.1, by rw [Int.mul_comm (20 ^ l.length : Int)]; exact h3.2⟩
theorem pow20 {n : Nat} (h : n ≤ 4) : (20 : Int) ^ n ≤ 160000 := by
  match n, h with
  | 0, _ => decide
  | 1, _ => decide
  | 2, _ => decide
  | 3, _ => decide
  | 4, _ => decide
theorem prodL_dvd {t : Int} : ∀ {l : List S36}, ∀ x ∈ l, (x.f1 * t) ∣ prodL t l
  | y :: l, x, h => by
    rcases List.mem_cons.1 h with rfl | h
    · exact ⟨_, rfl⟩
    exact Int.dvd_mul_of_dvd_right (prodL_dvd x h)
def wv (p t : Int) (x : S36) : Int := Int.tdiv p (x.f1 * t)
theorem wv_mul {p t : Int} {x : S36} (h : (x.f1 * t) ∣ p) : wv p t x * (x.f1 * t) = p := Int.tdiv_mul_cancel h
theorem wv_b {p t : Int} {x : S36} (h : (x.f1 * t) ∣ p) (h0 : 0 < p) (h1 : 1 ≤ x.f1 * t) : 0 < wv p t x ∧ wv p t x ≤ p := by
  have e := wv_mul h
  have hp : 0 < wv p t x := by
    rcases Int.lt_trichotomy (wv p t x) 0 with h2 | h2 | h2
    · have := Int.mul_neg_of_neg_of_pos h2 (show 0 < x.f1 * t by omega); omega
    · rw [h2] at e; simp at e; omega
    exact h2
  refine ⟨hp, ?_⟩
  have := Int.mul_le_mul_of_nonneg_left h1 (Int.le_of_lt hp)
  omega
/-- The lanes that the order's loop takes. -/
def goB (w : S36 → Int) : List S36 → Int → Int → Int × Int
  | [], n, d => (n, d)
  | x :: r, n, d => if d > 0 ∧ x.f0 * d ≥ n then (n, d) else goB w r (n + x.f0 * w x) (d + w x)
theorem goB_good (w : S36 → Int) (p : Int) (hp : 0 < p) : ∀ (r pre : List S36) (n d : Int), (pre ++ r).Pairwise (fun a b => a.f0 ≤ b.f0) → (∀ x ∈ pre ++ r, 0 < w x ∧ 0 ≤ x.f0) → pre ++ r ≠ [] →
    (∀ y ∈ pre, y.f0 * d < n) → n = p + sumL (fun x => x.f0 * w x) pre → d = sumL w pre → Good w p (pre ++ r) (goB w r n d).1 (goB w r n d).2
  | [], pre, n, d, hs, hw, hne, hy, hn, hd => by
    simp only [goB, List.append_nil] at *
    refine ⟨?_, ?_, ?_⟩
    · match pre, hne with
      | x :: l, _ =>
        have h1 := hw x (by simp)
        have h2 := sumL_pos (f := w) (l := l) fun y hy => by have := hw y (by simp [hy]); omega
        simp only [sumL] at hd
        omega
    · rw [sumL_congr (g := fun x => x.f0 * w x) fun x hx => if_pos (hy x hx)]; exact hn
    rw [sumL_congr (g := w) fun x hx => if_pos (hy x hx)]; exact hd
  | x :: r, pre, n, d, hs, hw, hne, hy, hn, hd => by
    simp only [goB]
    split
    · rename_i hc
      have hout : ∀ y ∈ x :: r, ¬ y.f0 * d < n := by
        intro y hyr
        have h1 : x.f0 ≤ y.f0 := by
          rcases List.mem_cons.1 hyr with rfl | h
          · exact Int.le_refl _
          exact List.rel_of_pairwise_cons (List.pairwise_append.1 hs).2.1 h
        have := Int.mul_le_mul_of_nonneg_right h1 (Int.le_of_lt hc.1)
        omega
      refine ⟨hc.1, ?_, ?_⟩
      · rw [sumL_append, sumL_congr (l := pre) (g := fun x => x.f0 * w x) (fun x hx => if_pos (hy x hx)), sumL_congr (l := x :: r) (g := fun _ => 0) (fun y hy => if_neg (hout y hy)), sumL_const]
        simp only [Int.zero_mul]; omega
      rw [sumL_append, sumL_congr (l := pre) (g := w) (fun x hx => if_pos (hy x hx)), sumL_congr (l := x :: r) (g := fun _ => 0) (fun y hy => if_neg (hout y hy)), sumL_const]
      simp only [Int.zero_mul]; omega
    rename_i hc
    have hwx := hw x (by simp)
    have hn0 : 0 ≤ sumL (fun x => x.f0 * w x) pre := sumL_pos fun y hy => by
      have := hw y (by simp [hy]); exact Int.mul_nonneg this.2 (by omega)
    have hd0 : 0 ≤ d := by rw [hd]; exact sumL_pos fun y hy => by have := hw y (by simp [hy]); omega
    have hxd : x.f0 * d < n := by
      by_cases h0 : d > 0
      · rcases Int.lt_or_le (x.f0 * d) n with h | h
        · exact h
        exact absurd ⟨h0, h⟩ hc
      have : d = 0 := by omega
      rw [this, Int.mul_zero]; omega
    have ih := goB_good w p hp r (pre ++ [x]) (n + x.f0 * w x) (d + w x) (by simpa using hs) (by simpa using hw) (by simp) (fun y hy2 => ?_)
      (by rw [sumL_append]; simp only [sumL]; omega) (by rw [sumL_append]; simp only [sumL]; omega)
    · simpa using ih
    have hyx : y.f0 * d < n ∧ y.f0 ≤ x.f0 := by
      rcases List.mem_append.1 hy2 with h | h
      · exact ⟨hy y h, (List.pairwise_append.1 hs).2.2 y h x (by simp)⟩
      have : y = x := by simpa using h
      subst this; exact ⟨hxd, Int.le_refl _⟩
    have := Int.mul_le_mul_of_nonneg_right hyx.2 (show 0 ≤ w x by omega)
    rw [Int.mul_add]
    omega
theorem lnsOf_ev : ∀ {l : List S36}, (∀ x ∈ l, okL x) → ∃ ds, lnsOf l = some ds ∧ ds.map Ln.x = l
  | [], _ => ⟨[], rfl, rfl⟩
  | x :: l, h => by
    obtain ⟨ds, h1, h2⟩ := lnsOf_ev (l := l) fun y hy => h y (by simp [hy])
    have hx := h x (by simp)
    exact ⟨⟨x, hx.1, hx.2.1⟩ :: ds, by simp only [lnsOf]; rw [dif_pos ⟨hx.1, hx.2.1⟩, h1]; rfl, by simp [h2]⟩
theorem ext_all {A : Array Ln} {n : Nat} (h : A.size = n) : A.extract 0 n = A := by subst h; simp
theorem sorted_ev {l : List S36} (hne : l ≠ []) (hl : l.length ≤ 4) (hv : ∀ x ∈ l, okL x) : ∃ s, lanes_Sorted.f l = some s ∧ s.Perm l ∧ s.Pairwise (fun a b => a.f0 ≤ b.f0) := by
  obtain ⟨ds, h1, h2⟩ := lnsOf_ev hv
  have hlen : 1 ≤ l.length := by cases l with | nil => exact absurd rfl hne | cons => simp
  have hdl : ds.length = l.length := by rw [← h2]; simp
  refine ⟨(sortLn ds).toList.map Ln.x, ?_, ?_, ?_⟩
  · unfold lanes_Sorted.f; rw [if_pos ⟨hlen, by omega⟩, h1]; rfl
  · have hp := insertionSort_holds (lt := ltOf cfLn) swo_cfLn ds.toArray 0 ds.toArray.size (Nat.zero_le _) (Nat.le_refl _)
    obtain ⟨hs1, _, hs3⟩ := hp.1
    have e1 : (Go.Sort.insertionSort (ltOf cfLn) ds.toArray 0 ds.toArray.size).extract 0 ds.toArray.size = sortLn ds := ext_all hs1
    rw [e1] at hs3
    have e2 : ds.toArray.extract 0 ds.toArray.size = ds.toArray := by simp
    rw [e2] at hs3
    have := hs3.map Ln.x
    rw [h2] at this
    exact this
  have hp := insertionSort_holds (lt := ltOf cfLn) swo_cfLn ds.toArray 0 ds.toArray.size (Nat.zero_le _) (Nat.le_refl _)
  obtain ⟨hs1, _, hs3⟩ := hp.1
  have hso : SortedIn (ltOf cfLn) 0 ds.toArray.size (sortLn ds) := hp.2
  have hsz : (sortLn ds).size = ds.toArray.size := hs1
  rw [List.pairwise_map, List.pairwise_iff_getElem]
  intro i j hi hj hij
  have hi2 : i < (sortLn ds).size := by simpa using hi
  have hj2 : j < (sortLn ds).size := by simpa using hj
  have := hso i j (Nat.zero_le _) hij (by omega)
  rw [getElem!_pos (sortLn ds) j hj2, getElem!_pos (sortLn ds) i hi2] at this
  unfold ltOf cfLn at this
  simp only [decide_eq_false_iff_not] at this
  simp only [Array.getElem_toList]
  omega
theorem bal_l0 (l : List S36) (t : Int) (ht : t = 1 ∨ t = 2) (hl : l.length ≤ 4) (hv : ∀ x ∈ l, okL x) (R : List Int × Int × Int × Int) : ∀ (m i : Nat) (q : Int), i + m = l.length → 0 < q → q ≤ 20 ^ i →
    Ev (fun k => (lanes_Sorted.f l).bind fun s => jBa.l1 k l t (q * prodL t (l.drop i)) (q * prodL t (l.drop i)) 0 s (s.length : Int) 0) R → Ev (fun k => jBa.l0 k l t q l (l.length : Int) (i : Int)) R
  | 0, i, q, h, h0, hq, hk => by
    rw [List.drop_of_length_le (by omega)] at hk
    simp only [prodL, Int.mul_one] at hk
    refine Ev.step (fun k => ?_) hk
    simp only [jBa.l0]
    rw [if_neg (by omega)]
  | m + 1, i, q, h, h0, hq, hk => by
    have hi : i < l.length := by omega
    have hb := bt_b ht (hv _ (rdT_mem l i hi))
    have hm := mulb (x := q) (y := (rdT_ l (i : Int)).f1 * t) (X := 20 ^ i) (Y := 20) (by omega) hq (by omega) hb.2
    have h5 : (20 : Int) ^ i * 20 = 20 ^ (i + 1) := (Int.pow_succ 20 i).symm
    have h6 := pow20 (n := i + 1) (by omega)
    have h7 := pow20 (n := i) (by omega)
    rw [rdT_drop l i hi] at hk
    simp only [prodL] at hk
    rw [← Int.mul_assoc] at hk
    have ih := bal_l0 l t ht hl hv R m (i + 1) (q * ((rdT_ l (i : Int)).f1 * t)) (by omega) (Int.mul_pos h0 (by omega)) (by omega) hk
    refine Ev.step (fun k => ?_) ih
    simp only [jBa.l0]
    rw [if_pos (by omega), if_pos (by omega), if_pos (by omega), wrapN i (by omega), wsm (x := (rdT_ l (i : Int)).f1 * t) (by unfold sm; omega), wsm (x := q * ((rdT_ l (i : Int)).f1 * t)) (by unfold sm; omega)]
theorem bal_l1 (l s : List S36) (t p : Int) (ht : t = 1 ∨ t = 2) (hp : 0 < p) (hp2 : p ≤ 160000) (hs : s.length ≤ 4) (hv : ∀ x ∈ s, okL x) (hd : ∀ x ∈ s, (x.f1 * t) ∣ p) (R : List Int × Int × Int × Int) : ∀ (m i : Nat) (n d : Int), i + m = s.length → 0 ≤ n → n ≤ 160000 + 1600000 * i → 0 ≤ d → d ≤ 160000 * i →
    Ev (fun k => jBa.j2 k l t p (goB (wv p t) (s.drop i) n d).1 (goB (wv p t) (s.drop i) n d).2) R → Ev (fun k => jBa.l1 k l t p n d s (s.length : Int) (i : Int)) R
  | 0, i, n, d, h, n0, n1, d0, d1, hk => by
    rw [List.drop_of_length_le (by omega)] at hk
    simp only [goB] at hk
    refine Ev.step (fun k => ?_) hk
    simp only [jBa.l1]
    rw [if_neg (by omega)]
  | m + 1, i, n, d, h, n0, n1, d0, d1, hk => by
    have hi : i < s.length := by omega
    have hx := hv _ (rdT_mem s i hi)
    have hdx := hd _ (rdT_mem s i hi)
    have hb := bt_b ht hx
    have hw := wv_b hdx hp hb.1
    unfold okL at hx
    have hm := mulb (x := (rdT_ s (i : Int)).f0) (y := wv p t (rdT_ s (i : Int))) (X := 10) (Y := 160000) (by omega) (by omega) (by omega) (by omega)
    have hm2 := mulb (x := (rdT_ s (i : Int)).f0) (y := d) (X := 10) (Y := 640000) (by omega) (by omega) (by omega) (by omega)
    rw [rdT_drop s i hi] at hk
    simp only [goB] at hk
    have w1 : wrap64 ((rdT_ s (i : Int)).f1 * t) = (rdT_ s (i : Int)).f1 * t := wsm (by unfold sm; omega)
    have w2 : wrap64 (Int.tdiv p ((rdT_ s (i : Int)).f1 * t)) = wv p t (rdT_ s (i : Int)) := wsm (by show sm (wv p t (rdT_ s (i : Int))); unfold sm; omega)
    have w3 : wrap64 ((rdT_ s (i : Int)).f0 * wv p t (rdT_ s (i : Int))) = (rdT_ s (i : Int)).f0 * wv p t (rdT_ s (i : Int)) := wsm (by unfold sm; omega)
    have w4 : wrap64 (n + (rdT_ s (i : Int)).f0 * wv p t (rdT_ s (i : Int))) = n + (rdT_ s (i : Int)).f0 * wv p t (rdT_ s (i : Int)) := wsm (by unfold sm; omega)
    have w5 : wrap64 (d + wv p t (rdT_ s (i : Int))) = d + wv p t (rdT_ s (i : Int)) := wsm (by unfold sm; omega)
    have w6 : wrap64 ((rdT_ s (i : Int)).f0 * d) = (rdT_ s (i : Int)).f0 * d := wsm (by unfold sm; omega)
    by_cases hc : d > 0 ∧ (rdT_ s (i : Int)).f0 * d ≥ n
    · rw [if_pos hc] at hk
      refine Ev.step (fun k => ?_) hk
      simp only [jBa.l1]
      rw [if_pos (by omega), if_pos (by omega), if_pos (by omega), if_pos hc.1, w6, if_pos hc.2]
    rw [if_neg hc] at hk
    have ih := bal_l1 l s t p ht hp hp2 hs hv hd R m (i + 1) _ _ (by omega) (by omega) (by omega) (by omega) (by omega) hk
    refine Ev.step (fun k => ?_) ih
    simp only [jBa.l1]
    rw [if_pos (by omega), if_pos (by omega), if_pos (by omega), wrapN i (by omega), w6, w1, w2, w3, w4, w5]
    by_cases h0 : d > 0
    · rw [if_pos h0, if_neg (fun h => hc ⟨h0, h⟩), if_neg (by omega)]
    rw [if_neg h0, if_neg (by omega)]
/-- What a lane takes. -/
def nv (w : S36 → Int) (n d : Int) (x : S36) : Int := (if x.f0 * d < n then n - x.f0 * d else 0) * w x
def balT (k : Nat) (p n d : Int) (nums : List Int) : Option (List Int × Int × Int × Int) :=
  (ratio_Parts.f k nums (wrap64 (d * p))).bind fun b => (ratio_Of.f k n d).bind fun c => some (b.1, b.2, c.1, c.2)
theorem bal_l2 (l : List S36) (t p n d : Int) (ht : t = 1 ∨ t = 2) (hp : 0 < p) (hp2 : p ≤ 160000) (hl : l.length ≤ 4) (hv : ∀ x ∈ l, okL x) (hd : ∀ x ∈ l, (x.f1 * t) ∣ p) (n0 : 0 ≤ n) (n1 : n ≤ 6560000) (d0 : 0 ≤ d) (d1 : d ≤ 640000) (R : List Int × Int × Int × Int) : ∀ (m i : Nat) (acc : List Int), i + m = l.length → acc.length = i →
    Ev (fun k => balT k p n d (acc ++ (l.drop i).map (nv (wv p t) n d))) R → Ev (fun k => jBa.l2 k t p n d acc l (l.length : Int) (i : Int)) R
  | 0, i, acc, h, ha, hk => by
    rw [List.drop_of_length_le (by omega)] at hk
    simp only [List.map_nil, List.append_nil] at hk
    refine Ev.step (fun k => ?_) hk
    simp only [jBa.l2, balT]
    rw [if_neg (by omega)]
  | m + 1, i, acc, h, ha, hk => by
    have hi : i < l.length := by omega
    have hx := hv _ (rdT_mem l i hi)
    have hdx := hd _ (rdT_mem l i hi)
    have hb := bt_b ht hx
    have hw := wv_b hdx hp hb.1
    unfold okL at hx
    have hm2 := mulb (x := (rdT_ l (i : Int)).f0) (y := d) (X := 10) (Y := 640000) (by omega) (by omega) (by omega) (by omega)
    have w1 : wrap64 ((rdT_ l (i : Int)).f1 * t) = (rdT_ l (i : Int)).f1 * t := wsm (by unfold sm; omega)
    have w2 : wrap64 (Int.tdiv p ((rdT_ l (i : Int)).f1 * t)) = wv p t (rdT_ l (i : Int)) := wsm (by show sm (wv p t (rdT_ l (i : Int))); unfold sm; omega)
    have w6 : wrap64 ((rdT_ l (i : Int)).f0 * d) = (rdT_ l (i : Int)).f0 * d := wsm (by unfold sm; omega)
    have w7 : wrap64 (n - (rdT_ l (i : Int)).f0 * d) = n - (rdT_ l (i : Int)).f0 * d := wsm (by unfold sm; omega)
    have w8 : mx 0 (n - (rdT_ l (i : Int)).f0 * d) = if (rdT_ l (i : Int)).f0 * d < n then n - (rdT_ l (i : Int)).f0 * d else 0 := by
      unfold mx; split <;> split <;> omega
    have hq : 0 ≤ (if (rdT_ l (i : Int)).f0 * d < n then n - (rdT_ l (i : Int)).f0 * d else 0) ∧ (if (rdT_ l (i : Int)).f0 * d < n then n - (rdT_ l (i : Int)).f0 * d else 0) ≤ 6560000 := by split <;> omega
    have hm3 := mulb (y := wv p t (rdT_ l (i : Int))) (Y := 160000) hq.1 hq.2 (by omega) (by omega)
    have w9 : wrap64 ((if (rdT_ l (i : Int)).f0 * d < n then n - (rdT_ l (i : Int)).f0 * d else 0) * wv p t (rdT_ l (i : Int))) = nv (wv p t) n d (rdT_ l (i : Int)) := wsm (by unfold sm; omega)
    rw [rdT_drop l i hi, List.map_cons, show acc ++ nv (wv p t) n d (rdT_ l (i : Int)) :: (l.drop (i + 1)).map (nv (wv p t) n d) = (acc ++ [nv (wv p t) n d (rdT_ l (i : Int))]) ++ (l.drop (i + 1)).map (nv (wv p t) n d) by simp] at hk
    have ih := bal_l2 l t p n d ht hp hp2 hl hv hd n0 n1 d0 d1 R m (i + 1) _ (by omega) (by simp [ha]) hk
    refine Ev.step (fun k => ?_) ih
    simp only [jBa.l2]
    rw [if_pos (by omega), if_pos (by omega), if_pos (by omega), wrapN i (by omega), w6, w1, w2, w7, w8, w9, if_neg (by omega), if_pos (by omega)]
theorem Good.b {p t : Int} {l : List S36} {n d : Int} (hp : 0 < p) (hp2 : p ≤ 160000) (hl : l.length ≤ 4) (hw : ∀ x ∈ l, okL x ∧ 0 < wv p t x ∧ wv p t x ≤ p) (g : Good (wv p t) p l n d) : 0 ≤ n ∧ n ≤ 6560000 ∧ 0 < d ∧ d ≤ 640000 := by
  obtain ⟨h0, h1, h2⟩ := g
  have a1 : sumL (fun x => if x.f0 * d < n then x.f0 * wv p t x else 0) l ≤ sumL (fun _ => 1600000) l := sumL_le fun x hx => by
    obtain ⟨h3, h4, h5⟩ := hw x hx
    unfold okL at h3
    have := mulb (x := x.f0) (y := wv p t x) (X := 10) (Y := 160000) (by omega) (by omega) (by omega) (by omega)
    split <;> omega
  have a0 : 0 ≤ sumL (fun x => if x.f0 * d < n then x.f0 * wv p t x else 0) l := sumL_pos fun x hx => by
    obtain ⟨h3, h4, h5⟩ := hw x hx
    unfold okL at h3
    have := mulb (x := x.f0) (y := wv p t x) (X := 10) (Y := 160000) (by omega) (by omega) (by omega) (by omega)
    split <;> omega
  have a2 : sumL (fun x => if x.f0 * d < n then wv p t x else 0) l ≤ sumL (fun _ => 160000) l := sumL_le fun x hx => by
    obtain ⟨h3, h4, h5⟩ := hw x hx
    split <;> omega
  rw [sumL_const] at a1 a2
  omega
/-- The whole of balance. -/
theorem balance_ev {l : List S36} {t : Int} (ht : t = 1 ∨ t = 2) (hne : l ≠ []) (hl : l.length ≤ 4) (hv : ∀ x ∈ l, okL x) :
    ∃ n d, Good (wv (prodL t l) t) (prodL t l) l n d ∧ Ev (fun k => jBa.f k l t) ((partsR (l.map (nv (wv (prodL t l) t) n d)) (d * prodL t l) (gl (l.map (nv (wv (prodL t l) t) n d)) (d * prodL t l))).1, (partsR (l.map (nv (wv (prodL t l) t) n d)) (d * prodL t l) (gl (l.map (nv (wv (prodL t l) t) n d)) (d * prodL t l))).2, (ratR n d).1, (ratR n d).2) := by
  have hp := prodL_b ht hv
  have hp2 : prodL t l ≤ 160000 := Int.le_trans hp.2 (pow20 hl)
  obtain ⟨s, hs, hperm, hsort⟩ := sorted_ev hne hl hv
  have hvs : ∀ x ∈ s, okL x := fun x hx => hv x (hperm.mem_iff.1 hx)
  have hds : ∀ x ∈ s, (x.f1 * t) ∣ prodL t l := fun x hx => prodL_dvd x (hperm.mem_iff.1 hx)
  have hws : ∀ x ∈ s, okL x ∧ 0 < wv (prodL t l) t x ∧ wv (prodL t l) t x ≤ prodL t l := fun x hx => ⟨hvs x hx, wv_b (hds x hx) hp.1 (bt_b ht (hvs x hx)).1⟩
  have hws2 : ∀ x ∈ l, okL x ∧ 0 < wv (prodL t l) t x ∧ wv (prodL t l) t x ≤ prodL t l := fun x hx => hws x (hperm.mem_iff.2 hx)
  have hsne : s ≠ [] := fun h => hne (by rw [h] at hperm; exact hperm.symm.eq_nil)
  have g := (goB_good (wv (prodL t l) t) (prodL t l) hp.1 s [] (prodL t l) 0 (by simpa using hsort) (by simpa using fun x hx => ⟨(hws x hx).2.1, (hvs x hx).1⟩) (by simpa using hsne) (by simp) (by simp [sumL]) (by simp [sumL]))
  rw [List.nil_append] at g
  generalize hnd : goB (wv (prodL t l) t) s (prodL t l) 0 = nd at g
  have g2 := g.perm hperm
  have gb := g2.b hp.1 hp2 hl hws2
  refine ⟨nd.1, nd.2, g2, ?_⟩
  have hm := mulb (x := nd.2) (y := prodL t l) (X := 640000) (Y := 160000) (by omega) (by omega) (by omega) hp2
  have hdp : 0 < nd.2 * prodL t l := Int.mul_pos gb.2.2.1 hp.1
  have hnum : ∀ y ∈ l.map (nv (wv (prodL t l) t) nd.1 nd.2), sm y := by
    intro y hy
    obtain ⟨x, hx, rfl⟩ := List.mem_map.1 hy
    obtain ⟨h3, h4, h5⟩ := hws2 x hx
    unfold okL at h3
    have hm2 := mulb (x := x.f0) (y := nd.2) (X := 10) (Y := 640000) (by omega) (by omega) (by omega) (by omega)
    have hq : 0 ≤ (if x.f0 * nd.2 < nd.1 then nd.1 - x.f0 * nd.2 else 0) ∧ (if x.f0 * nd.2 < nd.1 then nd.1 - x.f0 * nd.2 else 0) ≤ 6560000 := by split <;> omega
    have hm3 := mulb (y := wv (prodL t l) t x) (Y := 160000) hq.1 hq.2 (by omega) (by omega)
    unfold nv sm
    omega
  have hT : Ev (fun k => balT k (prodL t l) nd.1 nd.2 (l.map (nv (wv (prodL t l) t) nd.1 nd.2))) ((partsR (l.map (nv (wv (prodL t l) t) nd.1 nd.2)) (nd.2 * prodL t l) (gl (l.map (nv (wv (prodL t l) t) nd.1 nd.2)) (nd.2 * prodL t l))).1, (partsR (l.map (nv (wv (prodL t l) t) nd.1 nd.2)) (nd.2 * prodL t l) (gl (l.map (nv (wv (prodL t l) t) nd.1 nd.2)) (nd.2 * prodL t l))).2, (ratR nd.1 nd.2).1, (ratR nd.1 nd.2).2) := by
    unfold balT
    rw [wsm (x := nd.2 * prodL t l) (by unfold sm; omega)]
    exact Ev.bind (parts_ev _ _ (by simp; omega) hnum (by unfold sm; omega) hdp) (Ev.bind (of_ev (by unfold sm; omega) (by unfold sm; omega) gb.2.2.1) (Ev.now _))
  have h2 := bal_l2 l t (prodL t l) nd.1 nd.2 ht hp.1 hp2 hl hv (fun x hx => prodL_dvd x hx) gb.1 gb.2.1 (by omega) gb.2.2.2 _ l.length 0 [] (by omega) rfl (by simpa using hT)
  have h3 : Ev (fun k => jBa.j2 k l t (prodL t l) nd.1 nd.2) _ := Ev.step (fun k => by simp only [jBa.j2]; rfl) h2
  have h4 := bal_l1 l s t (prodL t l) ht hp.1 hp2 (by rw [hperm.length_eq]; exact hl) hvs hds _ s.length 0 (prodL t l) 0 (by omega) (by omega) (by omega) (by omega) (by omega) (by simp only [List.drop_zero]; rw [hnd]; exact h3)
  unfold jBa.f
  refine bal_l0 l t ht hl hv _ l.length 0 1 (by omega) (by omega) (by simp) ?_
  simp only [Int.one_mul, List.drop_zero]
  exact Ev.congr (fun k => by rw [hs]; rfl) h4
end Go.Proofs.Ytjgbdicbdlollaa.B
namespace Go.Proofs.Ytjgbdicbdlollaa.B
open Go.RowKit Go.Sort Go.Proofs.YtjgbdicbdlollaaW.PrintWords Go.Proofs.YtjgbdicbdlollaaW.PrintLast Go.Proofs.YtjgbdicbdlollaaW.PrintMore
set_option linter.unusedVariables false
set_option linter.unusedSimpArgs false
theorem gl_scale {c : Int} (hc : 0 < c) : ∀ (l : List Int) (d : Int), gl (l.map fun x => c * x) (c * d) = c * gl l d
  | [], d => rfl
  | n :: l, d => by
    simp only [List.map_cons, gl]
    have e : (Int.gcd (c * d) (c * n) : Int) = c * (Int.gcd d n : Int) := by
      rw [Int.gcd_mul_left, Int.natCast_mul]; congr 1; omega
    rw [e, gl_scale hc l]
/-- A delay's sum. -/
def delS (l : List S36) (X : List Int) (D : Int) : Nat → Nat → Int → Int
  | 0, _, s => s
  | m + 1, i, s => delS l X D m (i + 1) (s + rd X (i : Int) * ((rdT_ l (i : Int)).f0 * D + (rdT_ l (i : Int)).f1 * rd X (i : Int)))
theorem del_term {l : List S36} {X : List Int} {D : Int} (hX : X.length = l.length) (hv : ∀ x ∈ l, okL x) (h0 : 0 < D) (h1 : D ≤ 101606400) (hy : ∀ y ∈ X, 0 ≤ y ∧ y ≤ D) (i : Nat) (hi : i < l.length) :
    let a := (rdT_ l (i : Int)).f0 * D
    let b := (rdT_ l (i : Int)).f1 * rd X (i : Int)
    (0 ≤ a ∧ a ≤ 1016064000) ∧ (0 ≤ b ∧ b ≤ 1016064000) ∧ 0 ≤ rd X (i : Int) * (a + b) ∧ rd X (i : Int) * (a + b) ≤ 206477210419200000 := by
  intro a b
  have hx := hv _ (rdT_mem l i hi)
  have hn := hy _ (rd_mem2 X i (by omega))
  unfold okL at hx
  have m1 := mulb (x := (rdT_ l (i : Int)).f0) (y := D) (X := 10) (Y := 101606400) (by omega) (by omega) (by omega) h1
  have m2 := mulb (x := (rdT_ l (i : Int)).f1) (y := rd X (i : Int)) (X := 10) (Y := 101606400) (by omega) (by omega) (by omega) (by omega)
  have m3 := mulb (x := rd X (i : Int)) (y := a + b) (X := 101606400) (Y := 2032128000) (by omega) (by omega) (by omega) (by omega)
  refine ⟨⟨by omega, by omega⟩, ⟨by omega, by omega⟩, by omega, by omega⟩
theorem delS_ev {l : List S36} {X : List Int} {D : Int} (hl : l.length ≤ 4) (hX : X.length = l.length) (hv : ∀ x ∈ l, okL x) (h0 : 0 < D) (h1 : D ≤ 101606400) (hy : ∀ y ∈ X, 0 ≤ y ∧ y ≤ D) : ∀ (m i : Nat) (s : Int), i + m = l.length → 0 ≤ s → s ≤ 206477210419200000 * i →
    (delL l X D m i s = some (delS l X D m i s) ∧ 0 ≤ delS l X D m i s ∧ delS l X D m i s ≤ 206477210419200000 * 4) ∧ Ev (fun k => trishawref02_delay.l0 k l s (i : Int) X D) (ratR (delS l X D m i s) (D * D))
  | 0, i, s, h, s0, s1 => by
    have hDD := mulb (x := D) (y := D) (X := 101606400) (Y := 101606400) (by omega) h1 (by omega) h1
    have hD2 : 0 < D * D := Int.mul_pos h0 h0
    refine ⟨⟨rfl, s0, by simp only [delS]; omega⟩, ?_⟩
    simp only [delS]
    refine Ev.step (f := fun k => (trishawref01_Ratio.f k s (D * D)).bind fun bt => some (bt.1, bt.2)) (fun k => ?_) (Ev.bind (ratio_ev (by unfold sm; omega) (by unfold sm; omega) hD2) (Ev.now _))
    simp only [trishawref02_delay.l0]
    rw [if_neg (by omega), wsm (x := D * D) (by unfold sm; omega)]
  | m + 1, i, s, h, s0, s1 => by
    have hi : i < l.length := by omega
    have hT := del_term hX hv h0 h1 hy i hi
    simp only at hT
    obtain ⟨⟨a0, a1⟩, ⟨b0, b1⟩, c0, c1⟩ := hT
    have ih := delS_ev hl hX hv h0 h1 hy m (i + 1) (s + rd X (i : Int) * ((rdT_ l (i : Int)).f0 * D + (rdT_ l (i : Int)).f1 * rd X (i : Int))) (by omega) (by omega) (by omega)
    have w1 : wrap64 ((rdT_ l (i : Int)).f0 * D) = (rdT_ l (i : Int)).f0 * D := wsm (by unfold sm; omega)
    have w2 : wrap64 ((rdT_ l (i : Int)).f1 * rd X (i : Int)) = (rdT_ l (i : Int)).f1 * rd X (i : Int) := wsm (by unfold sm; omega)
    have w3 : wrap64 ((rdT_ l (i : Int)).f0 * D + (rdT_ l (i : Int)).f1 * rd X (i : Int)) = (rdT_ l (i : Int)).f0 * D + (rdT_ l (i : Int)).f1 * rd X (i : Int) := wsm (by unfold sm; omega)
    have w4 : wrap64 (rd X (i : Int) * ((rdT_ l (i : Int)).f0 * D + (rdT_ l (i : Int)).f1 * rd X (i : Int))) = rd X (i : Int) * ((rdT_ l (i : Int)).f0 * D + (rdT_ l (i : Int)).f1 * rd X (i : Int)) := wsm (by unfold sm; omega)
    have w5 : wrap64 (s + rd X (i : Int) * ((rdT_ l (i : Int)).f0 * D + (rdT_ l (i : Int)).f1 * rd X (i : Int))) = s + rd X (i : Int) * ((rdT_ l (i : Int)).f0 * D + (rdT_ l (i : Int)).f1 * rd X (i : Int)) := wsm (by unfold sm; omega)
    refine ⟨⟨?_, ih.1.2⟩, ?_⟩
    · simp only [delL, delS, laneCost]
      rw [if_pos (by omega), w1, w2, w3, w4, w5]
      exact ih.1.1
    refine Ev.step (fun k => ?_) ih.2
    simp only [trishawref02_delay.l0]
    rw [if_pos (by omega), if_pos (by omega), if_pos (by omega), wrapN i (by omega), w1, w2, w3, w4, w5]
theorem delay_ev {l : List S36} {X : List Int} {D : Int} (hl : l.length ≤ 4) (hX : X.length = l.length) (hv : ∀ x ∈ l, okL x) (h0 : 0 < D) (h1 : D ≤ 101606400) (hy : ∀ y ∈ X, 0 ≤ y ∧ y ≤ D) :
    Ev (fun k => jam_delay.f k l X D) (ratR (delS l X D l.length 0 0) (D * D)) ∧ Ev (fun k => trishawref02_delay.f k l X D) (ratR (delS l X D l.length 0 0) (D * D)) := by
  have hDD := mulb (x := D) (y := D) (X := 101606400) (Y := 101606400) (by omega) h1 (by omega) h1
  have hD2 : 0 < D * D := Int.mul_pos h0 h0
  obtain ⟨⟨e1, e2, e3⟩, e4⟩ := delS_ev hl hX hv h0 h1 hy l.length 0 0 (by omega) (by omega) (by omega)
  refine ⟨?_, e4⟩
  refine Ev.congr (f := fun k => ratio_Of.f k (delS l X D l.length 0 0) (D * D)) (fun k => ?_) (of_ev (by unfold sm; omega) (by unfold sm; omega) hD2)
  unfold jam_delay.f
  rw [if_pos (by omega), e1, wsm (x := D * D) (by unfold sm; omega)]
  rfl
theorem okL_iff (x : S36) : okL x ↔ badLane x = false := by
  unfold okL badLane
  simp only [Bool.or_eq_false_iff, decide_eq_false_iff_not]
  omega
/-- The judgement on lanes. -/
def laneE (l : List S36) : Int := if 4 < l.length then 3 else if l = [] ∨ l.any badLane = true then 2 else 0
theorem stream_laneE (l : List S36) : jam_stream.f l = some (laneE l) := rfl
theorem lanes_l0 (l : List S36) (hl : l.length ≤ 4) : ∀ (m i : Nat), i + m = l.length → Ev (fun k => rLn.l0 k l (i : Int)) (if (l.drop i).any badLane = true then 2 else 0)
  | 0, i, h => by
    rw [List.drop_of_length_le (by omega)]
    refine Ev.step (f := fun _ => some 0) (fun k => ?_) (Ev.now _)
    simp only [rLn.l0]
    rw [if_neg (by omega)]
  | m + 1, i, h => by
    have hi : i < l.length := by omega
    have ih := lanes_l0 l hl m (i + 1) (by omega)
    rw [rdT_drop l i hi, List.any_cons]
    generalize hx : rdT_ l (i : Int) = x at *
    cases hb : badLane x with
    | true =>
      simp only [Bool.true_or, if_true]
      have hj : Ev (fun k => rLn.j1 k l (i : Int) true) 2 := Ev.step (f := fun _ => some 2) (fun k => by simp [rLn.j1]) (Ev.now _)
      refine Ev.step (fun k => ?_) hj
      simp only [rLn.l0]
      rw [if_pos (by omega), if_pos (by omega), hx]
      unfold badLane at hb
      simp only [Bool.or_eq_true, decide_eq_true_eq] at hb
      by_cases h1 : x.f0 < 0
      · rw [if_pos h1]
      rw [if_neg h1]
      by_cases h2 : x.f0 > 10
      · rw [if_pos h2]
      rw [if_neg h2]
      by_cases h3 : x.f1 < 1
      · rw [if_pos h3]
      rw [if_neg h3, decide_eq_true (show x.f1 > 10 by omega)]
    | false =>
      simp only [Bool.false_or]
      have hx2 := (okL_iff x).2 hb
      unfold okL at hx2
      have hj : Ev (fun k => rLn.j1 k l (i : Int) false) _ := Ev.step (f := fun k => rLn.l0 k l ((i + 1 : Nat) : Int)) (fun k => by simp only [rLn.j1]; rw [if_neg (by simp), wrapN i (by omega)]) ih
      refine Ev.step (fun k => ?_) hj
      simp only [rLn.l0]
      rw [if_pos (by omega), if_pos (by omega), hx, if_neg (by omega), if_neg (by omega), if_neg (by omega), decide_eq_false (by omega)]
theorem lanes_ev (l : List S36) (hl : l.length < 1000000) : Ev (fun k => rLn.f k l) (laneE l) := by
  unfold rLn.f laneE
  by_cases h4 : 4 < l.length
  · rw [if_pos h4]; refine Ev.congr (f := fun _ => some 3) (fun k => ?_) (Ev.now _); rw [if_pos (by omega)]
  rw [if_neg h4]
  by_cases h0 : l = []
  · subst h0; rw [if_pos (Or.inl rfl)]; refine Ev.congr (f := fun _ => some 2) (fun k => ?_) (Ev.now _); simp
  have h1 : l.length ≠ 0 := by simpa using h0
  have hh := lanes_l0 l (by omega) l.length 0 (by omega)
  have e : (if l = [] ∨ l.any badLane = true then (2 : Int) else 0) = (if (l.drop 0).any badLane = true then 2 else 0) := by simp [h0]
  rw [e]
  refine Ev.congr (fun k => ?_) hh
  rw [if_neg (by omega), if_neg (by omega)]
  rfl
theorem laneE_ok {l : List S36} (h : laneE l = 0) : l ≠ [] ∧ l.length ≤ 4 ∧ ∀ x ∈ l, okL x := by
  unfold laneE at h
  split at h
  · omega
  split at h
  · omega
  rename_i h1 h2
  refine ⟨fun e => h2 (Or.inl e), by omega, fun x hx => (okL_iff x).2 ?_⟩
  cases hb : badLane x with
  | false => rfl
  | true => exact absurd (Or.inr (List.any_eq_true.2 ⟨x, hx, hb⟩)) h2
theorem same_l0 (x : List Int) (hx : x.length < 1000000) : ∀ (m i : Nat), i + m = x.length → Ev (fun k => lSa.l0 k x x (i : Int)) true
  | 0, i, h => by
    refine Ev.step (f := fun _ => some true) (fun k => ?_) (Ev.now _)
    simp only [lSa.l0]
    rw [if_neg (by omega)]
  | m + 1, i, h => by
    refine Ev.step (fun k => ?_) (same_l0 x hx m (i + 1) (by omega))
    simp only [lSa.l0]
    rw [if_pos (by omega), if_pos (by omega), if_pos (by omega), if_pos True.intro, wrapN i (by omega)]
theorem same_ev (x : List Int) (hx : x.length < 1000000) : Ev (fun k => lSa.f k x x) true := by
  refine Ev.congr (fun k => ?_) (same_l0 x hx x.length 0 (by omega))
  unfold lSa.f
  rw [if_pos rfl]; rfl
theorem parts_same (x : List Int) (d : Int) (hx : x.length < 1000000) : Ev (fun k => trishawlaw02_parts.f k x d x d) true := by
  unfold trishawlaw02_parts.f
  refine Ev.congr (fun k => if_pos rfl) (Ev.bind (same_ev x hx) (Ev.now true))
end Go.Proofs.Ytjgbdicbdlollaa.B
namespace Go.Proofs.Ytjgbdicbdlollaa.B
open Go.RowKit Go.Sort Go.Proofs.YtjgbdicbdlollaaW.PrintWords Go.Proofs.YtjgbdicbdlollaaW.PrintLast Go.Proofs.YtjgbdicbdlollaaW.PrintMore
theorem alive_ev : Ev (fun k => lAl_.f k) true := ⟨60, fun k hk => alive_from k hk⟩
theorem alive_ev2 : Ev (fun k => (lAl_.f k).bind fun t => some t) true := Ev.bind alive_ev (Ev.now true)
end Go.Proofs.Ytjgbdicbdlollaa.B
namespace Go.Proofs.Ytjgbdicbdlollaa.B
open Go.RowKit Go.Sort Go.Proofs.YtjgbdicbdlollaaW.PrintWords Go.Proofs.YtjgbdicbdlollaaW.PrintLast Go.Proofs.YtjgbdicbdlollaaW.PrintMore
set_option linter.unusedVariables false
set_option linter.unusedSimpArgs false
set_option linter.unusedSectionVars false
theorem leastL_lt (l : List S36) (X : List Int) (D a : Int) : ∀ m : Nat, leastL l X D m < a ↔ (costAt l X D 0 < a ∨ ∃ q : Nat, q < m ∧ costAt l X D q < a)
  | 0 => by simp [leastL]
  | m + 1 => by
    have ih := leastL_lt l X D a m
    have e : leastL l X D (m + 1) < a ↔ leastL l X D m < a ∨ costAt l X D m < a := by
      simp only [leastL, mn]
      split <;> omega
    rw [e, ih]
    constructor
    · rintro ((h | ⟨q, h1, h2⟩) | h)
      · exact Or.inl h
      · exact Or.inr ⟨q, by omega, h2⟩
      exact Or.inr ⟨m, by omega, h⟩
    rintro (h | ⟨q, h1, h2⟩)
    · exact Or.inl (Or.inl h)
    by_cases he : q = m
    · subst he; exact Or.inr h2
    exact Or.inl (Or.inr ⟨q, by omega, h2⟩)
theorem calmL_iff (l : List S36) (X : List Int) (D L : Int) : ∀ (m i : Nat), calmL l X D L m i = true ↔ ∀ q : Nat, i ≤ q → q < i + m → ¬ (0 < rd X (q : Int) ∧ L < costAt l X D q)
  | 0, i => by simp [calmL]; intro q h1 h2; omega
  | m + 1, i => by
    have ih := calmL_iff l X D L m (i + 1)
    simp only [calmL]
    by_cases h : 0 < rd X (i : Int) ∧ L < costAt l X D i
    · rw [if_pos h]
      exact ⟨fun e => absurd e (by simp), fun e => absurd h (e i (Nat.le_refl _) (by omega))⟩
    rw [if_neg h, ih]
    refine ⟨fun e q h1 h2 => ?_, fun e q h1 h2 => e q (by omega) (by omega)⟩
    by_cases he : q = i
    · subst he; exact h
    exact e q (by omega) (by omega)
section
variable (l : List S36) (X : List Int) (D : Int) (hl : l.length ≤ 4) (hX : X.length = l.length)
include hl hX
end
end Go.Proofs.Ytjgbdicbdlollaa.B
namespace Go.Proofs.Ytjgbdicbdlollaa.B
open Go.RowKit Go.Sort Go.Proofs.YtjgbdicbdlollaaW.PrintWords Go.Proofs.YtjgbdicbdlollaaW.PrintLast Go.Proofs.YtjgbdicbdlollaaW.PrintMore
set_option linter.unusedVariables false
set_option linter.unusedSimpArgs false
set_option linter.unusedSectionVars false
def sI : Nat → (Nat → Int) → Int
  | 0, _ => 0
  | n + 1, F => sI n F + F n
theorem sI_le {F G : Nat → Int} : ∀ n, (∀ i, i < n → F i ≤ G i) → sI n F ≤ sI n G
  | 0, _ => Int.le_refl _
  | n + 1, h => by
    have h1 := sI_le n fun i hi => h i (by omega)
    have h2 := h n (by omega)
    simp only [sI]; omega
theorem sI_congr {F G : Nat → Int} : ∀ n, (∀ i, i < n → F i = G i) → sI n F = sI n G
  | 0, _ => rfl
  | n + 1, h => by
    have h1 := sI_congr n fun i hi => h i (by omega)
    have h2 := h n (by omega)
    simp only [sI]; omega
theorem sI_mul (c : Int) (F : Nat → Int) : ∀ n, sI n (fun i => c * F i) = c * sI n F
  | 0 => by simp [sI]
  | n + 1 => by simp only [sI, sI_mul c F n, Int.mul_add]
theorem sI_add (F G : Nat → Int) : ∀ n, sI n (fun i => F i + G i) = sI n F + sI n G
  | 0 => by simp [sI]
  | n + 1 => by simp only [sI, sI_add F G n]; omega
theorem sI_nonneg {F : Nat → Int} : ∀ n, (∀ i, i < n → 0 ≤ F i) → 0 ≤ sI n F
  | 0, _ => Int.le_refl _
  | n + 1, h => by
    have h1 := sI_nonneg n fun i hi => h i (by omega)
    have h2 := h n (by omega)
    simp only [sI]; omega
theorem sI_zero {F : Nat → Int} : ∀ n, (∀ i, i < n → 0 ≤ F i) → sI n F ≤ 0 → ∀ i, i < n → F i = 0
  | 0, _, _, i, hi => by omega
  | n + 1, h, hs, i, hi => by
    have h1 := sI_nonneg n fun i hi => h i (by omega)
    have h2 := h n (by omega)
    simp only [sI] at hs
    by_cases e : i = n
    · subst e; omega
    exact sI_zero n (fun i hi => h i (by omega)) (by omega) i (by omega)
/-- What each lane adds to a delay. -/
def dT (A B a : Nat → Int) (D : Int) (i : Nat) : Int := a i * (A i * D + B i * a i)
structure Flow (n : Nat) (a : Nat → Int) (D : Int) : Prop where
  pos : 0 < D
  nn : ∀ i, i < n → 0 ≤ a i
  sum : sI n a = D
/-- In balance at the time T, where B counts t times. -/
def BalT (n : Nat) (t : Int) (A B a : Nat → Int) (D T : Int) : Prop := ∀ i, i < n → (0 < a i → A i * D + t * (B i * a i) = T) ∧ (a i = 0 → T ≤ A i * D)
section
variable {n : Nat} {A B a b : Nat → Int} {D E T S : Int} (fa : Flow n a D) (fb : Flow n b E) (hA : ∀ i, i < n → 0 ≤ A i) (hB : ∀ i, i < n → 1 ≤ B i)
include fa fb
theorem cross0 : sI n (fun i => b i * D - a i * E) = 0 := by
  have e : sI n (fun i => b i * D - a i * E) = sI n (fun i => D * b i + (-E) * a i) := sI_congr n fun i _ => by grind
  rw [e, sI_add, sI_mul, sI_mul, fa.sum, fb.sum]
  grind
include hA hB
theorem opt (h : BalT n 2 A B a D T) : sI n (fun i => B i * ((b i * D - a i * E) * (b i * D - a i * E))) ≤ D * D * sI n (dT A B b E) - E * E * sI n (dT A B a D) := by
  have h0 := cross0 fa fb
  have k : sI n (fun i => (E * T) * (b i * D - a i * E) + B i * ((b i * D - a i * E) * (b i * D - a i * E))) ≤ sI n (fun i => D * D * dT A B b E i + (-(E * E)) * dT A B a D i) := by
    refine sI_le n fun i hi => ?_
    obtain ⟨h1, h2⟩ := h i hi
    have e : D * D * dT A B b E i + (-(E * E)) * dT A B a D i = (b i * D - a i * E) * E * (A i * D + 2 * (B i * a i)) + B i * ((b i * D - a i * E) * (b i * D - a i * E)) := by unfold dT; grind
    rw [e]
    by_cases ha : 0 < a i
    · rw [h1 ha]; grind
    have ha0 : a i = 0 := by have := fa.nn i hi; omega
    have h3 := h2 ha0
    have h4 : 0 ≤ b i * D := Int.mul_nonneg (fb.nn i hi) (Int.le_of_lt fa.pos)
    have h5 : 0 ≤ b i * D * E := Int.mul_nonneg h4 (Int.le_of_lt fb.pos)
    rw [ha0]
    have h6 := Int.mul_le_mul_of_nonneg_left h3 h5
    grind
  rw [sI_add, sI_mul, h0, sI_add, sI_mul, sI_mul] at k
  grind
theorem opt_le (h : BalT n 2 A B a D T) : E * E * sI n (dT A B a D) ≤ D * D * sI n (dT A B b E) := by
  have h1 := opt fa fb hA hB h
  have h2 : 0 ≤ sI n (fun i => B i * ((b i * D - a i * E) * (b i * D - a i * E))) := sI_nonneg n fun i hi => Int.mul_nonneg (by have := hB i hi; omega) (by
    rcases Int.le_total 0 (b i * D - a i * E) with h | h
    · exact Int.mul_nonneg h h
    exact Int.mul_nonneg_of_nonpos_of_nonpos h h)
  omega
theorem opt_eq (h : BalT n 2 A B a D T) (he : D * D * sI n (dT A B b E) ≤ E * E * sI n (dT A B a D)) : ∀ i, i < n → b i * D = a i * E := by
  have h1 := opt fa fb hA hB h
  have h2 := sI_zero n (F := fun i => B i * ((b i * D - a i * E) * (b i * D - a i * E))) (fun i hi => Int.mul_nonneg (by have := hB i hi; omega) (by
    rcases Int.le_total 0 (b i * D - a i * E) with h | h
    · exact Int.mul_nonneg h h
    exact Int.mul_nonneg_of_nonpos_of_nonpos h h)) (by omega)
  intro i hi
  have h3 := h2 i hi
  have := hB i hi
  rcases Int.mul_eq_zero.1 h3 with h4 | h4
  · omega
  rcases Int.mul_eq_zero.1 h4 with h5 | h5 <;> omega
theorem bal_uniq (h : BalT n 1 A B a D T) (g : BalT n 1 A B b E S) : ∀ i, i < n → b i * D = a i * E := by
  have h0 := cross0 fa fb
  have k : sI n (fun i => B i * ((b i * D - a i * E) * (b i * D - a i * E))) ≤ sI n (fun i => (D * S - E * T) * (b i * D - a i * E)) := by
    refine sI_le n fun i hi => ?_
    obtain ⟨h1, h2⟩ := h i hi
    obtain ⟨g1, g2⟩ := g i hi
    have e : B i * ((b i * D - a i * E) * (b i * D - a i * E)) = D * ((b i * D - a i * E) * (A i * E + 1 * (B i * b i))) - E * ((b i * D - a i * E) * (A i * D + 1 * (B i * a i))) := by grind
    rw [e]
    have na := fa.nn i hi
    have nb := fb.nn i hi
    have p1 : b i * D * (A i * E + 1 * (B i * b i)) = b i * D * S := by
      by_cases hb : 0 < b i
      · rw [g1 hb]
      have : b i = 0 := by omega
      rw [this]; simp
    have p2 : a i * E * S ≤ a i * E * (A i * E + 1 * (B i * b i)) := by
      refine Int.mul_le_mul_of_nonneg_left ?_ (Int.mul_nonneg na (Int.le_of_lt fb.pos))
      by_cases hb : 0 < b i
      · rw [g1 hb]; exact Int.le_refl _
      have hb0 : b i = 0 := by omega
      have := g2 hb0
      rw [hb0]; simp; exact this
    have p3 : a i * E * (A i * D + 1 * (B i * a i)) = a i * E * T := by
      by_cases hb : 0 < a i
      · rw [h1 hb]
      have : a i = 0 := by omega
      rw [this]; simp
    have p4 : b i * D * T ≤ b i * D * (A i * D + 1 * (B i * a i)) := by
      refine Int.mul_le_mul_of_nonneg_left ?_ (Int.mul_nonneg nb (Int.le_of_lt fa.pos))
      by_cases hb : 0 < a i
      · rw [h1 hb]; exact Int.le_refl _
      have hb0 : a i = 0 := by omega
      have := h2 hb0
      rw [hb0]; simp; exact this
    have q1 := Int.mul_le_mul_of_nonneg_left p2 (Int.le_of_lt fa.pos)
    have q2 := Int.mul_le_mul_of_nonneg_left p4 (Int.le_of_lt fb.pos)
    have r1 : D * ((b i * D - a i * E) * (A i * E + 1 * (B i * b i))) = D * (b i * D * (A i * E + 1 * (B i * b i))) - D * (a i * E * (A i * E + 1 * (B i * b i))) := by grind
    have r2 : E * ((b i * D - a i * E) * (A i * D + 1 * (B i * a i))) = E * (b i * D * (A i * D + 1 * (B i * a i))) - E * (a i * E * (A i * D + 1 * (B i * a i))) := by grind
    rw [r1, r2, p1, p3]
    have r3 : (D * S - E * T) * (b i * D - a i * E) = D * (b i * D * S) - D * (a i * E * S) - E * (b i * D * T) + E * (a i * E * T) := by grind
    rw [r3]
    omega
  rw [sI_mul, h0, Int.mul_zero] at k
  intro i hi
  have h3 := sI_zero n (F := fun i => B i * ((b i * D - a i * E) * (b i * D - a i * E))) (fun i hi => Int.mul_nonneg (by have := hB i hi; omega) (by
    rcases Int.le_total 0 (b i * D - a i * E) with h | h
    · exact Int.mul_nonneg h h
    exact Int.mul_nonneg_of_nonpos_of_nonpos h h)) k i hi
  have := hB i hi
  rcases Int.mul_eq_zero.1 h3 with h4 | h4
  · omega
  rcases Int.mul_eq_zero.1 h4 with h5 | h5 <;> omega
omit fb in
/-- The delay of what is in balance is its time. -/
theorem bal_delay (h : BalT n 1 A B a D T) : sI n (dT A B a D) = T * D := by
  have e : sI n (dT A B a D) = sI n (fun i => T * a i) := sI_congr n fun i hi => by
    unfold dT
    by_cases hb : 0 < a i
    · have := (h i hi).1 hb
      rw [Int.one_mul] at this
      rw [this, Int.mul_comm]
    have : a i = 0 := by have := fa.nn i hi; omega
    rw [this]; simp
  rw [e, sI_mul, fa.sum]
/-- The price of balance is at most 4/3. -/
theorem bal_price (h : BalT n 1 A B a D T) : 3 * (T * D * (E * E)) ≤ 4 * (D * D * sI n (dT A B b E)) := by
  have k : sI n (fun i => (4 * D * E * T) * b i + (-(E * E * T)) * a i) ≤ sI n (fun i => (4 * (D * D)) * dT A B b E i) := by
    refine sI_le n fun i hi => ?_
    obtain ⟨h1, h2⟩ := h i hi
    have na := fa.nn i hi
    have nb := fb.nn i hi
    have e : 4 * (D * D) * dT A B b E i = (4 * D * E) * (b i * (A i * D + 1 * (B i * a i))) + B i * ((2 * D * b i - E * a i) * (2 * D * b i - E * a i)) - E * E * (a i * (B i * a i)) := by unfold dT; grind
    have s1 : 0 ≤ B i * ((2 * D * b i - E * a i) * (2 * D * b i - E * a i)) := Int.mul_nonneg (by have := hB i hi; omega) (by
      rcases Int.le_total 0 (2 * D * b i - E * a i) with h | h
      · exact Int.mul_nonneg h h
      exact Int.mul_nonneg_of_nonpos_of_nonpos h h)
    have hDE : 0 ≤ 4 * D * E := Int.mul_nonneg (by have := fa.pos; omega) (Int.le_of_lt fb.pos)
    have s2 : (4 * D * E) * (b i * T) ≤ (4 * D * E) * (b i * (A i * D + 1 * (B i * a i))) := by
      refine Int.mul_le_mul_of_nonneg_left (Int.mul_le_mul_of_nonneg_left ?_ nb) hDE
      by_cases hb : 0 < a i
      · rw [h1 hb]; exact Int.le_refl _
      have hb0 : a i = 0 := by omega
      have := h2 hb0
      rw [hb0]; simp; exact this
    have s3 : E * E * (a i * (B i * a i)) ≤ E * E * (a i * T) := by
      refine Int.mul_le_mul_of_nonneg_left ?_ (Int.mul_nonneg (Int.le_of_lt fb.pos) (Int.le_of_lt fb.pos))
      by_cases hb : 0 < a i
      · refine Int.mul_le_mul_of_nonneg_left ?_ na
        have := h1 hb
        have := Int.mul_nonneg (hA i hi) (Int.le_of_lt fa.pos)
        omega
      have hb0 : a i = 0 := by omega
      rw [hb0]; simp
    rw [e]
    have r1 : (4 * D * E * T) * b i + (-(E * E * T)) * a i = (4 * D * E) * (b i * T) - E * E * (a i * T) := by grind
    rw [r1]
    omega
  rw [sI_add, sI_mul, sI_mul, sI_mul, fa.sum, fb.sum] at k
  grind
end
end Go.Proofs.Ytjgbdicbdlollaa.B
