/- Texts behind the row of JamLane, part 3: contracts of the functions it reaches, words that their walks use, and lemmas in plain Lean. -/
import Derived.Below
import Derived.Deep.Draws
import Derived.Deep.AppendLies
import Derived.Maps.AppendAt
import Derived.OwnWalk
import Derived.Laws.BytesArg
import Derived.Laws.MakeOwn
import Derived.Laws.OwnMore
import Derived.Deep.OwnRows
import Derived.Tactics
import Derived.Lib.ConvBytes
import Derived.Laws.Slices
import Derived.WalkKit
import Derived.KernelRfl
import Derived.RowKit3
import Derived.Deep.LoopGhost
import Derived.Deep.QuietTactic
import Derived.BigQuiet
import Derived.WideLaws
import Derived.Deep.DeepCutAuto
import Derived.Deep.CutBlock
import Derived.Deep.RegionHeld3
import Derived.Laws.Rows
import Derived.Lib.AppendStr
import Derived.ArgAppend
import Derived.Laws.IdiomCopy
import Derived.RowKit
import Derived.OrdersHeld
import Derived.Laws.BitsLemmas
import Derived.Laws.StructEq
import Derived.Test.YtjgbdicbdlollaaProg
import Derived.WalkSpells
import Derived.MapKept
import Derived.Maps.RangeWalk
import Derived.Test.YtjgbdicbdlollaaCL1
import Derived.Test.YtjgbdicbdlollaaCL2
namespace Go.Proofs.Ytjgbdicbdlollaa.B
open Go.RowKit Go.Proofs.YtjgbdicbdlollaaW.PrintWords Go.Proofs.YtjgbdicbdlollaaW.PrintLast Go.Proofs.YtjgbdicbdlollaaW.PrintMore
attribute [local go_sem] max2_int min2_int max_two min_two max_three min_three max_four min_four   -- for this text's walks alone
set_option linter.unusedVariables false
set_option linter.unusedSimpArgs false
def trishawref01_Mul.f (k : Nat) (a0_0 : Bool) (l0_1 : List Int) (a0_2 : Bool) (l0_3 : List Int) (a1_0 : Bool) (l1_1 : List Int) (a1_2 : Bool) (l1_3 : List Int) : Option (Bool × List Int × Bool × List Int) := (trishawref01_Times.f k a0_0 l0_1 a1_0 l1_1).bind fun bt104 => ((trishawref01_Times.f k a0_2 l0_3 a1_2 l1_3).bind fun bt108 => ((rLo.f k bt104.1 bt104.2 bt108.1 bt108.2).bind fun bt112 => (some (bt112.1, bt112.2.1, bt112.2.2.1, bt112.2.2.2))))
def trishawref01_Mul.T1 : Bool × List (List Nat × List Nat) := (true, [([], []), ([0], [0]), ([], []), ([2], [2]), ([1, 3], [1, 3]), ([], []), ([5], [5]), ([], []), ([7], [7]), ([6, 8, 4], [6, 8]), ([4, 9, 9], [4, 9]), ([10, 10, 0, 1, 2, 3, 4, 5, 6, 7, 8, 9, 10], [10])])
def trishawref01_Mul.B1 : List Nat := [0, 1, 0, 4, 15, 0, 32, 0, 128, 511, 1023, 2047]
theorem trishawref01_Mul.tab1 : rtab .any (opsOf Try.f54 1) = trishawref01_Mul.T1 := by kernel_rfl
theorem trishawref01_Mul.bits1 : waitsOk trishawref01_Mul.T1.2 trishawref01_Mul.B1 = true := by kernel_rfl
set_option maxHeartbeats 8000000 in
set_option maxRecDepth 100000 in
theorem trishawref01_Mul.calls (k : Nat) (a0_0 : Bool) (A0_1 : Option Addr) (c0_1 : Nat) (l0_1 : List Int) (a0_2 : Bool) (A0_3 : Option Addr) (c0_3 : Nat) (l0_3 : List Int) (a1_0 : Bool) (A1_1 : Option Addr) (c1_1 : Nat) (l1_1 : List Int) (a1_2 : Bool) (A1_3 : Option Addr) (c1_3 : Nat) (l1_3 : List Int) (r1 : Bool) (r2 : List Int) (r3 : Bool) (r4 : List Int) (w : World) (hr0_1 : Kd.C (Kd.int .i64) w A0_1 l0_1.length l0_1) (hc0_1 : l0_1.length ≤ c0_1) (hr0_3 : Kd.C (Kd.int .i64) w A0_3 l0_3.length l0_3) (hc0_3 : l0_3.length ≤ c0_3) (hr1_1 : Kd.C (Kd.int .i64) w A1_1 l1_1.length l1_1) (hc1_1 : l1_1.length ≤ c1_1) (hr1_3 : Kd.C (Kd.int .i64) w A1_3 l1_3.length l1_3) (hc1_3 : l1_3.length ≤ c1_3) (h : trishawref01_Mul.f k a0_0 l0_1 a0_2 l0_3 a1_0 l1_1 a1_2 l1_3 = some (r1, r2, r3, r4)) :
  Calls Try.prog 54 #[.agg #[.bool a0_0, .slice A0_1 l0_1.length c0_1, .bool a0_2, .slice A0_3 l0_3.length c0_3], .agg #[.bool a1_0, .slice A1_1 l1_1.length c1_1, .bool a1_2, .slice A1_3 l1_3.length c1_3]] w fun e w' => ∃ v1_ v3_ : Value, e = .returned (.agg #[.bool r1, v1_, .bool r3, v3_]) ∧ Kd.R (Kd.int .i64) 3 w' w.heap.size (fun k_ => some k_ ≠ (v3_ : Value).ownBlock) v1_ r2 ∧ Kd.R (Kd.int .i64) 3 w' w.heap.size (fun k_ => some k_ ≠ (v1_ : Value).ownBlock) v3_ r4 ∧ Below w.heap.size w w' := by
 have hu77 := Try.underlying77
 have hu75 := Try.underlying75
 have HR0_1 := Az0.mk hr0_1
 have HC0_1 := Az0.mk hc0_1
 clear hr0_1 hc0_1
 have HR0_3 := Az0.mk hr0_3
 have HC0_3 := Az0.mk hc0_3
 clear hr0_3 hc0_3
 have HR1_1 := Az0.mk hr1_1
 have HC1_1 := Az0.mk hc1_1
 clear hr1_1 hc1_1
 have HR1_3 := Az0.mk hr1_3
 have HC1_3 := Az0.mk hc1_3
 clear hr1_3 hc1_3
 have HB := Az0.mk (Below.refl w.heap.size w)
 have H : ((trishawref01_Times.f k a0_0 l0_1 a1_0 l1_1).bind fun bt104 => ((trishawref01_Times.f k a0_2 l0_3 a1_2 l1_3).bind fun bt108 => ((rLo.f k bt104.1 bt104.2 bt108.1 bt108.2).bind fun bt112 => (some (bt112.1, bt112.2.1, bt112.2.2.1, bt112.2.2.2))))) = some (r1, r2, r3, r4) := h
 clear h
 replace H := Option.bind_eq_some_iff.mp H
 obtain ⟨⟨t104, t105⟩, A30, H⟩ := H
 replace H : ((trishawref01_Times.f k a0_2 l0_3 a1_2 l1_3).bind fun bt108 => ((rLo.f k t104 t105 bt108.1 bt108.2).bind fun bt112 => (some (bt112.1, bt112.2.1, bt112.2.2.1, bt112.2.2.2)))) = some (r1, r2, r3, r4) := H
 have A3 := Az0.mk A30
 clear A30
 replace H := Option.bind_eq_some_iff.mp H
 obtain ⟨⟨t108, t109⟩, A40, H⟩ := H
 replace H : ((rLo.f k t104 t105 t108 t109).bind fun bt112 => (some (bt112.1, bt112.2.1, bt112.2.2.1, bt112.2.2.2))) = some (r1, r2, r3, r4) := H
 have A4 := Az0.mk A40
 clear A40
 replace H := Option.bind_eq_some_iff.mp H
 obtain ⟨⟨t112, t113, t116, t117⟩, A50, H⟩ := H
 replace H : (some (t112, t113, t116, t117)) = some (r1, r2, r3, r4) := H
 have A5 := Az0.mk A50
 clear A50
 simp only [Option.some.injEq, Prod.mk.injEq] at H
 obtain ⟨rfl, rfl, rfl, rfl⟩ := H
 go_enter Try.func54, Try.ntmps54
 try go_wp2_with (first | ((with_reducible refine gD_ (N := 2) rfl ?_); refine bE_ ?hg (N := 2) ?hd (cs := #[.bool a0_0, .slice A0_1 l0_1.length c0_1, .bool a0_2, .slice A0_3 l0_3.length c0_3]) (t := 77) ?hr ?_; (case hd => rfl); (case hg => rfl); (case hr => first | (go_simp; done) | (go_simp; rfl)); intro gb101 hg w6 hbox hb; have n0_ := Az0.mk (bP_ (by exact Ups.w HB.out) hb); have n1_ := Az0.mk (hbox); have n2_ := Az0.mk ((by rw [hg]; exact (bZ_ (by exact Ups.w HB.out)) : w.heap.size ≤ gb101)); have n3_ := Az0.mk ((by rw [hg]; exact (bZ_ (by exact Ups.w HB.out)) : w.heap.size ≤ gb101)); clear HB; have HB := n0_; have BK101 := n1_; have GW101 := n2_; have GE101 := n3_; clear n0_ n1_ n2_ n3_; clear hb hbox hg) | ((with_reducible refine gD_ (N := 3) rfl ?_); refine bE_ ?hg (N := 3) ?hd (cs := #[.bool a1_0, .slice A1_1 l1_1.length c1_1, .bool a1_2, .slice A1_3 l1_3.length c1_3]) (t := 77) ?hr ?_; (case hd => rfl); (case hg => rfl); (case hr => first | (go_simp; done) | (go_simp; rfl)); intro gb102 hg w7 hbox hb; have n0_ := Az0.mk (bB_ (g := gb101) (o := .cells #[.bool a0_0, .slice A0_1 l0_1.length c0_1, .bool a0_2, .slice A0_3 l0_3.length c0_3] 77 (0, 0)) (by refine Ups.b ?_; exact BK101.out) hb); have n1_ := Az0.mk (bP_ (by repeat (first | (with_reducible first | exact HB.out | refine Up1.w ?_ | refine bS_ ?_ GE101.out) | exact HB.out)) hb); have n2_ := Az0.mk (hbox); have n3_ := Az0.mk ((by rw [hg]; exact (bZ_ (by repeat (first | (with_reducible first | exact HB.out | refine Up1.w ?_ | refine bS_ ?_ GE101.out) | exact HB.out))) : w.heap.size ≤ gb102)); have n4_ := Az0.mk ((by rw [hg]; exact (bZ_ (by repeat (first | (with_reducible first | exact HB.out | refine Up1.w ?_ | refine bS_ ?_ GE101.out) | exact HB.out))) : w.heap.size ≤ gb102)); have n5_ := Az0.mk ((by rw [hg]; exact Nat.ne_of_lt (bL_ (g := gb101) (o := .cells #[.bool a0_0, .slice A0_1 l0_1.length c0_1, .bool a0_2, .slice A0_3 l0_3.length c0_3] 77 (0, 0)) (by refine Ups.b ?_; exact BK101.out)) : gb101 ≠ gb102)); have n6_ := Az0.mk ((by rw [hg]; exact Nat.ne_of_gt (bL_ (g := gb101) (o := .cells #[.bool a0_0, .slice A0_1 l0_1.length c0_1, .bool a0_2, .slice A0_3 l0_3.length c0_3] 77 (0, 0)) (by refine Ups.b ?_; exact BK101.out)) : gb102 ≠ gb101)); clear BK101; clear HB; have BK101 := n0_; have HB := n1_; have BK102 := n2_; have GW102 := n3_; have GE102 := n4_; have NB101_102 := n5_; have NB102_101 := n6_; clear n0_ n1_ n2_ n3_ n4_ n5_ n6_; clear hb hbox hg) | ((with_reducible refine gD_ (N := 4) rfl ?_); refine bE_ ?hg (N := 4) ?hd (cs := #[.bool false, .slice none 0 0, .bool false, .slice none 0 0]) (t := 77) ?hr ?_; (case hd => rfl); (case hg => rfl); (case hr => first | (go_simp; done) | (go_simp; rfl)); intro gb103 hg w8 hbox hb; have n0_ := Az0.mk (bB_ (g := gb101) (o := .cells #[.bool a0_0, .slice A0_1 l0_1.length c0_1, .bool a0_2, .slice A0_3 l0_3.length c0_3] 77 (0, 0)) (by refine Ups.b ?_; exact BK101.out) hb); have n1_ := Az0.mk (bB_ (g := gb102) (o := .cells #[.bool a1_0, .slice A1_1 l1_1.length c1_1, .bool a1_2, .slice A1_3 l1_3.length c1_3] 77 (0, 0)) (by refine Ups.b ?_; exact BK102.out) hb); have n2_ := Az0.mk (bP_ (by repeat (first | (with_reducible first | exact HB.out | refine Up1.w ?_ | refine bS_ ?_ GE101.out | refine bS_ ?_ GE102.out) | exact HB.out)) hb); have n3_ := Az0.mk (hbox); have n4_ := Az0.mk ((by rw [hg]; exact (bZ_ (by repeat (first | (with_reducible first | exact HB.out | refine Up1.w ?_ | refine bS_ ?_ GE101.out | refine bS_ ?_ GE102.out) | exact HB.out))) : w.heap.size ≤ gb103)); have n5_ := Az0.mk ((by rw [hg]; exact (bZ_ (by repeat (first | (with_reducible first | exact HB.out | refine Up1.w ?_ | refine bS_ ?_ GE101.out | refine bS_ ?_ GE102.out) | exact HB.out))) : w.heap.size ≤ gb103)); have n6_ := Az0.mk ((by rw [hg]; exact Nat.ne_of_lt (bL_ (g := gb101) (o := .cells #[.bool a0_0, .slice A0_1 l0_1.length c0_1, .bool a0_2, .slice A0_3 l0_3.length c0_3] 77 (0, 0)) (by refine Ups.b ?_; exact BK101.out)) : gb101 ≠ gb103)); have n7_ := Az0.mk ((by rw [hg]; exact Nat.ne_of_gt (bL_ (g := gb101) (o := .cells #[.bool a0_0, .slice A0_1 l0_1.length c0_1, .bool a0_2, .slice A0_3 l0_3.length c0_3] 77 (0, 0)) (by refine Ups.b ?_; exact BK101.out)) : gb103 ≠ gb101)); have n8_ := Az0.mk ((by rw [hg]; exact Nat.ne_of_lt (bL_ (g := gb102) (o := .cells #[.bool a1_0, .slice A1_1 l1_1.length c1_1, .bool a1_2, .slice A1_3 l1_3.length c1_3] 77 (0, 0)) (by refine Ups.b ?_; exact BK102.out)) : gb102 ≠ gb103)); have n9_ := Az0.mk ((by rw [hg]; exact Nat.ne_of_gt (bL_ (g := gb102) (o := .cells #[.bool a1_0, .slice A1_1 l1_1.length c1_1, .bool a1_2, .slice A1_3 l1_3.length c1_3] 77 (0, 0)) (by refine Ups.b ?_; exact BK102.out)) : gb103 ≠ gb102)); clear BK101; clear BK102; clear HB; have BK101 := n0_; have BK102 := n1_; have HB := n2_; have BK103 := n3_; have GW103 := n4_; have GE103 := n5_; have NB101_103 := n6_; have NB103_101 := n7_; have NB102_103 := n8_; have NB103_102 := n9_; clear n0_ n1_ n2_ n3_ n4_ n5_ n6_ n7_ n8_ n9_; clear hb hbox hg))
 have n0_ := Az0.mk (bW_ BK101.out)
 have n1_ := Az0.mk (bW_ BK102.out)
 have n2_ := Az0.mk (bW_ BK103.out)
 have n3_ := Az0.mk (bD1_ HB.out)
 clear BK101
 clear BK102
 clear BK103
 clear HB
 have BK101 := n0_
 have BK102 := n1_
 have BK103 := n2_
 have HB := n3_
 clear n0_ n1_ n2_ n3_
 refine start_ (n := 12) (S := fun w' => w'.cell? ⟨gb101, 0, none⟩ = some (.bool a0_0) ∧ w'.cell? ⟨gb101, 1, none⟩ = some (.slice A0_1 l0_1.length c0_1) ∧ w'.cell? ⟨gb101, 2, none⟩ = some (.bool a0_2) ∧ w'.cell? ⟨gb101, 3, none⟩ = some (.slice A0_3 l0_3.length c0_3) ∧ w'.cell? ⟨gb102, 0, none⟩ = some (.bool a1_0) ∧ w'.cell? ⟨gb102, 1, none⟩ = some (.slice A1_1 l1_1.length c1_1) ∧ w'.cell? ⟨gb102, 2, none⟩ = some (.bool a1_2) ∧ w'.cell? ⟨gb102, 3, none⟩ = some (.slice A1_3 l1_3.length c1_3)) (ds := []) #[false, false, false, false, false, false, false, false, false, false, false, false] (by kernel_rfl) rfl rfl ⟨(bkC BK101.out 0).trans rfl, (bkC BK101.out 1).trans rfl, (bkC BK101.out 2).trans rfl, (bkC BK101.out 3).trans rfl, (bkC BK102.out 0).trans rfl, (bkC BK102.out 1).trans rfl, (bkC BK102.out 2).trans rfl, (bkC BK102.out 3).trans rfl⟩ (fun hHeld => ?_); refine with_tabW trishawref01_Mul.tab1 trishawref01_Mul.bits1 (fun HT_ HW_ => ?_)
 generalize w8.drew = w9 at BK101 BK102 BK103 HB hHeld ⊢
 refine pure_ (i := 0) (N := some 5) (v := ?_) (a' := ?_) #[true, false, false, false, false, false, false, false, false, false, false, false] rfl rfl (any_of HT_.out (by kernel_rfl)) (fun _ _ _ h => h) (Or.inl ⟨by rfl, ?_⟩) ?_ ?_
 rotate_left
 ·intro w'
  go_simp
  with_reducible rfl
 rotate_left
 ·simp only [Act.put, Ups.sA, Ups.sZ, Ups.sS, i64_w, i32_w]
  rfl
 refine pure_ (i := 2) (N := some 7) (v := ?_) (a' := ?_) #[true, false, true, false, false, false, false, false, false, false, false, false] rfl rfl (any_of HT_.out (by kernel_rfl)) (fun _ _ _ h => h) (Or.inl ⟨by rfl, ?_⟩) ?_ ?_
 rotate_left
 ·intro w'
  go_simp
  with_reducible rfl
 rotate_left
 ·simp only [Act.put, Ups.sA, Ups.sZ, Ups.sS, i64_w, i32_w]
  rfl
 refine pure_ (i := 5) (N := some 10) (v := ?_) (a' := ?_) #[true, false, true, false, false, true, false, false, false, false, false, false] rfl rfl (any_of HT_.out (by kernel_rfl)) (fun _ _ _ h => h) (Or.inl ⟨by rfl, ?_⟩) ?_ ?_
 rotate_left
 ·intro w'
  go_simp
  with_reducible rfl
 rotate_left
 ·simp only [Act.put, Ups.sA, Ups.sZ, Ups.sS, i64_w, i32_w]
  rfl
 refine pure_ (i := 7) (N := some 12) (v := ?_) (a' := ?_) #[true, false, true, false, false, true, false, true, false, false, false, false] rfl rfl (any_of HT_.out (by kernel_rfl)) (fun _ _ _ h => h) (Or.inl ⟨by rfl, ?_⟩) ?_ ?_
 rotate_left
 ·intro w'
  go_simp
  with_reducible rfl
 rotate_left
 ·simp only [Act.put, Ups.sA, Ups.sZ, Ups.sS, i64_w, i32_w]
  rfl
 refine take_ (i := 1) (N := some 6) (v := ?_) (a' := ?_) #[true, true, true, false, false, true, false, true, false, false, false, false] rfl rfl (take_ofW HT_.out HW_.out (by kernel_rfl)) (fun _ _ _ h => h) (Or.inl ⟨by rfl, ?_⟩) hHeld ?_ ?_
 rotate_left
 ·rintro w' ⟨s0, s1, s2, s3, s4, s5, s6, s7⟩
  go_simp
  with_reducible rfl
 rotate_left
 ·simp only [Act.put, Ups.sA, Ups.sZ, Ups.sS, i64_w, i32_w]
  rfl
 refine take_ (i := 3) (N := some 8) (v := ?_) (a' := ?_) #[true, true, true, true, false, true, false, true, false, false, false, false] rfl rfl (take_ofW HT_.out HW_.out (by kernel_rfl)) (fun _ _ _ h => h) (Or.inl ⟨by rfl, ?_⟩) hHeld ?_ ?_
 rotate_left
 ·rintro w' ⟨s0, s1, s2, s3, s4, s5, s6, s7⟩
  go_simp
  with_reducible rfl
 rotate_left
 ·simp only [Act.put, Ups.sA, Ups.sZ, Ups.sS, i64_w, i32_w]
  rfl
 refine take_ (i := 6) (N := some 11) (v := ?_) (a' := ?_) #[true, true, true, true, false, true, true, true, false, false, false, false] rfl rfl (take_ofW HT_.out HW_.out (by kernel_rfl)) (fun _ _ _ h => h) (Or.inl ⟨by rfl, ?_⟩) hHeld ?_ ?_
 rotate_left
 ·rintro w' ⟨s0, s1, s2, s3, s4, s5, s6, s7⟩
  go_simp
  with_reducible rfl
 rotate_left
 ·simp only [Act.put, Ups.sA, Ups.sZ, Ups.sS, i64_w, i32_w]
  rfl
 refine take_ (i := 8) (N := some 13) (v := ?_) (a' := ?_) #[true, true, true, true, false, true, true, true, true, false, false, false] rfl rfl (take_ofW HT_.out HW_.out (by kernel_rfl)) (fun _ _ _ h => h) (Or.inl ⟨by rfl, ?_⟩) hHeld ?_ ?_
 rotate_left
 ·rintro w' ⟨s0, s1, s2, s3, s4, s5, s6, s7⟩
  go_simp
  with_reducible rfl
 rotate_left
 ·simp only [Act.put, Ups.sA, Ups.sZ, Ups.sS, i64_w, i32_w]
  rfl
 refine one_ (i := 4) (N := some 9) #[true, true, true, true, true, true, true, true, true, false, false, false] rfl rfl (one_of HT_.out (by kernel_rfl)) (by decide) (fun K hK => ?_)
 refine goes_ Try.func85 (by kernel_rfl) rfl #[.agg #[.bool a0_0, .slice A0_1 l0_1.length c0_1], .agg #[.bool a1_0, .slice A1_1 l1_1.length c1_1]] (by rfl) rfl rfl (by (try simp only [List.map_toArray, List.map_cons, List.map_nil]); first | done | rfl | (simp only [List.length_drop, List.length_take]; rfl)) ?_
 with_reducible refine (trishawref01_Times.calls k a0_0 _ _ l0_1 a1_0 _ _ l1_1 t104 t105 _ ?side1 ?side2 ?side3 ?side4 A3.out).mono ?_
 (case side1 => repeat (first | exact (Kd.C_below HR0_1.out HB.out) | refine Up1.c ?_))
 (case side2 => exact HC0_1.out)
 (case side3 => repeat (first | exact (Kd.C_below HR1_1.out HB.out) | refine Up1.c ?_))
 (case side4 => exact HC1_1.out)
 rintro e w10 ⟨v106, rfl, ho0, hb⟩
 refine ⟨_, rfl, ?_⟩
 have n0_ := Az0.mk (Kd.R_lower ho0 (bZ_ (by repeat (first | (with_reducible first | exact HB.out | refine Up1.w ?_ | refine bS_ ?_ GE101.out | refine bS_ ?_ GE102.out | refine bS_ ?_ GE103.out) | exact HB.out))))
 have n1_ := Az0.mk (bB_ (g := gb101) (o := .cells #[.bool a0_0, .slice A0_1 l0_1.length c0_1, .bool a0_2, .slice A0_3 l0_3.length c0_3] 77 (0, 0)) (by refine Ups.b ?_; exact BK101.out) hb)
 have n2_ := Az0.mk (bB_ (g := gb102) (o := .cells #[.bool a1_0, .slice A1_1 l1_1.length c1_1, .bool a1_2, .slice A1_3 l1_3.length c1_3] 77 (0, 0)) (by refine Ups.b ?_; exact BK102.out) hb)
 have n3_ := Az0.mk (bB_ (g := gb103) (o := .cells #[.bool false, .slice none 0 0, .bool false, .slice none 0 0] 77 (0, 0)) (by refine Ups.b ?_; exact BK103.out) hb)
 have n4_ := Az0.mk (bP_ (by repeat (first | (with_reducible first | exact HB.out | refine Up1.w ?_ | refine bS_ ?_ GE101.out | refine bS_ ?_ GE102.out | refine bS_ ?_ GE103.out) | exact HB.out)) hb)
 clear BK101
 clear BK102
 clear BK103
 clear HB
 have HO107 := n0_
 have BK101 := n1_
 have BK102 := n2_
 have BK103 := n3_
 have HB := n4_
 clear n0_ n1_ n2_ n3_ n4_
 (try clear hb)
 (try clear hb2)
 (try clear hk)
 (try clear hi)
 (try clear ho0)
 refine hK.out _ _ ⟨(bkC BK101.out 0).trans rfl, (bkC BK101.out 1).trans rfl, (bkC BK101.out 2).trans rfl, (bkC BK101.out 3).trans rfl, (bkC BK102.out 0).trans rfl, (bkC BK102.out 1).trans rfl, (bkC BK102.out 2).trans rfl, (bkC BK102.out 3).trans rfl⟩ (fun hHeld => ?_)
 clear hK K
 refine norm_ (a' := ?_) ?_ ?_
 rotate_left
 ·show Act.put _ (some 9) _ = _
  simp only [Act.put, Ups.sA, Ups.sZ, Ups.sS, i64_w, i32_w]
  rfl
 refine one_ (i := 9) (N := some 14) #[true, true, true, true, true, true, true, true, true, true, false, false] rfl rfl (one_of HT_.out (by kernel_rfl)) (by decide) (fun K hK => ?_)
 refine goes_ Try.func85 (by kernel_rfl) rfl #[.agg #[.bool a0_2, .slice A0_3 l0_3.length c0_3], .agg #[.bool a1_2, .slice A1_3 l1_3.length c1_3]] (by rfl) rfl rfl (by (try simp only [List.map_toArray, List.map_cons, List.map_nil]); first | done | rfl | (simp only [List.length_drop, List.length_take]; rfl)) ?_
 with_reducible refine (trishawref01_Times.calls k a0_2 _ _ l0_3 a1_2 _ _ l1_3 t108 t109 _ ?side1 ?side2 ?side3 ?side4 A4.out).mono ?_
 (case side1 => repeat (first | exact (Kd.C_below HR0_3.out HB.out) | refine Up1.c ?_))
 (case side2 => exact HC0_3.out)
 (case side3 => repeat (first | exact (Kd.C_below HR1_3.out HB.out) | refine Up1.c ?_))
 (case side4 => exact HC1_3.out)
 rintro e w11 ⟨v110, rfl, ho0, hb⟩
 refine ⟨_, rfl, ?_⟩
 have n0_ := Az0.mk (Kd.R_elder' (by (repeat refine Up1.r ?_); exact HO107.out) (Kd.rB_ ho0) hb)
 have n1_ := Az0.mk (Kd.R_lower (Kd.R_new' ho0 (Kd.R_lt (by (repeat refine Up1.r ?_); exact HO107.out))) (bZ_ (by repeat (first | (with_reducible first | exact HB.out | refine Up1.w ?_ | refine bS_ ?_ GE101.out | refine bS_ ?_ GE102.out | refine bS_ ?_ GE103.out) | exact HB.out))))
 have n2_ := Az0.mk (bB_ (g := gb101) (o := .cells #[.bool a0_0, .slice A0_1 l0_1.length c0_1, .bool a0_2, .slice A0_3 l0_3.length c0_3] 77 (0, 0)) (by refine Ups.b ?_; exact BK101.out) hb)
 have n3_ := Az0.mk (bB_ (g := gb102) (o := .cells #[.bool a1_0, .slice A1_1 l1_1.length c1_1, .bool a1_2, .slice A1_3 l1_3.length c1_3] 77 (0, 0)) (by refine Ups.b ?_; exact BK102.out) hb)
 have n4_ := Az0.mk (bB_ (g := gb103) (o := .cells #[.bool false, .slice none 0 0, .bool false, .slice none 0 0] 77 (0, 0)) (by refine Ups.b ?_; exact BK103.out) hb)
 have n5_ := Az0.mk (bP_ (by repeat (first | (with_reducible first | exact HB.out | refine Up1.w ?_ | refine bS_ ?_ GE101.out | refine bS_ ?_ GE102.out | refine bS_ ?_ GE103.out) | exact HB.out)) hb)
 clear HO107
 clear BK101
 clear BK102
 clear BK103
 clear HB
 have HO107 := n0_
 have HO111 := n1_
 have BK101 := n2_
 have BK102 := n3_
 have BK103 := n4_
 have HB := n5_
 clear n0_ n1_ n2_ n3_ n4_ n5_
 (try clear hb)
 (try clear hb2)
 (try clear hk)
 (try clear hi)
 (try clear ho0)
 obtain ⟨Ao12, co12, eo12⟩ := Kd.R_slice HO107.out
 (first | subst eo12 | (injection eo12 with f1_ f2_ f3_; have f4_ := f1_.symm; have f5_ := f3_.symm; clear f1_ f2_ f3_; subst f4_; subst f5_))
 obtain ⟨Ao13, co13, eo13⟩ := Kd.R_slice HO111.out
 (first | subst eo13 | (injection eo13 with f1_ f2_ f3_; have f4_ := f1_.symm; have f5_ := f3_.symm; clear f1_ f2_ f3_; subst f4_; subst f5_))
 refine hK.out _ _ ⟨(bkC BK101.out 0).trans rfl, (bkC BK101.out 1).trans rfl, (bkC BK101.out 2).trans rfl, (bkC BK101.out 3).trans rfl, (bkC BK102.out 0).trans rfl, (bkC BK102.out 1).trans rfl, (bkC BK102.out 2).trans rfl, (bkC BK102.out 3).trans rfl⟩ (fun hHeld => ?_)
 clear hK K
 refine norm_ (a' := ?_) ?_ ?_
 rotate_left
 ·show Act.put _ (some 14) _ = _
  simp only [Act.put, Ups.sA, Ups.sZ, Ups.sS, i64_w, i32_w]
  rfl
 refine one_ (i := 10) (N := some 15) #[true, true, true, true, true, true, true, true, true, true, true, false] rfl rfl (one_of HT_.out (by kernel_rfl)) (by decide) (fun K hK => ?_)
 refine goes_ Try.func84 (by kernel_rfl) rfl #[.agg #[.bool t104, .slice Ao12 t105.length co12], .agg #[.bool t108, .slice Ao13 t109.length co13]] (by rfl) rfl rfl (by (try simp only [List.map_toArray, List.map_cons, List.map_nil]); first | done | rfl | (simp only [List.length_drop, List.length_take]; rfl)) ?_
 with_reducible refine (rLo.calls k t104 _ _ t105 t108 _ _ t109 t112 t113 t116 t117 _ ?side1 ?side2 ?side3 ?side4 A5.out).mono ?_
 (case side1 => repeat (first | exact (Kd.R_reads' HO107.out).2.2 | refine Up1.c ?_))
 (case side2 => exact (Kd.R_reads' HO107.out).2.1)
 (case side3 => repeat (first | exact (Kd.R_reads' HO111.out).2.2 | refine Up1.c ?_))
 (case side4 => exact (Kd.R_reads' HO111.out).2.1)
 rintro e w14 ⟨v114, v118, rfl, ho0, ho1, hb⟩
 refine ⟨_, rfl, ?_⟩
 have n0_ := Az0.mk (Kd.rM_ (Kd.R_told (Kd.R_told (Kd.R_old (by (repeat refine Up1.r ?_); exact HO107.out) hb) (Kd.rB_ ho0)) (Kd.rB_ ho1)) (fun _ h_ => h_.1))
 have n1_ := Az0.mk (Kd.rM_ (Kd.R_told (Kd.R_told (Kd.R_old (by (repeat refine Up1.r ?_); exact HO111.out) hb) (Kd.rB_ ho0)) (Kd.rB_ ho1)) (fun _ h_ => h_.1))
 have n2_ := Az0.mk (Kd.R_lower (Kd.R_new' (Kd.R_new' ho0 (Kd.R_lt (by (repeat refine Up1.r ?_); exact HO107.out))) (Kd.R_lt (by (repeat refine Up1.r ?_); exact HO111.out))) (bZ_ (by repeat (first | (with_reducible first | exact HB.out | refine Up1.w ?_ | refine bS_ ?_ GE101.out | refine bS_ ?_ GE102.out | refine bS_ ?_ GE103.out) | exact HB.out))))
 have n3_ := Az0.mk (Kd.R_lower (Kd.R_new' (Kd.R_new' ho1 (Kd.R_lt (by (repeat refine Up1.r ?_); exact HO107.out))) (Kd.R_lt (by (repeat refine Up1.r ?_); exact HO111.out))) (bZ_ (by repeat (first | (with_reducible first | exact HB.out | refine Up1.w ?_ | refine bS_ ?_ GE101.out | refine bS_ ?_ GE102.out | refine bS_ ?_ GE103.out) | exact HB.out))))
 have n4_ := Az0.mk (bB_ (g := gb101) (o := .cells #[.bool a0_0, .slice A0_1 l0_1.length c0_1, .bool a0_2, .slice A0_3 l0_3.length c0_3] 77 (0, 0)) (by refine Ups.b ?_; exact BK101.out) hb)
 have n5_ := Az0.mk (bB_ (g := gb102) (o := .cells #[.bool a1_0, .slice A1_1 l1_1.length c1_1, .bool a1_2, .slice A1_3 l1_3.length c1_3] 77 (0, 0)) (by refine Ups.b ?_; exact BK102.out) hb)
 have n6_ := Az0.mk (bB_ (g := gb103) (o := .cells #[.bool false, .slice none 0 0, .bool false, .slice none 0 0] 77 (0, 0)) (by refine Ups.b ?_; exact BK103.out) hb)
 have n7_ := Az0.mk (bP_ (by repeat (first | (with_reducible first | exact HB.out | refine Up1.w ?_ | refine bS_ ?_ GE101.out | refine bS_ ?_ GE102.out | refine bS_ ?_ GE103.out) | exact HB.out)) hb)
 clear HO107
 clear HO111
 clear BK101
 clear BK102
 clear BK103
 clear HB
 have HO107 := n0_
 have HO111 := n1_
 have HO115 := n2_
 have HO119 := n3_
 have BK101 := n4_
 have BK102 := n5_
 have BK103 := n6_
 have HB := n7_
 clear n0_ n1_ n2_ n3_ n4_ n5_ n6_ n7_
 (try clear hb)
 (try clear hb2)
 (try clear hk)
 (try clear hi)
 (try clear ho0)
 (try clear ho1)
 obtain ⟨Ao16, co16, eo16⟩ := Kd.R_slice HO115.out
 (first | subst eo16 | (injection eo16 with f1_ f2_ f3_; have f4_ := f1_.symm; have f5_ := f3_.symm; clear f1_ f2_ f3_; subst f4_; subst f5_))
 obtain ⟨Ao19, co19, eo19⟩ := Kd.R_slice HO119.out
 (first | subst eo19 | (injection eo19 with f1_ f2_ f3_; have f4_ := f1_.symm; have f5_ := f3_.symm; clear f1_ f2_ f3_; subst f4_; subst f5_))
 refine hK.out _ _ ⟨(bkC BK101.out 0).trans rfl, (bkC BK101.out 1).trans rfl, (bkC BK101.out 2).trans rfl, (bkC BK101.out 3).trans rfl, (bkC BK102.out 0).trans rfl, (bkC BK102.out 1).trans rfl, (bkC BK102.out 2).trans rfl, (bkC BK102.out 3).trans rfl⟩ (fun hHeld => ?_)
 clear hK K
 refine norm_ (a' := ?_) ?_ ?_
 rotate_left
 ·show Act.put _ (some 15) _ = _
  simp only [Act.put, Ups.sA, Ups.sZ, Ups.sS, i64_w, i32_w]
  rfl
 refine one_ (i := 11) (N := none) #[true, true, true, true, true, true, true, true, true, true, true, true] rfl rfl (one_of HT_.out (by kernel_rfl)) (by decide) (fun K hK => ?_)
 have hs15 : w14.cell? ⟨gb103, 0, none⟩ = some (.bool false) := (bkC BK103.out 0).trans rfl
 have hfs15 := bF_ BK103.out 0
 have hns15_0 := NB101_103.out
 have hns15_1 := NB102_103.out
 have hms15_0 := NB103_101.out
 have hms15_1 := NB103_102.out
 have hs17 : w14.cell? ⟨gb103, 1, none⟩ = some (.slice none 0 0) := (bkC BK103.out 1).trans rfl
 have hfs17 := bF_ BK103.out 1
 have hns17_0 := NB101_103.out
 have hns17_1 := NB102_103.out
 have hms17_0 := NB103_101.out
 have hms17_1 := NB103_102.out
 have hs18 : w14.cell? ⟨gb103, 2, none⟩ = some (.bool false) := (bkC BK103.out 2).trans rfl
 have hfs18 := bF_ BK103.out 2
 have hns18_0 := NB101_103.out
 have hns18_1 := NB102_103.out
 have hms18_0 := NB103_101.out
 have hms18_1 := NB103_102.out
 have hs20 : w14.cell? ⟨gb103, 3, none⟩ = some (.slice none 0 0) := (bkC BK103.out 3).trans rfl
 have hfs20 := bF_ BK103.out 3
 have hns20_0 := NB101_103.out
 have hns20_1 := NB102_103.out
 have hms20_0 := NB103_101.out
 have hms20_1 := NB103_102.out
 refine skip_ (w1 := ?_) (by rfl) rfl ?_ ?_
 rotate_left
 ·go_simp
  rfl
 refine hK.out _ _ ⟨((cell_far (p := ⟨gb103, _, none⟩) NB101_103.out _).trans (((cell_far (p := ⟨gb103, _, none⟩) NB101_103.out _).trans (((cell_far (p := ⟨gb103, _, none⟩) NB101_103.out _).trans (((cell_far (p := ⟨gb103, _, none⟩) NB101_103.out _).trans (hHeld.1)))))))), ((cell_far (p := ⟨gb103, _, none⟩) NB101_103.out _).trans (((cell_far (p := ⟨gb103, _, none⟩) NB101_103.out _).trans (((cell_far (p := ⟨gb103, _, none⟩) NB101_103.out _).trans (((cell_far (p := ⟨gb103, _, none⟩) NB101_103.out _).trans (hHeld.2.1)))))))), ((cell_far (p := ⟨gb103, _, none⟩) NB101_103.out _).trans (((cell_far (p := ⟨gb103, _, none⟩) NB101_103.out _).trans (((cell_far (p := ⟨gb103, _, none⟩) NB101_103.out _).trans (((cell_far (p := ⟨gb103, _, none⟩) NB101_103.out _).trans (hHeld.2.2.1)))))))), ((cell_far (p := ⟨gb103, _, none⟩) NB101_103.out _).trans (((cell_far (p := ⟨gb103, _, none⟩) NB101_103.out _).trans (((cell_far (p := ⟨gb103, _, none⟩) NB101_103.out _).trans (((cell_far (p := ⟨gb103, _, none⟩) NB101_103.out _).trans (hHeld.2.2.2.1)))))))), ((cell_far (p := ⟨gb103, _, none⟩) NB102_103.out _).trans (((cell_far (p := ⟨gb103, _, none⟩) NB102_103.out _).trans (((cell_far (p := ⟨gb103, _, none⟩) NB102_103.out _).trans (((cell_far (p := ⟨gb103, _, none⟩) NB102_103.out _).trans (hHeld.2.2.2.2.1)))))))), ((cell_far (p := ⟨gb103, _, none⟩) NB102_103.out _).trans (((cell_far (p := ⟨gb103, _, none⟩) NB102_103.out _).trans (((cell_far (p := ⟨gb103, _, none⟩) NB102_103.out _).trans (((cell_far (p := ⟨gb103, _, none⟩) NB102_103.out _).trans (hHeld.2.2.2.2.2.1)))))))), ((cell_far (p := ⟨gb103, _, none⟩) NB102_103.out _).trans (((cell_far (p := ⟨gb103, _, none⟩) NB102_103.out _).trans (((cell_far (p := ⟨gb103, _, none⟩) NB102_103.out _).trans (((cell_far (p := ⟨gb103, _, none⟩) NB102_103.out _).trans (hHeld.2.2.2.2.2.2.1)))))))), ((cell_far (p := ⟨gb103, _, none⟩) NB102_103.out _).trans (((cell_far (p := ⟨gb103, _, none⟩) NB102_103.out _).trans (((cell_far (p := ⟨gb103, _, none⟩) NB102_103.out _).trans (((cell_far (p := ⟨gb103, _, none⟩) NB102_103.out _).trans (hHeld.2.2.2.2.2.2.2))))))))⟩ (fun hHeld => ?_)
 clear hK K
 refine done_ (done_of HT_.out (by kernel_rfl)) ?_
 try go_wp2
 refine bodyPost_ret (results_cell_row rfl _ _ gb103 77 #[.bool t112, .slice Ao16 t113.length co16, .bool t116, .slice Ao19 t117.length co19] (0, 0) _ rfl (by refine Ups.b ?_; refine blk_put (cs := #[.bool t112, .slice Ao16 t113.length co16, .bool t116, .slice none 0 0]) ?_ 3 _ rfl; refine Ups.b ?_; refine blk_put (cs := #[.bool t112, .slice Ao16 t113.length co16, .bool false, .slice none 0 0]) ?_ 2 _ rfl; refine Ups.b ?_; refine blk_put (cs := #[.bool t112, .slice none 0 0, .bool false, .slice none 0 0]) ?_ 1 _ rfl; refine Ups.b ?_; refine blk_put (cs := #[.bool false, .slice none 0 0, .bool false, .slice none 0 0]) ?_ 0 _ rfl; refine Ups.b ?_; exact BK103.out) Try.underlying77 rfl (by kernel_rfl)) rfl ?_
 exact ⟨_, _, by first | rfl | (simp [errW_none, errW_some] <;> rfl) | (simp [*, errW_none, errW_some] <;> rfl), by (repeat refine Up1.r ?_); exact Kd.rM_ (Kd.rF_ (p := ⟨gb103, 3, none⟩) (Kd.rF_ (p := ⟨gb103, 2, none⟩) (Kd.rF_ (p := ⟨gb103, 1, none⟩) (Kd.rF_ (p := ⟨gb103, 0, none⟩) (Kd.rY_ HO115.out BK103.out (by decide)) (fun _ hk => hk.2) (.bool t112)) (fun _ hk => hk.2) (.slice Ao16 t113.length co16)) (fun _ hk => hk.2) (.bool t116)) (fun _ hk => hk.2) (.slice Ao19 t117.length co19)) (fun _ hk => hk.1.1.1), by (repeat refine Up1.r ?_); exact Kd.rM_ (Kd.rF_ (p := ⟨gb103, 3, none⟩) (Kd.rF_ (p := ⟨gb103, 2, none⟩) (Kd.rF_ (p := ⟨gb103, 1, none⟩) (Kd.rF_ (p := ⟨gb103, 0, none⟩) (Kd.rY_ HO119.out BK103.out (by decide)) (fun _ hk => hk.2) (.bool t112)) (fun _ hk => hk.2) (.slice Ao16 t113.length co16)) (fun _ hk => hk.2) (.bool t116)) (fun _ hk => hk.2) (.slice Ao19 t117.length co19)) (fun _ hk => hk.1.1.1), by repeat (first | (with_reducible first | exact HB.out | refine Up1.w ?_ | refine bS_ ?_ GE101.out | refine bS_ ?_ GE102.out | refine bS_ ?_ GE103.out) | exact HB.out)⟩
def trishawref01_Frac.f (k : Nat) (a0 : Int) (a1 : Int) : Option (Bool × List Int × Bool × List Int) := (trishawref01_Of.f k a0).bind fun bt121 => ((trishawref01_Of.f k a1).bind fun bt125 => ((rLo.f k bt121.1 bt121.2 bt125.1 bt125.2).bind fun bt129 => (some (bt129.1, bt129.2.1, bt129.2.2.1, bt129.2.2.2))))
set_option maxHeartbeats 8000000 in
set_option maxRecDepth 100000 in
theorem trishawref01_Frac.calls (k : Nat) (a0 : Int) (a1 : Int) (r1 : Bool) (r2 : List Int) (r3 : Bool) (r4 : List Int) (w : World) (h : trishawref01_Frac.f k a0 a1 = some (r1, r2, r3, r4)) :
  Calls Try.prog 56 #[.int .i64 a0, .int .i64 a1] w fun e w' => ∃ v1_ v3_ : Value, e = .returned (.agg #[.bool r1, v1_, .bool r3, v3_]) ∧ Kd.R (Kd.int .i64) 3 w' w.heap.size (fun k_ => some k_ ≠ (v3_ : Value).ownBlock) v1_ r2 ∧ Kd.R (Kd.int .i64) 3 w' w.heap.size (fun k_ => some k_ ≠ (v1_ : Value).ownBlock) v3_ r4 ∧ Below w.heap.size w w' := by
 have hu77 := Try.underlying77
 have HB := Az0.mk (Below.refl w.heap.size w)
 have H : ((trishawref01_Of.f k a0).bind fun bt121 => ((trishawref01_Of.f k a1).bind fun bt125 => ((rLo.f k bt121.1 bt121.2 bt125.1 bt125.2).bind fun bt129 => (some (bt129.1, bt129.2.1, bt129.2.2.1, bt129.2.2.2))))) = some (r1, r2, r3, r4) := h
 clear h
 replace H := Option.bind_eq_some_iff.mp H
 obtain ⟨⟨t121, t122⟩, A30, H⟩ := H
 replace H : ((trishawref01_Of.f k a1).bind fun bt125 => ((rLo.f k t121 t122 bt125.1 bt125.2).bind fun bt129 => (some (bt129.1, bt129.2.1, bt129.2.2.1, bt129.2.2.2)))) = some (r1, r2, r3, r4) := H
 have A3 := Az0.mk A30
 clear A30
 replace H := Option.bind_eq_some_iff.mp H
 obtain ⟨⟨t125, t126⟩, A40, H⟩ := H
 replace H : ((rLo.f k t121 t122 t125 t126).bind fun bt129 => (some (bt129.1, bt129.2.1, bt129.2.2.1, bt129.2.2.2))) = some (r1, r2, r3, r4) := H
 have A4 := Az0.mk A40
 clear A40
 replace H := Option.bind_eq_some_iff.mp H
 obtain ⟨⟨t129, t130, t133, t134⟩, A50, H⟩ := H
 replace H : (some (t129, t130, t133, t134)) = some (r1, r2, r3, r4) := H
 have A5 := Az0.mk A50
 clear A50
 simp only [Option.some.injEq, Prod.mk.injEq] at H
 obtain ⟨rfl, rfl, rfl, rfl⟩ := H
 go_enter Try.func56, Try.ntmps56
 go_wp2_with (first | ((with_reducible refine gD_ (N := 4) rfl ?_); refine bE_ ?hg (N := 4) ?hd (cs := #[.bool false, .slice none 0 0, .bool false, .slice none 0 0]) (t := 77) ?hr ?_; (case hd => rfl); (case hg => rfl); (case hr => first | (go_simp; done) | (go_simp; rfl)); intro gb120 hg w6 hbox hb; have n0_ := Az0.mk (bP_ (by exact Ups.w HB.out) hb); have n1_ := Az0.mk (hbox); have n2_ := Az0.mk ((by rw [hg]; exact (bZ_ (by exact Ups.w HB.out)) : w.heap.size ≤ gb120)); have n3_ := Az0.mk ((by rw [hg]; exact (bZ_ (by exact Ups.w HB.out)) : w.heap.size ≤ gb120)); clear HB; have HB := n0_; have BK120 := n1_; have GW120 := n2_; have GE120 := n3_; clear n0_ n1_ n2_ n3_; clear hb hbox hg) | ((with_reducible refine gate_callee (f := 86) rfl ?_); refine goesL_ (some 6) rfl rfl Try.func86 (by kernel_rfl) rfl #[.int .i64 a0] rfl (by (try simp only [List.map_toArray, List.map_cons, List.map_nil]); first | done | rfl | (simp only [List.length_drop, List.length_take]; rfl)) ?_; (with_reducible refine (trishawref01_Of.calls k a0 t121 t122 _ A3.out).mono ?_); rintro e w7 ⟨v123, rfl, ho0, hb⟩; refine ⟨_, rfl, ?_⟩; have n0_ := Az0.mk (Kd.R_lower ho0 (bZ_ (by repeat (first | (with_reducible first | exact HB.out | refine Up1.w ?_ | refine bS_ ?_ GE120.out) | exact HB.out)))); have n1_ := Az0.mk (bB_ (g := gb120) (o := .cells #[.bool false, .slice none 0 0, .bool false, .slice none 0 0] 77 (0, 0)) (by refine Ups.b ?_; exact BK120.out) hb); have n2_ := Az0.mk (bP_ (by repeat (first | (with_reducible first | exact HB.out | refine Up1.w ?_ | refine bS_ ?_ GE120.out) | exact HB.out)) hb); clear BK120; clear HB; have HO124 := n0_; have BK120 := n1_; have HB := n2_; clear n0_ n1_ n2_; (try clear hb); (try clear hb2); (try clear hk); (try clear hi); (try clear ho0)) | ((with_reducible refine gate_callee (f := 86) rfl ?_); refine goesL_ (some 8) rfl rfl Try.func86 (by kernel_rfl) rfl #[.int .i64 a1] rfl (by (try simp only [List.map_toArray, List.map_cons, List.map_nil]); first | done | rfl | (simp only [List.length_drop, List.length_take]; rfl)) ?_; (with_reducible refine (trishawref01_Of.calls k a1 t125 t126 _ A4.out).mono ?_); rintro e w8 ⟨v127, rfl, ho0, hb⟩; refine ⟨_, rfl, ?_⟩; have n0_ := Az0.mk (Kd.R_elder' (by (repeat refine Up1.r ?_); exact HO124.out) (Kd.rB_ ho0) hb); have n1_ := Az0.mk (Kd.R_lower (Kd.R_new' ho0 (Kd.R_lt (by (repeat refine Up1.r ?_); exact HO124.out))) (bZ_ (by repeat (first | (with_reducible first | exact HB.out | refine Up1.w ?_ | refine bS_ ?_ GE120.out) | exact HB.out)))); have n2_ := Az0.mk (bB_ (g := gb120) (o := .cells #[.bool false, .slice none 0 0, .bool false, .slice none 0 0] 77 (0, 0)) (by refine Ups.b ?_; exact BK120.out) hb); have n3_ := Az0.mk (bP_ (by repeat (first | (with_reducible first | exact HB.out | refine Up1.w ?_ | refine bS_ ?_ GE120.out) | exact HB.out)) hb); clear HO124; clear BK120; clear HB; have HO124 := n0_; have HO128 := n1_; have BK120 := n2_; have HB := n3_; clear n0_ n1_ n2_ n3_; (try clear hb); (try clear hb2); (try clear hk); (try clear hi); (try clear ho0); obtain ⟨Ao9, co9, eo9⟩ := Kd.R_slice HO124.out; subst eo9; obtain ⟨Ao10, co10, eo10⟩ := Kd.R_slice HO128.out; subst eo10) | ((with_reducible refine gate_callee (f := 84) rfl ?_); refine goesL_ (some 9) rfl rfl Try.func84 (by kernel_rfl) rfl #[.agg #[.bool t121, .slice Ao9 t122.length co9], .agg #[.bool t125, .slice Ao10 t126.length co10]] rfl (by (try simp only [List.map_toArray, List.map_cons, List.map_nil]); first | done | rfl | (simp only [List.length_drop, List.length_take]; rfl)) ?_; (with_reducible refine (rLo.calls k t121 _ _ t122 t125 _ _ t126 t129 t130 t133 t134 _ ?side1 ?side2 ?side3 ?side4 A5.out).mono ?_); (case side1 => repeat (first | exact (Kd.R_reads' HO124.out).2.2 | refine Up1.c ?_)); (case side2 => exact (Kd.R_reads' HO124.out).2.1); (case side3 => repeat (first | exact (Kd.R_reads' HO128.out).2.2 | refine Up1.c ?_)); (case side4 => exact (Kd.R_reads' HO128.out).2.1); rintro e w11 ⟨v131, v135, rfl, ho0, ho1, hb⟩; refine ⟨_, rfl, ?_⟩; have n0_ := Az0.mk (Kd.rM_ (Kd.R_told (Kd.R_told (Kd.R_old (by (repeat refine Up1.r ?_); exact HO124.out) hb) (Kd.rB_ ho0)) (Kd.rB_ ho1)) (fun _ h_ => h_.1)); have n1_ := Az0.mk (Kd.rM_ (Kd.R_told (Kd.R_told (Kd.R_old (by (repeat refine Up1.r ?_); exact HO128.out) hb) (Kd.rB_ ho0)) (Kd.rB_ ho1)) (fun _ h_ => h_.1)); have n2_ := Az0.mk (Kd.R_lower (Kd.R_new' (Kd.R_new' ho0 (Kd.R_lt (by (repeat refine Up1.r ?_); exact HO124.out))) (Kd.R_lt (by (repeat refine Up1.r ?_); exact HO128.out))) (bZ_ (by repeat (first | (with_reducible first | exact HB.out | refine Up1.w ?_ | refine bS_ ?_ GE120.out) | exact HB.out)))); have n3_ := Az0.mk (Kd.R_lower (Kd.R_new' (Kd.R_new' ho1 (Kd.R_lt (by (repeat refine Up1.r ?_); exact HO124.out))) (Kd.R_lt (by (repeat refine Up1.r ?_); exact HO128.out))) (bZ_ (by repeat (first | (with_reducible first | exact HB.out | refine Up1.w ?_ | refine bS_ ?_ GE120.out) | exact HB.out)))); have n4_ := Az0.mk (bB_ (g := gb120) (o := .cells #[.bool false, .slice none 0 0, .bool false, .slice none 0 0] 77 (0, 0)) (by refine Ups.b ?_; exact BK120.out) hb); have n5_ := Az0.mk (bP_ (by repeat (first | (with_reducible first | exact HB.out | refine Up1.w ?_ | refine bS_ ?_ GE120.out) | exact HB.out)) hb); clear HO124; clear HO128; clear BK120; clear HB; have HO124 := n0_; have HO128 := n1_; have HO132 := n2_; have HO136 := n3_; have BK120 := n4_; have HB := n5_; clear n0_ n1_ n2_ n3_ n4_ n5_; (try clear hb); (try clear hb2); (try clear hk); (try clear hi); (try clear ho0); (try clear ho1); have hcz12_0 : w11.cell? ⟨gb120, 0, none⟩ = some (.bool false) := (bkC BK120.out 0).trans rfl; have hcz12_1 : w11.cell? ⟨gb120, 1, none⟩ = some (.slice none 0 0) := (bkC BK120.out 1).trans rfl; have hcz12_2 : w11.cell? ⟨gb120, 2, none⟩ = some (.bool false) := (bkC BK120.out 2).trans rfl; have hcz12_3 : w11.cell? ⟨gb120, 3, none⟩ = some (.slice none 0 0) := (bkC BK120.out 3).trans rfl; have hfz12_0 := bF_ BK120.out 0; have hfz12_1 := bF_ BK120.out 1; have hfz12_2 := bF_ BK120.out 2; have hfz12_3 := bF_ BK120.out 3; obtain ⟨Ao13, co13, eo13⟩ := Kd.R_slice HO132.out; subst eo13; obtain ⟨Ao14, co14, eo14⟩ := Kd.R_slice HO136.out; subst eo14))
 refine bodyPost_ret (results_cell_row rfl _ _ gb120 77 #[.bool t129, .slice Ao13 t130.length co13, .bool t133, .slice Ao14 t134.length co14] (0, 0) _ rfl (by refine Ups.b ?_; refine blk_put (cs := #[.bool t129, .slice Ao13 t130.length co13, .bool t133, .slice none 0 0]) ?_ 3 _ rfl; refine Ups.b ?_; refine blk_put (cs := #[.bool t129, .slice Ao13 t130.length co13, .bool false, .slice none 0 0]) ?_ 2 _ rfl; refine Ups.b ?_; refine blk_put (cs := #[.bool t129, .slice none 0 0, .bool false, .slice none 0 0]) ?_ 1 _ rfl; refine Ups.b ?_; refine blk_put (cs := #[.bool false, .slice none 0 0, .bool false, .slice none 0 0]) ?_ 0 _ rfl; refine Ups.b ?_; exact BK120.out) Try.underlying77 rfl (by kernel_rfl)) rfl ?_
 exact ⟨_, _, by first | rfl | (simp [errW_none, errW_some] <;> rfl) | (simp [*, errW_none, errW_some] <;> rfl), by (repeat refine Up1.r ?_); exact Kd.rM_ (Kd.rF_ (p := ⟨gb120, 3, none⟩) (Kd.rF_ (p := ⟨gb120, 2, none⟩) (Kd.rF_ (p := ⟨gb120, 1, none⟩) (Kd.rF_ (p := ⟨gb120, 0, none⟩) (Kd.rY_ HO132.out BK120.out (by decide)) (fun _ hk => hk.2) (.bool t129)) (fun _ hk => hk.2) (.slice Ao13 t130.length co13)) (fun _ hk => hk.2) (.bool t133)) (fun _ hk => hk.2) (.slice Ao14 t134.length co14)) (fun _ hk => hk.1.1.1), by (repeat refine Up1.r ?_); exact Kd.rM_ (Kd.rF_ (p := ⟨gb120, 3, none⟩) (Kd.rF_ (p := ⟨gb120, 2, none⟩) (Kd.rF_ (p := ⟨gb120, 1, none⟩) (Kd.rF_ (p := ⟨gb120, 0, none⟩) (Kd.rY_ HO136.out BK120.out (by decide)) (fun _ hk => hk.2) (.bool t129)) (fun _ hk => hk.2) (.slice Ao13 t130.length co13)) (fun _ hk => hk.2) (.bool t133)) (fun _ hk => hk.2) (.slice Ao14 t134.length co14)) (fun _ hk => hk.1.1.1), by repeat (first | (with_reducible first | exact HB.out | refine Up1.w ?_ | refine bS_ ?_ GE120.out) | exact HB.out)⟩
def trishawref01_FromRatio.f (k : Nat) (a0_0 : Int) (a0_1 : Int) : Option (Bool × List Int × Bool × List Int) := (trishawref01_Frac.f k a0_0 a0_1).bind fun bt139 => (some (bt139.1, bt139.2.1, bt139.2.2.1, bt139.2.2.2))
set_option maxHeartbeats 8000000 in
set_option maxRecDepth 100000 in
theorem trishawref01_FromRatio.calls (k : Nat) (a0_0 : Int) (a0_1 : Int) (r1 : Bool) (r2 : List Int) (r3 : Bool) (r4 : List Int) (w : World) (h : trishawref01_FromRatio.f k a0_0 a0_1 = some (r1, r2, r3, r4)) :
  Calls Try.prog 55 #[.agg #[.int .i64 a0_0, .int .i64 a0_1]] w fun e w' => ∃ v1_ v3_ : Value, e = .returned (.agg #[.bool r1, v1_, .bool r3, v3_]) ∧ Kd.R (Kd.int .i64) 3 w' w.heap.size (fun k_ => some k_ ≠ (v3_ : Value).ownBlock) v1_ r2 ∧ Kd.R (Kd.int .i64) 3 w' w.heap.size (fun k_ => some k_ ≠ (v1_ : Value).ownBlock) v3_ r4 ∧ Below w.heap.size w w' := by
 have hu28 := Try.underlying28
 have hu77 := Try.underlying77
 have HB := Az0.mk (Below.refl w.heap.size w)
 have H : ((trishawref01_Frac.f k a0_0 a0_1).bind fun bt139 => (some (bt139.1, bt139.2.1, bt139.2.2.1, bt139.2.2.2))) = some (r1, r2, r3, r4) := h
 clear h
 replace H := Option.bind_eq_some_iff.mp H
 obtain ⟨⟨t139, t140, t143, t144⟩, A20, H⟩ := H
 replace H : (some (t139, t140, t143, t144)) = some (r1, r2, r3, r4) := H
 have A2 := Az0.mk A20
 clear A20
 simp only [Option.some.injEq, Prod.mk.injEq] at H
 obtain ⟨rfl, rfl, rfl, rfl⟩ := H
 go_enter Try.func55, Try.ntmps55
 go_wp2_with (first | ((with_reducible refine gD_ (N := 1) rfl ?_); refine bE_ ?hg (N := 1) ?hd (cs := #[.int .i64 a0_0, .int .i64 a0_1]) (t := 28) ?hr ?_; (case hd => rfl); (case hg => rfl); (case hr => first | (go_simp; done) | (go_simp; rfl)); intro gb137 hg w3 hbox hb; have n0_ := Az0.mk (bP_ (by exact Ups.w HB.out) hb); have n1_ := Az0.mk (hbox); have n2_ := Az0.mk ((by rw [hg]; exact (bZ_ (by exact Ups.w HB.out)) : w.heap.size ≤ gb137)); have n3_ := Az0.mk ((by rw [hg]; exact (bZ_ (by exact Ups.w HB.out)) : w.heap.size ≤ gb137)); clear HB; have HB := n0_; have BK137 := n1_; have GW137 := n2_; have GE137 := n3_; clear n0_ n1_ n2_ n3_; clear hb hbox hg) | ((with_reducible refine gD_ (N := 2) rfl ?_); refine bE_ ?hg (N := 2) ?hd (cs := #[.bool false, .slice none 0 0, .bool false, .slice none 0 0]) (t := 77) ?hr ?_; (case hd => rfl); (case hg => rfl); (case hr => first | (go_simp; done) | (go_simp; rfl)); intro gb138 hg w4 hbox hb; have n0_ := Az0.mk (bB_ (g := gb137) (o := .cells #[.int .i64 a0_0, .int .i64 a0_1] 28 (0, 0)) (by refine Ups.b ?_; exact BK137.out) hb); have n1_ := Az0.mk (bP_ (by repeat (first | (with_reducible first | exact HB.out | refine Up1.w ?_ | refine bS_ ?_ GE137.out) | exact HB.out)) hb); have n2_ := Az0.mk (hbox); have n3_ := Az0.mk ((by rw [hg]; exact (bZ_ (by repeat (first | (with_reducible first | exact HB.out | refine Up1.w ?_ | refine bS_ ?_ GE137.out) | exact HB.out))) : w.heap.size ≤ gb138)); have n4_ := Az0.mk ((by rw [hg]; exact (bZ_ (by repeat (first | (with_reducible first | exact HB.out | refine Up1.w ?_ | refine bS_ ?_ GE137.out) | exact HB.out))) : w.heap.size ≤ gb138)); have n5_ := Az0.mk ((by rw [hg]; exact Nat.ne_of_lt (bL_ (g := gb137) (o := .cells #[.int .i64 a0_0, .int .i64 a0_1] 28 (0, 0)) (by refine Ups.b ?_; exact BK137.out)) : gb137 ≠ gb138)); have n6_ := Az0.mk ((by rw [hg]; exact Nat.ne_of_gt (bL_ (g := gb137) (o := .cells #[.int .i64 a0_0, .int .i64 a0_1] 28 (0, 0)) (by refine Ups.b ?_; exact BK137.out)) : gb138 ≠ gb137)); clear BK137; clear HB; have BK137 := n0_; have HB := n1_; have BK138 := n2_; have GW138 := n3_; have GE138 := n4_; have NB137_138 := n5_; have NB138_137 := n6_; clear n0_ n1_ n2_ n3_ n4_ n5_ n6_; clear hb hbox hg; have hnb5 := NB137_138.out; have hnc5 := NB138_137.out; have hcz6_0 : w4.cell? ⟨gb137, 0, none⟩ = some (.int .i64 a0_0) := (bkC BK137.out 0).trans rfl; have hcz6_1 : w4.cell? ⟨gb137, 1, none⟩ = some (.int .i64 a0_1) := (bkC BK137.out 1).trans rfl; have hfz6_0 := bF_ BK137.out 0; have hfz6_1 := bF_ BK137.out 1) | ((with_reducible refine gate_callee (f := 56) rfl ?_); refine goesL_ (some 7) rfl rfl Try.func56 (by kernel_rfl) rfl #[.int .i64 a0_0, .int .i64 a0_1] rfl (by (try simp only [List.map_toArray, List.map_cons, List.map_nil]); first | done | rfl | (simp only [List.length_drop, List.length_take]; rfl)) ?_; (with_reducible refine (trishawref01_Frac.calls k a0_0 a0_1 t139 t140 t143 t144 _ A2.out).mono ?_); rintro e w7 ⟨v141, v145, rfl, ho0, ho1, hb⟩; refine ⟨_, rfl, ?_⟩; have n0_ := Az0.mk (Kd.R_lower ho0 (bZ_ (by repeat (first | (with_reducible first | exact HB.out | refine Up1.w ?_ | refine bS_ ?_ GE137.out | refine bS_ ?_ GE138.out) | exact HB.out)))); have n1_ := Az0.mk (Kd.R_lower ho1 (bZ_ (by repeat (first | (with_reducible first | exact HB.out | refine Up1.w ?_ | refine bS_ ?_ GE137.out | refine bS_ ?_ GE138.out) | exact HB.out)))); have n3_ := Az0.mk (bB_ (g := gb138) (o := .cells #[.bool false, .slice none 0 0, .bool false, .slice none 0 0] 77 (0, 0)) (by refine Ups.b ?_; exact BK138.out) hb); have n4_ := Az0.mk (bP_ (by repeat (first | (with_reducible first | exact HB.out | refine Up1.w ?_ | refine bS_ ?_ GE137.out | refine bS_ ?_ GE138.out) | exact HB.out)) hb); clear BK138; clear HB; have HO142 := n0_; have HO146 := n1_; have BK138 := n3_; have HB := n4_; clear n0_ n1_ n3_ n4_; (try clear hb); (try clear hb2); (try clear hk); (try clear hi); (try clear ho0); (try clear ho1); have hcz8_0 : w7.cell? ⟨gb138, 0, none⟩ = some (.bool false) := (bkC BK138.out 0).trans rfl; have hcz8_1 : w7.cell? ⟨gb138, 1, none⟩ = some (.slice none 0 0) := (bkC BK138.out 1).trans rfl; have hcz8_2 : w7.cell? ⟨gb138, 2, none⟩ = some (.bool false) := (bkC BK138.out 2).trans rfl; have hcz8_3 : w7.cell? ⟨gb138, 3, none⟩ = some (.slice none 0 0) := (bkC BK138.out 3).trans rfl; have hfz8_0 := bF_ BK138.out 0; have hfz8_1 := bF_ BK138.out 1; have hfz8_2 := bF_ BK138.out 2; have hfz8_3 := bF_ BK138.out 3; obtain ⟨Ao9, co9, eo9⟩ := Kd.R_slice HO142.out; subst eo9; obtain ⟨Ao10, co10, eo10⟩ := Kd.R_slice HO146.out; subst eo10))
 refine bodyPost_ret (results_cell_row rfl _ _ gb138 77 #[.bool t139, .slice Ao9 t140.length co9, .bool t143, .slice Ao10 t144.length co10] (0, 0) _ rfl (by refine Ups.b ?_; refine blk_put (cs := #[.bool t139, .slice Ao9 t140.length co9, .bool t143, .slice none 0 0]) ?_ 3 _ rfl; refine Ups.b ?_; refine blk_put (cs := #[.bool t139, .slice Ao9 t140.length co9, .bool false, .slice none 0 0]) ?_ 2 _ rfl; refine Ups.b ?_; refine blk_put (cs := #[.bool t139, .slice none 0 0, .bool false, .slice none 0 0]) ?_ 1 _ rfl; refine Ups.b ?_; refine blk_put (cs := #[.bool false, .slice none 0 0, .bool false, .slice none 0 0]) ?_ 0 _ rfl; refine Ups.b ?_; exact BK138.out) Try.underlying77 rfl (by kernel_rfl)) rfl ?_
 exact ⟨_, _, by first | rfl | (simp [errW_none, errW_some] <;> rfl) | (simp [*, errW_none, errW_some] <;> rfl), by (repeat refine Up1.r ?_); exact Kd.rM_ (Kd.rF_ (p := ⟨gb138, 3, none⟩) (Kd.rF_ (p := ⟨gb138, 2, none⟩) (Kd.rF_ (p := ⟨gb138, 1, none⟩) (Kd.rF_ (p := ⟨gb138, 0, none⟩) (Kd.rY_ HO142.out BK138.out (by decide)) (fun _ hk => hk.2) (.bool t139)) (fun _ hk => hk.2) (.slice Ao9 t140.length co9)) (fun _ hk => hk.2) (.bool t143)) (fun _ hk => hk.2) (.slice Ao10 t144.length co10)) (fun _ hk => hk.1), by (repeat refine Up1.r ?_); exact Kd.rM_ (Kd.rF_ (p := ⟨gb138, 3, none⟩) (Kd.rF_ (p := ⟨gb138, 2, none⟩) (Kd.rF_ (p := ⟨gb138, 1, none⟩) (Kd.rF_ (p := ⟨gb138, 0, none⟩) (Kd.rY_ HO146.out BK138.out (by decide)) (fun _ hk => hk.2) (.bool t139)) (fun _ hk => hk.2) (.slice Ao9 t140.length co9)) (fun _ hk => hk.2) (.bool t143)) (fun _ hk => hk.2) (.slice Ao10 t144.length co10)) (fun _ hk => hk.1), by repeat (first | (with_reducible first | exact HB.out | refine Up1.w ?_ | refine bS_ ?_ GE137.out | refine bS_ ?_ GE138.out) | exact HB.out)⟩
def lLe_.f (k : Nat) (a0_0 : Int) (a0_1 : Int) (a1 : Int) (a2_0 : Int) (a2_1 : Int) (a3 : Int) : Option (Bool) := (trishawref01_FromRatio.f k a0_0 a0_1).bind fun bt149 => ((trishawref01_Frac.f k a1 1).bind fun bt157 => ((trishawref01_Mul.f k bt149.1 bt149.2.1 bt149.2.2.1 bt149.2.2.2 bt157.1 bt157.2.1 bt157.2.2.1 bt157.2.2.2).bind fun bt165 => ((trishawref01_FromRatio.f k a2_0 a2_1).bind fun bt174 => ((trishawref01_Frac.f k a3 1).bind fun bt182 => ((trishawref01_Mul.f k bt174.1 bt174.2.1 bt174.2.2.1 bt174.2.2.2 bt182.1 bt182.2.1 bt182.2.2.1 bt182.2.2.2).bind fun bt190 => ((trishawref01_Cmp.f k bt165.1 bt165.2.1 bt165.2.2.1 bt165.2.2.2 bt190.1 bt190.2.1 bt190.2.2.1 bt190.2.2.2).bind fun t199 => (some (decide (t199 < 0)))))))))
set_option maxHeartbeats 8000000 in
set_option maxRecDepth 100000 in
theorem lLe_.calls (k : Nat) (a0_0 : Int) (a0_1 : Int) (a1 : Int) (a2_0 : Int) (a2_1 : Int) (a3 : Int) (r : Bool) (w : World) (h : lLe_.f k a0_0 a0_1 a1 a2_0 a2_1 a3 = some r) :
  Calls Try.prog 23 #[.agg #[.int .i64 a0_0, .int .i64 a0_1], .int .i64 a1, .agg #[.int .i64 a2_0, .int .i64 a2_1], .int .i64 a3] w fun e w' => e = .returned (.bool r) ∧ Below w.heap.size w w' := by
 have hu28 := Try.underlying28
 have hu77 := Try.underlying77
 have HB := Az0.mk (Below.refl w.heap.size w)
 have H : ((trishawref01_FromRatio.f k a0_0 a0_1).bind fun bt149 => ((trishawref01_Frac.f k a1 1).bind fun bt157 => ((trishawref01_Mul.f k bt149.1 bt149.2.1 bt149.2.2.1 bt149.2.2.2 bt157.1 bt157.2.1 bt157.2.2.1 bt157.2.2.2).bind fun bt165 => ((trishawref01_FromRatio.f k a2_0 a2_1).bind fun bt174 => ((trishawref01_Frac.f k a3 1).bind fun bt182 => ((trishawref01_Mul.f k bt174.1 bt174.2.1 bt174.2.2.1 bt174.2.2.2 bt182.1 bt182.2.1 bt182.2.2.1 bt182.2.2.2).bind fun bt190 => ((trishawref01_Cmp.f k bt165.1 bt165.2.1 bt165.2.2.1 bt165.2.2.2 bt190.1 bt190.2.1 bt190.2.2.1 bt190.2.2.2).bind fun t199 => (some (decide (t199 < 0)))))))))) = some r := h
 clear h
 replace H := Option.bind_eq_some_iff.mp H
 obtain ⟨⟨t149, t150, t153, t154⟩, A50, H⟩ := H
 replace H : ((trishawref01_Frac.f k a1 1).bind fun bt157 => ((trishawref01_Mul.f k t149 t150 t153 t154 bt157.1 bt157.2.1 bt157.2.2.1 bt157.2.2.2).bind fun bt165 => ((trishawref01_FromRatio.f k a2_0 a2_1).bind fun bt174 => ((trishawref01_Frac.f k a3 1).bind fun bt182 => ((trishawref01_Mul.f k bt174.1 bt174.2.1 bt174.2.2.1 bt174.2.2.2 bt182.1 bt182.2.1 bt182.2.2.1 bt182.2.2.2).bind fun bt190 => ((trishawref01_Cmp.f k bt165.1 bt165.2.1 bt165.2.2.1 bt165.2.2.2 bt190.1 bt190.2.1 bt190.2.2.1 bt190.2.2.2).bind fun t199 => (some (decide (t199 < 0))))))))) = some r := H
 have A5 := Az0.mk A50
 clear A50
 replace H := Option.bind_eq_some_iff.mp H
 obtain ⟨⟨t157, t158, t161, t162⟩, A60, H⟩ := H
 replace H : ((trishawref01_Mul.f k t149 t150 t153 t154 t157 t158 t161 t162).bind fun bt165 => ((trishawref01_FromRatio.f k a2_0 a2_1).bind fun bt174 => ((trishawref01_Frac.f k a3 1).bind fun bt182 => ((trishawref01_Mul.f k bt174.1 bt174.2.1 bt174.2.2.1 bt174.2.2.2 bt182.1 bt182.2.1 bt182.2.2.1 bt182.2.2.2).bind fun bt190 => ((trishawref01_Cmp.f k bt165.1 bt165.2.1 bt165.2.2.1 bt165.2.2.2 bt190.1 bt190.2.1 bt190.2.2.1 bt190.2.2.2).bind fun t199 => (some (decide (t199 < 0)))))))) = some r := H
 have A6 := Az0.mk A60
 clear A60
 replace H := Option.bind_eq_some_iff.mp H
 obtain ⟨⟨t165, t166, t169, t170⟩, A70, H⟩ := H
 replace H : ((trishawref01_FromRatio.f k a2_0 a2_1).bind fun bt174 => ((trishawref01_Frac.f k a3 1).bind fun bt182 => ((trishawref01_Mul.f k bt174.1 bt174.2.1 bt174.2.2.1 bt174.2.2.2 bt182.1 bt182.2.1 bt182.2.2.1 bt182.2.2.2).bind fun bt190 => ((trishawref01_Cmp.f k t165 t166 t169 t170 bt190.1 bt190.2.1 bt190.2.2.1 bt190.2.2.2).bind fun t199 => (some (decide (t199 < 0))))))) = some r := H
 have A7 := Az0.mk A70
 clear A70
 replace H := Option.bind_eq_some_iff.mp H
 obtain ⟨⟨t174, t175, t178, t179⟩, A80, H⟩ := H
 replace H : ((trishawref01_Frac.f k a3 1).bind fun bt182 => ((trishawref01_Mul.f k t174 t175 t178 t179 bt182.1 bt182.2.1 bt182.2.2.1 bt182.2.2.2).bind fun bt190 => ((trishawref01_Cmp.f k t165 t166 t169 t170 bt190.1 bt190.2.1 bt190.2.2.1 bt190.2.2.2).bind fun t199 => (some (decide (t199 < 0)))))) = some r := H
 have A8 := Az0.mk A80
 clear A80
 replace H := Option.bind_eq_some_iff.mp H
 obtain ⟨⟨t182, t183, t186, t187⟩, A90, H⟩ := H
 replace H : ((trishawref01_Mul.f k t174 t175 t178 t179 t182 t183 t186 t187).bind fun bt190 => ((trishawref01_Cmp.f k t165 t166 t169 t170 bt190.1 bt190.2.1 bt190.2.2.1 bt190.2.2.2).bind fun t199 => (some (decide (t199 < 0))))) = some r := H
 have A9 := Az0.mk A90
 clear A90
 replace H := Option.bind_eq_some_iff.mp H
 obtain ⟨⟨t190, t191, t194, t195⟩, A100, H⟩ := H
 replace H : ((trishawref01_Cmp.f k t165 t166 t169 t170 t190 t191 t194 t195).bind fun t199 => (some (decide (t199 < 0)))) = some r := H
 have A10 := Az0.mk A100
 clear A100
 replace H := Option.bind_eq_some_iff.mp H
 obtain ⟨t199, A110, H⟩ := H
 replace H : (some (decide (t199 < 0))) = some r := H
 have A11 := Az0.mk A110
 clear A110
 obtain rfl := Option.some.inj H
 go_enter Try.func23, Try.ntmps23
 go_wp2_with (first | ((with_reducible refine gD_ (N := 4) rfl ?_); refine bE_ ?hg (N := 4) ?hd (cs := #[.int .i64 a0_0, .int .i64 a0_1]) (t := 28) ?hr ?_; (case hd => rfl); (case hg => rfl); (case hr => first | (go_simp; done) | (go_simp; rfl)); intro gb147 hg w12 hbox hb; have n0_ := Az0.mk (bP_ (by exact Ups.w HB.out) hb); have n1_ := Az0.mk (hbox); have n2_ := Az0.mk ((by rw [hg]; exact (bZ_ (by exact Ups.w HB.out)) : w.heap.size ≤ gb147)); have n3_ := Az0.mk ((by rw [hg]; exact (bZ_ (by exact Ups.w HB.out)) : w.heap.size ≤ gb147)); clear HB; have HB := n0_; have BK147 := n1_; have GW147 := n2_; have GE147 := n3_; clear n0_ n1_ n2_ n3_; clear hb hbox hg) | ((with_reducible refine gD_ (N := 6) rfl ?_); refine bE_ ?hg (N := 6) ?hd (cs := #[.int .i64 a2_0, .int .i64 a2_1]) (t := 28) ?hr ?_; (case hd => rfl); (case hg => rfl); (case hr => first | (go_simp; done) | (go_simp; rfl)); intro gb148 hg w13 hbox hb; have n0_ := Az0.mk (bB_ (g := gb147) (o := .cells #[.int .i64 a0_0, .int .i64 a0_1] 28 (0, 0)) (by refine Ups.b ?_; exact BK147.out) hb); have n1_ := Az0.mk (bP_ (by repeat (first | (with_reducible first | exact HB.out | refine Up1.w ?_ | refine bS_ ?_ GE147.out) | exact HB.out)) hb); have n2_ := Az0.mk (hbox); have n3_ := Az0.mk ((by rw [hg]; exact (bZ_ (by repeat (first | (with_reducible first | exact HB.out | refine Up1.w ?_ | refine bS_ ?_ GE147.out) | exact HB.out))) : w.heap.size ≤ gb148)); have n4_ := Az0.mk ((by rw [hg]; exact (bZ_ (by repeat (first | (with_reducible first | exact HB.out | refine Up1.w ?_ | refine bS_ ?_ GE147.out) | exact HB.out))) : w.heap.size ≤ gb148)); have n5_ := Az0.mk ((by rw [hg]; exact Nat.ne_of_lt (bL_ (g := gb147) (o := .cells #[.int .i64 a0_0, .int .i64 a0_1] 28 (0, 0)) (by refine Ups.b ?_; exact BK147.out)) : gb147 ≠ gb148)); have n6_ := Az0.mk ((by rw [hg]; exact Nat.ne_of_gt (bL_ (g := gb147) (o := .cells #[.int .i64 a0_0, .int .i64 a0_1] 28 (0, 0)) (by refine Ups.b ?_; exact BK147.out)) : gb148 ≠ gb147)); clear BK147; clear HB; have BK147 := n0_; have HB := n1_; have BK148 := n2_; have GW148 := n3_; have GE148 := n4_; have NB147_148 := n5_; have NB148_147 := n6_; clear n0_ n1_ n2_ n3_ n4_ n5_ n6_; clear hb hbox hg; have hnb14 := NB147_148.out; have hnc14 := NB148_147.out; have hcz15_0 : w13.cell? ⟨gb147, 0, none⟩ = some (.int .i64 a0_0) := (bkC BK147.out 0).trans rfl; have hcz15_1 : w13.cell? ⟨gb147, 1, none⟩ = some (.int .i64 a0_1) := (bkC BK147.out 1).trans rfl; have hfz15_0 := bF_ BK147.out 0; have hfz15_1 := bF_ BK147.out 1) | ((with_reducible refine gate_callee (f := 55) rfl ?_); refine goesL_ (some 12) rfl rfl Try.func55 (by kernel_rfl) rfl #[.agg #[.int .i64 a0_0, .int .i64 a0_1]] rfl (by (try simp only [List.map_toArray, List.map_cons, List.map_nil]); first | done | rfl | (simp only [List.length_drop, List.length_take]; rfl)) ?_; (with_reducible refine (trishawref01_FromRatio.calls k a0_0 a0_1 t149 t150 t153 t154 _ A5.out).mono ?_); rintro e w16 ⟨v151, v155, rfl, ho0, ho1, hb⟩; refine ⟨_, rfl, ?_⟩; have n0_ := Az0.mk (Kd.R_lower ho0 (bZ_ (by repeat (first | (with_reducible first | exact HB.out | refine Up1.w ?_ | refine bS_ ?_ GE147.out | refine bS_ ?_ GE148.out) | exact HB.out)))); have n1_ := Az0.mk (Kd.R_lower ho1 (bZ_ (by repeat (first | (with_reducible first | exact HB.out | refine Up1.w ?_ | refine bS_ ?_ GE147.out | refine bS_ ?_ GE148.out) | exact HB.out)))); have n2_ := Az0.mk (bB_ (g := gb147) (o := .cells #[.int .i64 a0_0, .int .i64 a0_1] 28 (0, 0)) (by refine Ups.b ?_; exact BK147.out) hb); have n3_ := Az0.mk (bB_ (g := gb148) (o := .cells #[.int .i64 a2_0, .int .i64 a2_1] 28 (0, 0)) (by refine Ups.b ?_; exact BK148.out) hb); have n4_ := Az0.mk (bP_ (by repeat (first | (with_reducible first | exact HB.out | refine Up1.w ?_ | refine bS_ ?_ GE147.out | refine bS_ ?_ GE148.out) | exact HB.out)) hb); clear BK147; clear BK148; clear HB; have HO152 := n0_; have HO156 := n1_; have BK147 := n2_; have BK148 := n3_; have HB := n4_; clear n0_ n1_ n2_ n3_ n4_; (try clear hb); (try clear hb2); (try clear hk); (try clear hi); (try clear ho0); (try clear ho1)) | ((with_reducible refine gate_callee (f := 56) rfl ?_); refine goesL_ (some 14) rfl rfl Try.func56 (by kernel_rfl) rfl #[.int .i64 a1, .int .i64 1] rfl (by (try simp only [List.map_toArray, List.map_cons, List.map_nil]); first | done | rfl | (simp only [List.length_drop, List.length_take]; rfl)) ?_; (with_reducible refine (trishawref01_Frac.calls k a1 1 t157 t158 t161 t162 _ A6.out).mono ?_); rintro e w17 ⟨v159, v163, rfl, ho0, ho1, hb⟩; refine ⟨_, rfl, ?_⟩; have n0_ := Az0.mk (Kd.rM_ (Kd.R_told (Kd.R_told (Kd.R_old (by (repeat refine Up1.r ?_); exact HO152.out) hb) (Kd.rB_ ho0)) (Kd.rB_ ho1)) (fun _ h_ => h_.1)); have n1_ := Az0.mk (Kd.rM_ (Kd.R_told (Kd.R_told (Kd.R_old (by (repeat refine Up1.r ?_); exact HO156.out) hb) (Kd.rB_ ho0)) (Kd.rB_ ho1)) (fun _ h_ => h_.1)); have n2_ := Az0.mk (Kd.R_lower (Kd.R_new' (Kd.R_new' ho0 (Kd.R_lt (by (repeat refine Up1.r ?_); exact HO152.out))) (Kd.R_lt (by (repeat refine Up1.r ?_); exact HO156.out))) (bZ_ (by repeat (first | (with_reducible first | exact HB.out | refine Up1.w ?_ | refine bS_ ?_ GE147.out | refine bS_ ?_ GE148.out) | exact HB.out)))); have n3_ := Az0.mk (Kd.R_lower (Kd.R_new' (Kd.R_new' ho1 (Kd.R_lt (by (repeat refine Up1.r ?_); exact HO152.out))) (Kd.R_lt (by (repeat refine Up1.r ?_); exact HO156.out))) (bZ_ (by repeat (first | (with_reducible first | exact HB.out | refine Up1.w ?_ | refine bS_ ?_ GE147.out | refine bS_ ?_ GE148.out) | exact HB.out)))); have n4_ := Az0.mk (bB_ (g := gb147) (o := .cells #[.int .i64 a0_0, .int .i64 a0_1] 28 (0, 0)) (by refine Ups.b ?_; exact BK147.out) hb); have n5_ := Az0.mk (bB_ (g := gb148) (o := .cells #[.int .i64 a2_0, .int .i64 a2_1] 28 (0, 0)) (by refine Ups.b ?_; exact BK148.out) hb); have n6_ := Az0.mk (bP_ (by repeat (first | (with_reducible first | exact HB.out | refine Up1.w ?_ | refine bS_ ?_ GE147.out | refine bS_ ?_ GE148.out) | exact HB.out)) hb); clear HO152; clear HO156; clear BK147; clear BK148; clear HB; have HO152 := n0_; have HO156 := n1_; have HO160 := n2_; have HO164 := n3_; have BK147 := n4_; have BK148 := n5_; have HB := n6_; clear n0_ n1_ n2_ n3_ n4_ n5_ n6_; (try clear hb); (try clear hb2); (try clear hk); (try clear hi); (try clear ho0); (try clear ho1); obtain ⟨Ao18, co18, eo18⟩ := Kd.R_slice HO152.out; subst eo18; obtain ⟨Ao19, co19, eo19⟩ := Kd.R_slice HO156.out; subst eo19; obtain ⟨Ao20, co20, eo20⟩ := Kd.R_slice HO160.out; subst eo20; obtain ⟨Ao21, co21, eo21⟩ := Kd.R_slice HO164.out; subst eo21) | ((with_reducible refine gate_callee (f := 54) rfl ?_); refine goesL_ (some 15) rfl rfl Try.func54 (by kernel_rfl) rfl #[.agg #[.bool t149, .slice Ao18 t150.length co18, .bool t153, .slice Ao19 t154.length co19], .agg #[.bool t157, .slice Ao20 t158.length co20, .bool t161, .slice Ao21 t162.length co21]] rfl (by (try simp only [List.map_toArray, List.map_cons, List.map_nil]); first | done | rfl | (simp only [List.length_drop, List.length_take]; rfl)) ?_; (with_reducible refine (trishawref01_Mul.calls k t149 _ _ t150 t153 _ _ t154 t157 _ _ t158 t161 _ _ t162 t165 t166 t169 t170 _ ?side1 ?side2 ?side3 ?side4 ?side5 ?side6 ?side7 ?side8 A7.out).mono ?_); (case side1 => repeat (first | exact (Kd.R_reads' HO152.out).2.2 | refine Up1.c ?_)); (case side2 => exact (Kd.R_reads' HO152.out).2.1); (case side3 => repeat (first | exact (Kd.R_reads' HO156.out).2.2 | refine Up1.c ?_)); (case side4 => exact (Kd.R_reads' HO156.out).2.1); (case side5 => repeat (first | exact (Kd.R_reads' HO160.out).2.2 | refine Up1.c ?_)); (case side6 => exact (Kd.R_reads' HO160.out).2.1); (case side7 => repeat (first | exact (Kd.R_reads' HO164.out).2.2 | refine Up1.c ?_)); (case side8 => exact (Kd.R_reads' HO164.out).2.1); rintro e w22 ⟨v167, v171, rfl, ho0, ho1, hb⟩; refine ⟨_, rfl, ?_⟩; have n0_ := Az0.mk (Kd.rM_ (Kd.R_told (Kd.R_told (Kd.R_old (by (repeat refine Up1.r ?_); exact HO152.out) hb) (Kd.rB_ ho0)) (Kd.rB_ ho1)) (fun _ h_ => h_.1)); have n1_ := Az0.mk (Kd.rM_ (Kd.R_told (Kd.R_told (Kd.R_old (by (repeat refine Up1.r ?_); exact HO156.out) hb) (Kd.rB_ ho0)) (Kd.rB_ ho1)) (fun _ h_ => h_.1)); have n2_ := Az0.mk (Kd.rM_ (Kd.R_told (Kd.R_told (Kd.R_old (by (repeat refine Up1.r ?_); exact HO160.out) hb) (Kd.rB_ ho0)) (Kd.rB_ ho1)) (fun _ h_ => h_.1)); have n3_ := Az0.mk (Kd.rM_ (Kd.R_told (Kd.R_told (Kd.R_old (by (repeat refine Up1.r ?_); exact HO164.out) hb) (Kd.rB_ ho0)) (Kd.rB_ ho1)) (fun _ h_ => h_.1)); have n4_ := Az0.mk (Kd.R_lower (Kd.R_new' (Kd.R_new' (Kd.R_new' (Kd.R_new' ho0 (Kd.R_lt (by (repeat refine Up1.r ?_); exact HO152.out))) (Kd.R_lt (by (repeat refine Up1.r ?_); exact HO156.out))) (Kd.R_lt (by (repeat refine Up1.r ?_); exact HO160.out))) (Kd.R_lt (by (repeat refine Up1.r ?_); exact HO164.out))) (bZ_ (by repeat (first | (with_reducible first | exact HB.out | refine Up1.w ?_ | refine bS_ ?_ GE147.out | refine bS_ ?_ GE148.out) | exact HB.out)))); have n5_ := Az0.mk (Kd.R_lower (Kd.R_new' (Kd.R_new' (Kd.R_new' (Kd.R_new' ho1 (Kd.R_lt (by (repeat refine Up1.r ?_); exact HO152.out))) (Kd.R_lt (by (repeat refine Up1.r ?_); exact HO156.out))) (Kd.R_lt (by (repeat refine Up1.r ?_); exact HO160.out))) (Kd.R_lt (by (repeat refine Up1.r ?_); exact HO164.out))) (bZ_ (by repeat (first | (with_reducible first | exact HB.out | refine Up1.w ?_ | refine bS_ ?_ GE147.out | refine bS_ ?_ GE148.out) | exact HB.out)))); have n6_ := Az0.mk (bB_ (g := gb147) (o := .cells #[.int .i64 a0_0, .int .i64 a0_1] 28 (0, 0)) (by refine Ups.b ?_; exact BK147.out) hb); have n7_ := Az0.mk (bB_ (g := gb148) (o := .cells #[.int .i64 a2_0, .int .i64 a2_1] 28 (0, 0)) (by refine Ups.b ?_; exact BK148.out) hb); have n8_ := Az0.mk (bP_ (by repeat (first | (with_reducible first | exact HB.out | refine Up1.w ?_ | refine bS_ ?_ GE147.out | refine bS_ ?_ GE148.out) | exact HB.out)) hb); clear HO152; clear HO156; clear HO160; clear HO164; clear BK147; clear BK148; clear HB; have HO152 := n0_; have HO156 := n1_; have HO160 := n2_; have HO164 := n3_; have HO168 := n4_; have HO172 := n5_; have BK147 := n6_; have BK148 := n7_; have HB := n8_; clear n0_ n1_ n2_ n3_ n4_ n5_ n6_ n7_ n8_; (try clear hb); (try clear hb2); (try clear hk); (try clear hi); (try clear ho0); (try clear ho1)) | ((with_reducible refine gD_ (N := 9) rfl ?_); refine bE_ ?hg (N := 9) ?hd (cs := #[.bool false, .slice none 0 0, .bool false, .slice none 0 0]) (t := 77) ?hr ?_; (case hd => rfl); (case hg => rfl); (case hr => first | (go_simp; done) | (go_simp; rfl)); intro gb173 hg w23 hbox hb; have n0_ := Az0.mk (Kd.rW_ (by (repeat refine Up1.r ?_); exact HO152.out) hb); have n1_ := Az0.mk (Kd.rW_ (by (repeat refine Up1.r ?_); exact HO156.out) hb); have n2_ := Az0.mk (Kd.rW_ (by (repeat refine Up1.r ?_); exact HO160.out) hb); have n3_ := Az0.mk (Kd.rW_ (by (repeat refine Up1.r ?_); exact HO164.out) hb); have n4_ := Az0.mk (Kd.rW_ (by (repeat refine Up1.r ?_); exact HO168.out) hb); have n5_ := Az0.mk (Kd.rW_ (by (repeat refine Up1.r ?_); exact HO172.out) hb); have n6_ := Az0.mk (bB_ (g := gb147) (o := .cells #[.int .i64 a0_0, .int .i64 a0_1] 28 (0, 0)) (by refine Ups.b ?_; exact BK147.out) hb); have n7_ := Az0.mk (bB_ (g := gb148) (o := .cells #[.int .i64 a2_0, .int .i64 a2_1] 28 (0, 0)) (by refine Ups.b ?_; exact BK148.out) hb); have n8_ := Az0.mk (bP_ (by repeat (first | (with_reducible first | exact HB.out | refine Up1.w ?_ | refine bS_ ?_ GE147.out | refine bS_ ?_ GE148.out) | exact HB.out)) hb); have n9_ := Az0.mk (hbox); have n10_ := Az0.mk ((by rw [hg]; exact (bZ_ (by repeat (first | (with_reducible first | exact HB.out | refine Up1.w ?_ | refine bS_ ?_ GE147.out | refine bS_ ?_ GE148.out) | exact HB.out))) : w.heap.size ≤ gb173)); have n11_ := Az0.mk ((by rw [hg]; exact (bZ_ (by repeat (first | (with_reducible first | exact HB.out | refine Up1.w ?_ | refine bS_ ?_ GE147.out | refine bS_ ?_ GE148.out) | exact HB.out))) : w.heap.size ≤ gb173)); have n12_ := Az0.mk ((by rw [hg]; exact Nat.ne_of_lt (bL_ (g := gb147) (o := .cells #[.int .i64 a0_0, .int .i64 a0_1] 28 (0, 0)) (by refine Ups.b ?_; exact BK147.out)) : gb147 ≠ gb173)); have n13_ := Az0.mk ((by rw [hg]; exact Nat.ne_of_gt (bL_ (g := gb147) (o := .cells #[.int .i64 a0_0, .int .i64 a0_1] 28 (0, 0)) (by refine Ups.b ?_; exact BK147.out)) : gb173 ≠ gb147)); have n14_ := Az0.mk ((by rw [hg]; exact Nat.ne_of_lt (bL_ (g := gb148) (o := .cells #[.int .i64 a2_0, .int .i64 a2_1] 28 (0, 0)) (by refine Ups.b ?_; exact BK148.out)) : gb148 ≠ gb173)); have n15_ := Az0.mk ((by rw [hg]; exact Nat.ne_of_gt (bL_ (g := gb148) (o := .cells #[.int .i64 a2_0, .int .i64 a2_1] 28 (0, 0)) (by refine Ups.b ?_; exact BK148.out)) : gb173 ≠ gb148)); clear HO152; clear HO156; clear HO160; clear HO164; clear HO168; clear HO172; clear BK147; clear BK148; clear HB; have HO152 := n0_; have HO156 := n1_; have HO160 := n2_; have HO164 := n3_; have HO168 := n4_; have HO172 := n5_; have BK147 := n6_; have BK148 := n7_; have HB := n8_; have BK173 := n9_; have GW173 := n10_; have GE173 := n11_; have NB147_173 := n12_; have NB173_147 := n13_; have NB148_173 := n14_; have NB173_148 := n15_; clear n0_ n1_ n2_ n3_ n4_ n5_ n6_ n7_ n8_ n9_ n10_ n11_ n12_ n13_ n14_ n15_; clear hb hbox hg; have hnb24 := NB173_147.out; have hnc24 := NB147_173.out; have hnb25 := NB173_148.out; have hnc25 := NB148_173.out; have hcz26_0 : w23.cell? ⟨gb173, 0, none⟩ = some (.bool false) := (bkC BK173.out 0).trans rfl; have hcz26_1 : w23.cell? ⟨gb173, 1, none⟩ = some (.slice none 0 0) := (bkC BK173.out 1).trans rfl; have hcz26_2 : w23.cell? ⟨gb173, 2, none⟩ = some (.bool false) := (bkC BK173.out 2).trans rfl; have hcz26_3 : w23.cell? ⟨gb173, 3, none⟩ = some (.slice none 0 0) := (bkC BK173.out 3).trans rfl; have hfz26_0 := bF_ BK173.out 0; have hfz26_1 := bF_ BK173.out 1; have hfz26_2 := bF_ BK173.out 2; have hfz26_3 := bF_ BK173.out 3; obtain ⟨Ao27, co27, eo27⟩ := Kd.R_slice HO168.out; subst eo27; obtain ⟨Ao28, co28, eo28⟩ := Kd.R_slice HO172.out; subst eo28; have hcz29_0 : w23.cell? ⟨gb148, 0, none⟩ = some (.int .i64 a2_0) := (bkC BK148.out 0).trans rfl; have hcz29_1 : w23.cell? ⟨gb148, 1, none⟩ = some (.int .i64 a2_1) := (bkC BK148.out 1).trans rfl; have hfz29_0 := bF_ BK148.out 0; have hfz29_1 := bF_ BK148.out 1) | ((with_reducible refine gate_callee (f := 55) rfl ?_); refine goesL_ (some 17) rfl rfl Try.func55 (by kernel_rfl) rfl #[.agg #[.int .i64 a2_0, .int .i64 a2_1]] rfl (by (try simp only [List.map_toArray, List.map_cons, List.map_nil]); first | done | rfl | (simp only [List.length_drop, List.length_take]; rfl)) ?_; (with_reducible refine (trishawref01_FromRatio.calls k a2_0 a2_1 t174 t175 t178 t179 _ A8.out).mono ?_); rintro e w30 ⟨v176, v180, rfl, ho0, ho1, hb⟩; refine ⟨_, rfl, ?_⟩; have n0_ := Az0.mk (Kd.rM_ (Kd.R_told (Kd.R_told (Kd.R_old (by (repeat refine Up1.r ?_); exact (Kd.rM_ (Kd.rF_ (p := ⟨gb173, 3, none⟩) (Kd.rF_ (p := ⟨gb173, 2, none⟩) (Kd.rF_ (p := ⟨gb173, 1, none⟩) (Kd.rF_ (p := ⟨gb173, 0, none⟩) (Kd.rY_ HO152.out BK173.out (by decide)) (fun _ hk => hk.2) (.bool t165)) (fun _ hk => hk.2) (.slice Ao27 t166.length co27)) (fun _ hk => hk.2) (.bool t169)) (fun _ hk => hk.2) (.slice Ao28 t170.length co28)) (fun _ h_ => h_.1))) hb) (Kd.rB_ ho0)) (Kd.rB_ ho1)) (fun _ h_ => h_.1)); have n1_ := Az0.mk (Kd.rM_ (Kd.R_told (Kd.R_told (Kd.R_old (by (repeat refine Up1.r ?_); exact (Kd.rM_ (Kd.rF_ (p := ⟨gb173, 3, none⟩) (Kd.rF_ (p := ⟨gb173, 2, none⟩) (Kd.rF_ (p := ⟨gb173, 1, none⟩) (Kd.rF_ (p := ⟨gb173, 0, none⟩) (Kd.rY_ HO156.out BK173.out (by decide)) (fun _ hk => hk.2) (.bool t165)) (fun _ hk => hk.2) (.slice Ao27 t166.length co27)) (fun _ hk => hk.2) (.bool t169)) (fun _ hk => hk.2) (.slice Ao28 t170.length co28)) (fun _ h_ => h_.1))) hb) (Kd.rB_ ho0)) (Kd.rB_ ho1)) (fun _ h_ => h_.1)); have n2_ := Az0.mk (Kd.rM_ (Kd.R_told (Kd.R_told (Kd.R_old (by (repeat refine Up1.r ?_); exact (Kd.rM_ (Kd.rF_ (p := ⟨gb173, 3, none⟩) (Kd.rF_ (p := ⟨gb173, 2, none⟩) (Kd.rF_ (p := ⟨gb173, 1, none⟩) (Kd.rF_ (p := ⟨gb173, 0, none⟩) (Kd.rY_ HO160.out BK173.out (by decide)) (fun _ hk => hk.2) (.bool t165)) (fun _ hk => hk.2) (.slice Ao27 t166.length co27)) (fun _ hk => hk.2) (.bool t169)) (fun _ hk => hk.2) (.slice Ao28 t170.length co28)) (fun _ h_ => h_.1))) hb) (Kd.rB_ ho0)) (Kd.rB_ ho1)) (fun _ h_ => h_.1)); have n3_ := Az0.mk (Kd.rM_ (Kd.R_told (Kd.R_told (Kd.R_old (by (repeat refine Up1.r ?_); exact (Kd.rM_ (Kd.rF_ (p := ⟨gb173, 3, none⟩) (Kd.rF_ (p := ⟨gb173, 2, none⟩) (Kd.rF_ (p := ⟨gb173, 1, none⟩) (Kd.rF_ (p := ⟨gb173, 0, none⟩) (Kd.rY_ HO164.out BK173.out (by decide)) (fun _ hk => hk.2) (.bool t165)) (fun _ hk => hk.2) (.slice Ao27 t166.length co27)) (fun _ hk => hk.2) (.bool t169)) (fun _ hk => hk.2) (.slice Ao28 t170.length co28)) (fun _ h_ => h_.1))) hb) (Kd.rB_ ho0)) (Kd.rB_ ho1)) (fun _ h_ => h_.1)); have n4_ := Az0.mk (Kd.rM_ (Kd.R_told (Kd.R_told (Kd.R_old (by (repeat refine Up1.r ?_); exact (Kd.rM_ (Kd.rF_ (p := ⟨gb173, 3, none⟩) (Kd.rF_ (p := ⟨gb173, 2, none⟩) (Kd.rF_ (p := ⟨gb173, 1, none⟩) (Kd.rF_ (p := ⟨gb173, 0, none⟩) (Kd.rY_ HO168.out BK173.out (by decide)) (fun _ hk => hk.2) (.bool t165)) (fun _ hk => hk.2) (.slice Ao27 t166.length co27)) (fun _ hk => hk.2) (.bool t169)) (fun _ hk => hk.2) (.slice Ao28 t170.length co28)) (fun _ h_ => h_.1))) hb) (Kd.rB_ ho0)) (Kd.rB_ ho1)) (fun _ h_ => h_.1)); have n5_ := Az0.mk (Kd.rM_ (Kd.R_told (Kd.R_told (Kd.R_old (by (repeat refine Up1.r ?_); exact (Kd.rM_ (Kd.rF_ (p := ⟨gb173, 3, none⟩) (Kd.rF_ (p := ⟨gb173, 2, none⟩) (Kd.rF_ (p := ⟨gb173, 1, none⟩) (Kd.rF_ (p := ⟨gb173, 0, none⟩) (Kd.rY_ HO172.out BK173.out (by decide)) (fun _ hk => hk.2) (.bool t165)) (fun _ hk => hk.2) (.slice Ao27 t166.length co27)) (fun _ hk => hk.2) (.bool t169)) (fun _ hk => hk.2) (.slice Ao28 t170.length co28)) (fun _ h_ => h_.1))) hb) (Kd.rB_ ho0)) (Kd.rB_ ho1)) (fun _ h_ => h_.1)); have n6_ := Az0.mk (Kd.R_lower (Kd.R_new' (Kd.R_new' (Kd.R_new' (Kd.R_new' (Kd.R_new' (Kd.R_new' ho0 (Kd.R_lt (by (repeat refine Up1.r ?_); exact (Kd.rM_ (Kd.rF_ (p := ⟨gb173, 3, none⟩) (Kd.rF_ (p := ⟨gb173, 2, none⟩) (Kd.rF_ (p := ⟨gb173, 1, none⟩) (Kd.rF_ (p := ⟨gb173, 0, none⟩) (Kd.rY_ HO152.out BK173.out (by decide)) (fun _ hk => hk.2) (.bool t165)) (fun _ hk => hk.2) (.slice Ao27 t166.length co27)) (fun _ hk => hk.2) (.bool t169)) (fun _ hk => hk.2) (.slice Ao28 t170.length co28)) (fun _ h_ => h_.1))))) (Kd.R_lt (by (repeat refine Up1.r ?_); exact (Kd.rM_ (Kd.rF_ (p := ⟨gb173, 3, none⟩) (Kd.rF_ (p := ⟨gb173, 2, none⟩) (Kd.rF_ (p := ⟨gb173, 1, none⟩) (Kd.rF_ (p := ⟨gb173, 0, none⟩) (Kd.rY_ HO156.out BK173.out (by decide)) (fun _ hk => hk.2) (.bool t165)) (fun _ hk => hk.2) (.slice Ao27 t166.length co27)) (fun _ hk => hk.2) (.bool t169)) (fun _ hk => hk.2) (.slice Ao28 t170.length co28)) (fun _ h_ => h_.1))))) (Kd.R_lt (by (repeat refine Up1.r ?_); exact (Kd.rM_ (Kd.rF_ (p := ⟨gb173, 3, none⟩) (Kd.rF_ (p := ⟨gb173, 2, none⟩) (Kd.rF_ (p := ⟨gb173, 1, none⟩) (Kd.rF_ (p := ⟨gb173, 0, none⟩) (Kd.rY_ HO160.out BK173.out (by decide)) (fun _ hk => hk.2) (.bool t165)) (fun _ hk => hk.2) (.slice Ao27 t166.length co27)) (fun _ hk => hk.2) (.bool t169)) (fun _ hk => hk.2) (.slice Ao28 t170.length co28)) (fun _ h_ => h_.1))))) (Kd.R_lt (by (repeat refine Up1.r ?_); exact (Kd.rM_ (Kd.rF_ (p := ⟨gb173, 3, none⟩) (Kd.rF_ (p := ⟨gb173, 2, none⟩) (Kd.rF_ (p := ⟨gb173, 1, none⟩) (Kd.rF_ (p := ⟨gb173, 0, none⟩) (Kd.rY_ HO164.out BK173.out (by decide)) (fun _ hk => hk.2) (.bool t165)) (fun _ hk => hk.2) (.slice Ao27 t166.length co27)) (fun _ hk => hk.2) (.bool t169)) (fun _ hk => hk.2) (.slice Ao28 t170.length co28)) (fun _ h_ => h_.1))))) (Kd.R_lt (by (repeat refine Up1.r ?_); exact (Kd.rM_ (Kd.rF_ (p := ⟨gb173, 3, none⟩) (Kd.rF_ (p := ⟨gb173, 2, none⟩) (Kd.rF_ (p := ⟨gb173, 1, none⟩) (Kd.rF_ (p := ⟨gb173, 0, none⟩) (Kd.rY_ HO168.out BK173.out (by decide)) (fun _ hk => hk.2) (.bool t165)) (fun _ hk => hk.2) (.slice Ao27 t166.length co27)) (fun _ hk => hk.2) (.bool t169)) (fun _ hk => hk.2) (.slice Ao28 t170.length co28)) (fun _ h_ => h_.1))))) (Kd.R_lt (by (repeat refine Up1.r ?_); exact (Kd.rM_ (Kd.rF_ (p := ⟨gb173, 3, none⟩) (Kd.rF_ (p := ⟨gb173, 2, none⟩) (Kd.rF_ (p := ⟨gb173, 1, none⟩) (Kd.rF_ (p := ⟨gb173, 0, none⟩) (Kd.rY_ HO172.out BK173.out (by decide)) (fun _ hk => hk.2) (.bool t165)) (fun _ hk => hk.2) (.slice Ao27 t166.length co27)) (fun _ hk => hk.2) (.bool t169)) (fun _ hk => hk.2) (.slice Ao28 t170.length co28)) (fun _ h_ => h_.1))))) (bZ_ (by repeat (first | (with_reducible first | exact HB.out | refine Up1.w ?_ | refine bS_ ?_ GE147.out | refine bS_ ?_ GE148.out | refine bS_ ?_ GE173.out) | exact HB.out)))); have n7_ := Az0.mk (Kd.R_lower (Kd.R_new' (Kd.R_new' (Kd.R_new' (Kd.R_new' (Kd.R_new' (Kd.R_new' ho1 (Kd.R_lt (by (repeat refine Up1.r ?_); exact (Kd.rM_ (Kd.rF_ (p := ⟨gb173, 3, none⟩) (Kd.rF_ (p := ⟨gb173, 2, none⟩) (Kd.rF_ (p := ⟨gb173, 1, none⟩) (Kd.rF_ (p := ⟨gb173, 0, none⟩) (Kd.rY_ HO152.out BK173.out (by decide)) (fun _ hk => hk.2) (.bool t165)) (fun _ hk => hk.2) (.slice Ao27 t166.length co27)) (fun _ hk => hk.2) (.bool t169)) (fun _ hk => hk.2) (.slice Ao28 t170.length co28)) (fun _ h_ => h_.1))))) (Kd.R_lt (by (repeat refine Up1.r ?_); exact (Kd.rM_ (Kd.rF_ (p := ⟨gb173, 3, none⟩) (Kd.rF_ (p := ⟨gb173, 2, none⟩) (Kd.rF_ (p := ⟨gb173, 1, none⟩) (Kd.rF_ (p := ⟨gb173, 0, none⟩) (Kd.rY_ HO156.out BK173.out (by decide)) (fun _ hk => hk.2) (.bool t165)) (fun _ hk => hk.2) (.slice Ao27 t166.length co27)) (fun _ hk => hk.2) (.bool t169)) (fun _ hk => hk.2) (.slice Ao28 t170.length co28)) (fun _ h_ => h_.1))))) (Kd.R_lt (by (repeat refine Up1.r ?_); exact (Kd.rM_ (Kd.rF_ (p := ⟨gb173, 3, none⟩) (Kd.rF_ (p := ⟨gb173, 2, none⟩) (Kd.rF_ (p := ⟨gb173, 1, none⟩) (Kd.rF_ (p := ⟨gb173, 0, none⟩) (Kd.rY_ HO160.out BK173.out (by decide)) (fun _ hk => hk.2) (.bool t165)) (fun _ hk => hk.2) (.slice Ao27 t166.length co27)) (fun _ hk => hk.2) (.bool t169)) (fun _ hk => hk.2) (.slice Ao28 t170.length co28)) (fun _ h_ => h_.1))))) (Kd.R_lt (by (repeat refine Up1.r ?_); exact (Kd.rM_ (Kd.rF_ (p := ⟨gb173, 3, none⟩) (Kd.rF_ (p := ⟨gb173, 2, none⟩) (Kd.rF_ (p := ⟨gb173, 1, none⟩) (Kd.rF_ (p := ⟨gb173, 0, none⟩) (Kd.rY_ HO164.out BK173.out (by decide)) (fun _ hk => hk.2) (.bool t165)) (fun _ hk => hk.2) (.slice Ao27 t166.length co27)) (fun _ hk => hk.2) (.bool t169)) (fun _ hk => hk.2) (.slice Ao28 t170.length co28)) (fun _ h_ => h_.1))))) (Kd.R_lt (by (repeat refine Up1.r ?_); exact (Kd.rM_ (Kd.rF_ (p := ⟨gb173, 3, none⟩) (Kd.rF_ (p := ⟨gb173, 2, none⟩) (Kd.rF_ (p := ⟨gb173, 1, none⟩) (Kd.rF_ (p := ⟨gb173, 0, none⟩) (Kd.rY_ HO168.out BK173.out (by decide)) (fun _ hk => hk.2) (.bool t165)) (fun _ hk => hk.2) (.slice Ao27 t166.length co27)) (fun _ hk => hk.2) (.bool t169)) (fun _ hk => hk.2) (.slice Ao28 t170.length co28)) (fun _ h_ => h_.1))))) (Kd.R_lt (by (repeat refine Up1.r ?_); exact (Kd.rM_ (Kd.rF_ (p := ⟨gb173, 3, none⟩) (Kd.rF_ (p := ⟨gb173, 2, none⟩) (Kd.rF_ (p := ⟨gb173, 1, none⟩) (Kd.rF_ (p := ⟨gb173, 0, none⟩) (Kd.rY_ HO172.out BK173.out (by decide)) (fun _ hk => hk.2) (.bool t165)) (fun _ hk => hk.2) (.slice Ao27 t166.length co27)) (fun _ hk => hk.2) (.bool t169)) (fun _ hk => hk.2) (.slice Ao28 t170.length co28)) (fun _ h_ => h_.1))))) (bZ_ (by repeat (first | (with_reducible first | exact HB.out | refine Up1.w ?_ | refine bS_ ?_ GE147.out | refine bS_ ?_ GE148.out | refine bS_ ?_ GE173.out) | exact HB.out)))); have n8_ := Az0.mk (bB_ (g := gb147) (o := .cells #[.int .i64 a0_0, .int .i64 a0_1] 28 (0, 0)) (by refine Ups.b ?_; refine bR_ ?_ NB147_173.out _; refine Ups.b ?_; refine bR_ ?_ NB147_173.out _; refine Ups.b ?_; refine bR_ ?_ NB147_173.out _; refine Ups.b ?_; refine bR_ ?_ NB147_173.out _; refine Ups.b ?_; exact BK147.out) hb); have n9_ := Az0.mk (bB_ (g := gb148) (o := .cells #[.int .i64 a2_0, .int .i64 a2_1] 28 (0, 0)) (by refine Ups.b ?_; refine bR_ ?_ NB148_173.out _; refine Ups.b ?_; refine bR_ ?_ NB148_173.out _; refine Ups.b ?_; refine bR_ ?_ NB148_173.out _; refine Ups.b ?_; refine bR_ ?_ NB148_173.out _; refine Ups.b ?_; exact BK148.out) hb); have n10_ := Az0.mk (bB_ (g := gb173) (o := .cells #[.bool t165, .slice Ao27 t166.length co27, .bool t169, .slice Ao28 t170.length co28] 77 (0, 0)) (by refine Ups.b ?_; refine blk_put (cs := #[.bool t165, .slice Ao27 t166.length co27, .bool t169, .slice none 0 0]) ?_ 3 _ rfl; refine Ups.b ?_; refine blk_put (cs := #[.bool t165, .slice Ao27 t166.length co27, .bool false, .slice none 0 0]) ?_ 2 _ rfl; refine Ups.b ?_; refine blk_put (cs := #[.bool t165, .slice none 0 0, .bool false, .slice none 0 0]) ?_ 1 _ rfl; refine Ups.b ?_; refine blk_put (cs := #[.bool false, .slice none 0 0, .bool false, .slice none 0 0]) ?_ 0 _ rfl; refine Ups.b ?_; exact BK173.out) hb); have n11_ := Az0.mk (bP_ (by repeat (first | (with_reducible first | exact HB.out | refine Up1.w ?_ | refine bS_ ?_ GE147.out | refine bS_ ?_ GE148.out | refine bS_ ?_ GE173.out) | exact HB.out)) hb); clear HO152; clear HO156; clear HO160; clear HO164; clear HO168; clear HO172; clear BK147; clear BK148; clear BK173; clear HB; have HO152 := n0_; have HO156 := n1_; have HO160 := n2_; have HO164 := n3_; have HO168 := n4_; have HO172 := n5_; have HO177 := n6_; have HO181 := n7_; have BK147 := n8_; have BK148 := n9_; have BK173 := n10_; have HB := n11_; clear n0_ n1_ n2_ n3_ n4_ n5_ n6_ n7_ n8_ n9_ n10_ n11_; (try clear hb); (try clear hb2); (try clear hk); (try clear hi); (try clear ho0); (try clear ho1)) | ((with_reducible refine gate_callee (f := 56) rfl ?_); refine goesL_ (some 19) rfl rfl Try.func56 (by kernel_rfl) rfl #[.int .i64 a3, .int .i64 1] rfl (by (try simp only [List.map_toArray, List.map_cons, List.map_nil]); first | done | rfl | (simp only [List.length_drop, List.length_take]; rfl)) ?_; (with_reducible refine (trishawref01_Frac.calls k a3 1 t182 t183 t186 t187 _ A9.out).mono ?_); rintro e w31 ⟨v184, v188, rfl, ho0, ho1, hb⟩; refine ⟨_, rfl, ?_⟩; have n0_ := Az0.mk (Kd.rM_ (Kd.R_told (Kd.R_told (Kd.R_old (by (repeat refine Up1.r ?_); exact HO152.out) hb) (Kd.rB_ ho0)) (Kd.rB_ ho1)) (fun _ h_ => h_.1)); have n1_ := Az0.mk (Kd.rM_ (Kd.R_told (Kd.R_told (Kd.R_old (by (repeat refine Up1.r ?_); exact HO156.out) hb) (Kd.rB_ ho0)) (Kd.rB_ ho1)) (fun _ h_ => h_.1)); have n2_ := Az0.mk (Kd.rM_ (Kd.R_told (Kd.R_told (Kd.R_old (by (repeat refine Up1.r ?_); exact HO160.out) hb) (Kd.rB_ ho0)) (Kd.rB_ ho1)) (fun _ h_ => h_.1)); have n3_ := Az0.mk (Kd.rM_ (Kd.R_told (Kd.R_told (Kd.R_old (by (repeat refine Up1.r ?_); exact HO164.out) hb) (Kd.rB_ ho0)) (Kd.rB_ ho1)) (fun _ h_ => h_.1)); have n4_ := Az0.mk (Kd.rM_ (Kd.R_told (Kd.R_told (Kd.R_old (by (repeat refine Up1.r ?_); exact HO168.out) hb) (Kd.rB_ ho0)) (Kd.rB_ ho1)) (fun _ h_ => h_.1)); have n5_ := Az0.mk (Kd.rM_ (Kd.R_told (Kd.R_told (Kd.R_old (by (repeat refine Up1.r ?_); exact HO172.out) hb) (Kd.rB_ ho0)) (Kd.rB_ ho1)) (fun _ h_ => h_.1)); have n6_ := Az0.mk (Kd.rM_ (Kd.R_told (Kd.R_told (Kd.R_old (by (repeat refine Up1.r ?_); exact HO177.out) hb) (Kd.rB_ ho0)) (Kd.rB_ ho1)) (fun _ h_ => h_.1)); have n7_ := Az0.mk (Kd.rM_ (Kd.R_told (Kd.R_told (Kd.R_old (by (repeat refine Up1.r ?_); exact HO181.out) hb) (Kd.rB_ ho0)) (Kd.rB_ ho1)) (fun _ h_ => h_.1)); have n8_ := Az0.mk (Kd.R_lower (Kd.R_new' (Kd.R_new' (Kd.R_new' (Kd.R_new' (Kd.R_new' (Kd.R_new' (Kd.R_new' (Kd.R_new' ho0 (Kd.R_lt (by (repeat refine Up1.r ?_); exact HO152.out))) (Kd.R_lt (by (repeat refine Up1.r ?_); exact HO156.out))) (Kd.R_lt (by (repeat refine Up1.r ?_); exact HO160.out))) (Kd.R_lt (by (repeat refine Up1.r ?_); exact HO164.out))) (Kd.R_lt (by (repeat refine Up1.r ?_); exact HO168.out))) (Kd.R_lt (by (repeat refine Up1.r ?_); exact HO172.out))) (Kd.R_lt (by (repeat refine Up1.r ?_); exact HO177.out))) (Kd.R_lt (by (repeat refine Up1.r ?_); exact HO181.out))) (bZ_ (by repeat (first | (with_reducible first | exact HB.out | refine Up1.w ?_ | refine bS_ ?_ GE147.out | refine bS_ ?_ GE148.out | refine bS_ ?_ GE173.out) | exact HB.out)))); have n9_ := Az0.mk (Kd.R_lower (Kd.R_new' (Kd.R_new' (Kd.R_new' (Kd.R_new' (Kd.R_new' (Kd.R_new' (Kd.R_new' (Kd.R_new' ho1 (Kd.R_lt (by (repeat refine Up1.r ?_); exact HO152.out))) (Kd.R_lt (by (repeat refine Up1.r ?_); exact HO156.out))) (Kd.R_lt (by (repeat refine Up1.r ?_); exact HO160.out))) (Kd.R_lt (by (repeat refine Up1.r ?_); exact HO164.out))) (Kd.R_lt (by (repeat refine Up1.r ?_); exact HO168.out))) (Kd.R_lt (by (repeat refine Up1.r ?_); exact HO172.out))) (Kd.R_lt (by (repeat refine Up1.r ?_); exact HO177.out))) (Kd.R_lt (by (repeat refine Up1.r ?_); exact HO181.out))) (bZ_ (by repeat (first | (with_reducible first | exact HB.out | refine Up1.w ?_ | refine bS_ ?_ GE147.out | refine bS_ ?_ GE148.out | refine bS_ ?_ GE173.out) | exact HB.out)))); have n10_ := Az0.mk (bB_ (g := gb147) (o := .cells #[.int .i64 a0_0, .int .i64 a0_1] 28 (0, 0)) (by refine Ups.b ?_; exact BK147.out) hb); have n11_ := Az0.mk (bB_ (g := gb148) (o := .cells #[.int .i64 a2_0, .int .i64 a2_1] 28 (0, 0)) (by refine Ups.b ?_; exact BK148.out) hb); have n12_ := Az0.mk (bB_ (g := gb173) (o := .cells #[.bool t165, .slice Ao27 t166.length co27, .bool t169, .slice Ao28 t170.length co28] 77 (0, 0)) (by refine Ups.b ?_; exact BK173.out) hb); have n13_ := Az0.mk (bP_ (by repeat (first | (with_reducible first | exact HB.out | refine Up1.w ?_ | refine bS_ ?_ GE147.out | refine bS_ ?_ GE148.out | refine bS_ ?_ GE173.out) | exact HB.out)) hb); clear HO152; clear HO156; clear HO160; clear HO164; clear HO168; clear HO172; clear HO177; clear HO181; clear BK147; clear BK148; clear BK173; clear HB; have HO152 := n0_; have HO156 := n1_; have HO160 := n2_; have HO164 := n3_; have HO168 := n4_; have HO172 := n5_; have HO177 := n6_; have HO181 := n7_; have HO185 := n8_; have HO189 := n9_; have BK147 := n10_; have BK148 := n11_; have BK173 := n12_; have HB := n13_; clear n0_ n1_ n2_ n3_ n4_ n5_ n6_ n7_ n8_ n9_ n10_ n11_ n12_ n13_; (try clear hb); (try clear hb2); (try clear hk); (try clear hi); (try clear ho0); (try clear ho1); obtain ⟨Ao32, co32, eo32⟩ := Kd.R_slice HO177.out; subst eo32; obtain ⟨Ao33, co33, eo33⟩ := Kd.R_slice HO181.out; subst eo33; obtain ⟨Ao34, co34, eo34⟩ := Kd.R_slice HO185.out; subst eo34; obtain ⟨Ao35, co35, eo35⟩ := Kd.R_slice HO189.out; subst eo35) | ((with_reducible refine gate_callee (f := 54) rfl ?_); refine goesL_ (some 20) rfl rfl Try.func54 (by kernel_rfl) rfl #[.agg #[.bool t174, .slice Ao32 t175.length co32, .bool t178, .slice Ao33 t179.length co33], .agg #[.bool t182, .slice Ao34 t183.length co34, .bool t186, .slice Ao35 t187.length co35]] rfl (by (try simp only [List.map_toArray, List.map_cons, List.map_nil]); first | done | rfl | (simp only [List.length_drop, List.length_take]; rfl)) ?_; (with_reducible refine (trishawref01_Mul.calls k t174 _ _ t175 t178 _ _ t179 t182 _ _ t183 t186 _ _ t187 t190 t191 t194 t195 _ ?side1 ?side2 ?side3 ?side4 ?side5 ?side6 ?side7 ?side8 A10.out).mono ?_); (case side1 => repeat (first | exact (Kd.R_reads' HO177.out).2.2 | refine Up1.c ?_)); (case side2 => exact (Kd.R_reads' HO177.out).2.1); (case side3 => repeat (first | exact (Kd.R_reads' HO181.out).2.2 | refine Up1.c ?_)); (case side4 => exact (Kd.R_reads' HO181.out).2.1); (case side5 => repeat (first | exact (Kd.R_reads' HO185.out).2.2 | refine Up1.c ?_)); (case side6 => exact (Kd.R_reads' HO185.out).2.1); (case side7 => repeat (first | exact (Kd.R_reads' HO189.out).2.2 | refine Up1.c ?_)); (case side8 => exact (Kd.R_reads' HO189.out).2.1); rintro e w36 ⟨v192, v196, rfl, ho0, ho1, hb⟩; refine ⟨_, rfl, ?_⟩; have n0_ := Az0.mk (Kd.rM_ (Kd.R_told (Kd.R_told (Kd.R_old (by (repeat refine Up1.r ?_); exact HO152.out) hb) (Kd.rB_ ho0)) (Kd.rB_ ho1)) (fun _ h_ => h_.1)); have n1_ := Az0.mk (Kd.rM_ (Kd.R_told (Kd.R_told (Kd.R_old (by (repeat refine Up1.r ?_); exact HO156.out) hb) (Kd.rB_ ho0)) (Kd.rB_ ho1)) (fun _ h_ => h_.1)); have n2_ := Az0.mk (Kd.rM_ (Kd.R_told (Kd.R_told (Kd.R_old (by (repeat refine Up1.r ?_); exact HO160.out) hb) (Kd.rB_ ho0)) (Kd.rB_ ho1)) (fun _ h_ => h_.1)); have n3_ := Az0.mk (Kd.rM_ (Kd.R_told (Kd.R_told (Kd.R_old (by (repeat refine Up1.r ?_); exact HO164.out) hb) (Kd.rB_ ho0)) (Kd.rB_ ho1)) (fun _ h_ => h_.1)); have n4_ := Az0.mk (Kd.rM_ (Kd.R_told (Kd.R_told (Kd.R_old (by (repeat refine Up1.r ?_); exact HO168.out) hb) (Kd.rB_ ho0)) (Kd.rB_ ho1)) (fun _ h_ => h_.1)); have n5_ := Az0.mk (Kd.rM_ (Kd.R_told (Kd.R_told (Kd.R_old (by (repeat refine Up1.r ?_); exact HO172.out) hb) (Kd.rB_ ho0)) (Kd.rB_ ho1)) (fun _ h_ => h_.1)); have n6_ := Az0.mk (Kd.rM_ (Kd.R_told (Kd.R_told (Kd.R_old (by (repeat refine Up1.r ?_); exact HO177.out) hb) (Kd.rB_ ho0)) (Kd.rB_ ho1)) (fun _ h_ => h_.1)); have n7_ := Az0.mk (Kd.rM_ (Kd.R_told (Kd.R_told (Kd.R_old (by (repeat refine Up1.r ?_); exact HO181.out) hb) (Kd.rB_ ho0)) (Kd.rB_ ho1)) (fun _ h_ => h_.1)); have n8_ := Az0.mk (Kd.rM_ (Kd.R_told (Kd.R_told (Kd.R_old (by (repeat refine Up1.r ?_); exact HO185.out) hb) (Kd.rB_ ho0)) (Kd.rB_ ho1)) (fun _ h_ => h_.1)); have n9_ := Az0.mk (Kd.rM_ (Kd.R_told (Kd.R_told (Kd.R_old (by (repeat refine Up1.r ?_); exact HO189.out) hb) (Kd.rB_ ho0)) (Kd.rB_ ho1)) (fun _ h_ => h_.1)); have n10_ := Az0.mk (Kd.R_lower (Kd.R_new' (Kd.R_new' (Kd.R_new' (Kd.R_new' (Kd.R_new' (Kd.R_new' (Kd.R_new' (Kd.R_new' (Kd.R_new' (Kd.R_new' ho0 (Kd.R_lt (by (repeat refine Up1.r ?_); exact HO152.out))) (Kd.R_lt (by (repeat refine Up1.r ?_); exact HO156.out))) (Kd.R_lt (by (repeat refine Up1.r ?_); exact HO160.out))) (Kd.R_lt (by (repeat refine Up1.r ?_); exact HO164.out))) (Kd.R_lt (by (repeat refine Up1.r ?_); exact HO168.out))) (Kd.R_lt (by (repeat refine Up1.r ?_); exact HO172.out))) (Kd.R_lt (by (repeat refine Up1.r ?_); exact HO177.out))) (Kd.R_lt (by (repeat refine Up1.r ?_); exact HO181.out))) (Kd.R_lt (by (repeat refine Up1.r ?_); exact HO185.out))) (Kd.R_lt (by (repeat refine Up1.r ?_); exact HO189.out))) (bZ_ (by repeat (first | (with_reducible first | exact HB.out | refine Up1.w ?_ | refine bS_ ?_ GE147.out | refine bS_ ?_ GE148.out | refine bS_ ?_ GE173.out) | exact HB.out)))); have n11_ := Az0.mk (Kd.R_lower (Kd.R_new' (Kd.R_new' (Kd.R_new' (Kd.R_new' (Kd.R_new' (Kd.R_new' (Kd.R_new' (Kd.R_new' (Kd.R_new' (Kd.R_new' ho1 (Kd.R_lt (by (repeat refine Up1.r ?_); exact HO152.out))) (Kd.R_lt (by (repeat refine Up1.r ?_); exact HO156.out))) (Kd.R_lt (by (repeat refine Up1.r ?_); exact HO160.out))) (Kd.R_lt (by (repeat refine Up1.r ?_); exact HO164.out))) (Kd.R_lt (by (repeat refine Up1.r ?_); exact HO168.out))) (Kd.R_lt (by (repeat refine Up1.r ?_); exact HO172.out))) (Kd.R_lt (by (repeat refine Up1.r ?_); exact HO177.out))) (Kd.R_lt (by (repeat refine Up1.r ?_); exact HO181.out))) (Kd.R_lt (by (repeat refine Up1.r ?_); exact HO185.out))) (Kd.R_lt (by (repeat refine Up1.r ?_); exact HO189.out))) (bZ_ (by repeat (first | (with_reducible first | exact HB.out | refine Up1.w ?_ | refine bS_ ?_ GE147.out | refine bS_ ?_ GE148.out | refine bS_ ?_ GE173.out) | exact HB.out)))); have n12_ := Az0.mk (bB_ (g := gb147) (o := .cells #[.int .i64 a0_0, .int .i64 a0_1] 28 (0, 0)) (by refine Ups.b ?_; exact BK147.out) hb); have n13_ := Az0.mk (bB_ (g := gb148) (o := .cells #[.int .i64 a2_0, .int .i64 a2_1] 28 (0, 0)) (by refine Ups.b ?_; exact BK148.out) hb); have n14_ := Az0.mk (bB_ (g := gb173) (o := .cells #[.bool t165, .slice Ao27 t166.length co27, .bool t169, .slice Ao28 t170.length co28] 77 (0, 0)) (by refine Ups.b ?_; exact BK173.out) hb); have n15_ := Az0.mk (bP_ (by repeat (first | (with_reducible first | exact HB.out | refine Up1.w ?_ | refine bS_ ?_ GE147.out | refine bS_ ?_ GE148.out | refine bS_ ?_ GE173.out) | exact HB.out)) hb); clear HO152; clear HO156; clear HO160; clear HO164; clear HO168; clear HO172; clear HO177; clear HO181; clear HO185; clear HO189; clear BK147; clear BK148; clear BK173; clear HB; have HO152 := n0_; have HO156 := n1_; have HO160 := n2_; have HO164 := n3_; have HO168 := n4_; have HO172 := n5_; have HO177 := n6_; have HO181 := n7_; have HO185 := n8_; have HO189 := n9_; have HO193 := n10_; have HO197 := n11_; have BK147 := n12_; have BK148 := n13_; have BK173 := n14_; have HB := n15_; clear n0_ n1_ n2_ n3_ n4_ n5_ n6_ n7_ n8_ n9_ n10_ n11_ n12_ n13_ n14_ n15_; (try clear hb); (try clear hb2); (try clear hk); (try clear hi); (try clear ho0); (try clear ho1)) | ((with_reducible refine gD_ (N := 10) rfl ?_); refine bE_ ?hg (N := 10) ?hd (cs := #[.bool false, .slice none 0 0, .bool false, .slice none 0 0]) (t := 77) ?hr ?_; (case hd => rfl); (case hg => rfl); (case hr => first | (go_simp; done) | (go_simp; rfl)); intro gb198 hg w37 hbox hb; have n4_ := Az0.mk (Kd.rW_ (by (repeat refine Up1.r ?_); exact HO168.out) hb); have n5_ := Az0.mk (Kd.rW_ (by (repeat refine Up1.r ?_); exact HO172.out) hb); have n10_ := Az0.mk (Kd.rW_ (by (repeat refine Up1.r ?_); exact HO193.out) hb); have n11_ := Az0.mk (Kd.rW_ (by (repeat refine Up1.r ?_); exact HO197.out) hb); have n12_ := Az0.mk (bB_ (g := gb147) (o := .cells #[.int .i64 a0_0, .int .i64 a0_1] 28 (0, 0)) (by refine Ups.b ?_; exact BK147.out) hb); have n13_ := Az0.mk (bB_ (g := gb148) (o := .cells #[.int .i64 a2_0, .int .i64 a2_1] 28 (0, 0)) (by refine Ups.b ?_; exact BK148.out) hb); have n14_ := Az0.mk (bB_ (g := gb173) (o := .cells #[.bool t165, .slice Ao27 t166.length co27, .bool t169, .slice Ao28 t170.length co28] 77 (0, 0)) (by refine Ups.b ?_; exact BK173.out) hb); have n15_ := Az0.mk (bP_ (by repeat (first | (with_reducible first | exact HB.out | refine Up1.w ?_ | refine bS_ ?_ GE147.out | refine bS_ ?_ GE148.out | refine bS_ ?_ GE173.out) | exact HB.out)) hb); have n16_ := Az0.mk (hbox); have n17_ := Az0.mk ((by rw [hg]; exact (bZ_ (by repeat (first | (with_reducible first | exact HB.out | refine Up1.w ?_ | refine bS_ ?_ GE147.out | refine bS_ ?_ GE148.out | refine bS_ ?_ GE173.out) | exact HB.out))) : w.heap.size ≤ gb198)); have n18_ := Az0.mk ((by rw [hg]; exact (bZ_ (by repeat (first | (with_reducible first | exact HB.out | refine Up1.w ?_ | refine bS_ ?_ GE147.out | refine bS_ ?_ GE148.out | refine bS_ ?_ GE173.out) | exact HB.out))) : w.heap.size ≤ gb198)); have n19_ := Az0.mk ((by rw [hg]; exact Nat.ne_of_lt (bL_ (g := gb147) (o := .cells #[.int .i64 a0_0, .int .i64 a0_1] 28 (0, 0)) (by refine Ups.b ?_; exact BK147.out)) : gb147 ≠ gb198)); have n20_ := Az0.mk ((by rw [hg]; exact Nat.ne_of_gt (bL_ (g := gb147) (o := .cells #[.int .i64 a0_0, .int .i64 a0_1] 28 (0, 0)) (by refine Ups.b ?_; exact BK147.out)) : gb198 ≠ gb147)); have n21_ := Az0.mk ((by rw [hg]; exact Nat.ne_of_lt (bL_ (g := gb148) (o := .cells #[.int .i64 a2_0, .int .i64 a2_1] 28 (0, 0)) (by refine Ups.b ?_; exact BK148.out)) : gb148 ≠ gb198)); have n22_ := Az0.mk ((by rw [hg]; exact Nat.ne_of_gt (bL_ (g := gb148) (o := .cells #[.int .i64 a2_0, .int .i64 a2_1] 28 (0, 0)) (by refine Ups.b ?_; exact BK148.out)) : gb198 ≠ gb148)); have n23_ := Az0.mk ((by rw [hg]; exact Nat.ne_of_lt (bL_ (g := gb173) (o := .cells #[.bool t165, .slice Ao27 t166.length co27, .bool t169, .slice Ao28 t170.length co28] 77 (0, 0)) (by refine Ups.b ?_; exact BK173.out)) : gb173 ≠ gb198)); have n24_ := Az0.mk ((by rw [hg]; exact Nat.ne_of_gt (bL_ (g := gb173) (o := .cells #[.bool t165, .slice Ao27 t166.length co27, .bool t169, .slice Ao28 t170.length co28] 77 (0, 0)) (by refine Ups.b ?_; exact BK173.out)) : gb198 ≠ gb173)); clear HO168; clear HO172; clear HO193; clear HO197; clear BK147; clear BK148; clear BK173; clear HB; have HO168 := n4_; have HO172 := n5_; have HO193 := n10_; have HO197 := n11_; have BK147 := n12_; have BK148 := n13_; have BK173 := n14_; have HB := n15_; have BK198 := n16_; have GW198 := n17_; have GE198 := n18_; have NB147_198 := n19_; have NB198_147 := n20_; have NB148_198 := n21_; have NB198_148 := n22_; have NB173_198 := n23_; have NB198_173 := n24_; clear n4_ n5_ n10_ n11_ n12_ n13_ n14_ n15_ n16_ n17_ n18_ n19_ n20_ n21_ n22_ n23_ n24_; clear hb hbox hg; have hnb38 := NB198_147.out; have hnc38 := NB147_198.out; have hnb39 := NB198_148.out; have hnc39 := NB148_198.out; have hnb40 := NB198_173.out; have hnc40 := NB173_198.out; have hcz41_0 : w37.cell? ⟨gb198, 0, none⟩ = some (.bool false) := (bkC BK198.out 0).trans rfl; have hcz41_1 : w37.cell? ⟨gb198, 1, none⟩ = some (.slice none 0 0) := (bkC BK198.out 1).trans rfl; have hcz41_2 : w37.cell? ⟨gb198, 2, none⟩ = some (.bool false) := (bkC BK198.out 2).trans rfl; have hcz41_3 : w37.cell? ⟨gb198, 3, none⟩ = some (.slice none 0 0) := (bkC BK198.out 3).trans rfl; have hfz41_0 := bF_ BK198.out 0; have hfz41_1 := bF_ BK198.out 1; have hfz41_2 := bF_ BK198.out 2; have hfz41_3 := bF_ BK198.out 3; obtain ⟨Ao42, co42, eo42⟩ := Kd.R_slice HO193.out; subst eo42; obtain ⟨Ao43, co43, eo43⟩ := Kd.R_slice HO197.out; subst eo43; have hcz44_0 : w37.cell? ⟨gb173, 0, none⟩ = some (.bool t165) := (bkC BK173.out 0).trans rfl; have hcz44_1 : w37.cell? ⟨gb173, 1, none⟩ = some (.slice Ao27 t166.length co27) := (bkC BK173.out 1).trans rfl; have hcz44_2 : w37.cell? ⟨gb173, 2, none⟩ = some (.bool t169) := (bkC BK173.out 2).trans rfl; have hcz44_3 : w37.cell? ⟨gb173, 3, none⟩ = some (.slice Ao28 t170.length co28) := (bkC BK173.out 3).trans rfl; have hfz44_0 := bF_ BK173.out 0; have hfz44_1 := bF_ BK173.out 1; have hfz44_2 := bF_ BK173.out 2; have hfz44_3 := bF_ BK173.out 3) | ((with_reducible refine gate_callee (f := 57) rfl ?_); refine goesL_ (some 23) rfl rfl Try.func57 (by kernel_rfl) rfl #[.agg #[.bool t165, .slice Ao27 t166.length co27, .bool t169, .slice Ao28 t170.length co28], .agg #[.bool t190, .slice Ao42 t191.length co42, .bool t194, .slice Ao43 t195.length co43]] rfl (by (try simp only [List.map_toArray, List.map_cons, List.map_nil]); first | done | rfl | (simp only [List.length_drop, List.length_take]; rfl)) ?_; (with_reducible refine (trishawref01_Cmp.calls k t165 _ _ t166 t169 _ _ t170 t190 _ _ t191 t194 _ _ t195 t199 _ ?side1 ?side2 ?side3 ?side4 ?side5 ?side6 ?side7 ?side8 A11.out).mono ?_); (case side1 => refine (Kd.R_reads' (e := 3) (base := w.heap.size) (ok := fun k_ => ((((((((((some k_ ≠ (.slice Ao28 t170.length co28 : Value).ownBlock ∧ some k_ ≠ (.slice Ao18 t150.length co18 : Value).ownBlock) ∧ some k_ ≠ (.slice Ao19 t154.length co19 : Value).ownBlock) ∧ some k_ ≠ (.slice Ao20 t158.length co20 : Value).ownBlock) ∧ some k_ ≠ (.slice Ao21 t162.length co21 : Value).ownBlock) ∧ some k_ ≠ (.slice Ao32 t175.length co32 : Value).ownBlock) ∧ some k_ ≠ (.slice Ao33 t179.length co33 : Value).ownBlock) ∧ some k_ ≠ (.slice Ao34 t183.length co34 : Value).ownBlock) ∧ some k_ ≠ (.slice Ao35 t187.length co35 : Value).ownBlock) ∧ some k_ ≠ (.slice Ao42 t191.length co42 : Value).ownBlock) ∧ some k_ ≠ (.slice Ao43 t195.length co43 : Value).ownBlock)) (n := t166.length) (c := co27) ?_).2.2; exact (by (repeat refine Up1.r ?_); exact (Kd.rM_ (Kd.rF_ (p := ⟨gb198, 3, none⟩) (Kd.rF_ (p := ⟨gb198, 2, none⟩) (Kd.rF_ (p := ⟨gb198, 1, none⟩) (Kd.rF_ (p := ⟨gb198, 0, none⟩) (Kd.rY_ HO168.out BK198.out (by decide)) (fun _ hk => hk.2) (.bool t190)) (fun _ hk => hk.2) (.slice Ao42 t191.length co42)) (fun _ hk => hk.2) (.bool t194)) (fun _ hk => hk.2) (.slice Ao43 t195.length co43)) (fun _ h_ => h_.1)))); (case side2 => exact (Kd.R_reads' HO168.out).2.1); (case side3 => refine (Kd.R_reads' (e := 3) (base := w.heap.size) (ok := fun k_ => ((((((((((some k_ ≠ (.slice Ao27 t166.length co27 : Value).ownBlock ∧ some k_ ≠ (.slice Ao18 t150.length co18 : Value).ownBlock) ∧ some k_ ≠ (.slice Ao19 t154.length co19 : Value).ownBlock) ∧ some k_ ≠ (.slice Ao20 t158.length co20 : Value).ownBlock) ∧ some k_ ≠ (.slice Ao21 t162.length co21 : Value).ownBlock) ∧ some k_ ≠ (.slice Ao32 t175.length co32 : Value).ownBlock) ∧ some k_ ≠ (.slice Ao33 t179.length co33 : Value).ownBlock) ∧ some k_ ≠ (.slice Ao34 t183.length co34 : Value).ownBlock) ∧ some k_ ≠ (.slice Ao35 t187.length co35 : Value).ownBlock) ∧ some k_ ≠ (.slice Ao42 t191.length co42 : Value).ownBlock) ∧ some k_ ≠ (.slice Ao43 t195.length co43 : Value).ownBlock)) (n := t170.length) (c := co28) ?_).2.2; exact (by (repeat refine Up1.r ?_); exact (Kd.rM_ (Kd.rF_ (p := ⟨gb198, 3, none⟩) (Kd.rF_ (p := ⟨gb198, 2, none⟩) (Kd.rF_ (p := ⟨gb198, 1, none⟩) (Kd.rF_ (p := ⟨gb198, 0, none⟩) (Kd.rY_ HO172.out BK198.out (by decide)) (fun _ hk => hk.2) (.bool t190)) (fun _ hk => hk.2) (.slice Ao42 t191.length co42)) (fun _ hk => hk.2) (.bool t194)) (fun _ hk => hk.2) (.slice Ao43 t195.length co43)) (fun _ h_ => h_.1)))); (case side4 => exact (Kd.R_reads' HO172.out).2.1); (case side5 => refine (Kd.R_reads' (e := 3) (base := w.heap.size) (ok := fun k_ => ((((((((((some k_ ≠ (.slice Ao43 t195.length co43 : Value).ownBlock ∧ some k_ ≠ (.slice Ao18 t150.length co18 : Value).ownBlock) ∧ some k_ ≠ (.slice Ao19 t154.length co19 : Value).ownBlock) ∧ some k_ ≠ (.slice Ao20 t158.length co20 : Value).ownBlock) ∧ some k_ ≠ (.slice Ao21 t162.length co21 : Value).ownBlock) ∧ some k_ ≠ (.slice Ao27 t166.length co27 : Value).ownBlock) ∧ some k_ ≠ (.slice Ao28 t170.length co28 : Value).ownBlock) ∧ some k_ ≠ (.slice Ao32 t175.length co32 : Value).ownBlock) ∧ some k_ ≠ (.slice Ao33 t179.length co33 : Value).ownBlock) ∧ some k_ ≠ (.slice Ao34 t183.length co34 : Value).ownBlock) ∧ some k_ ≠ (.slice Ao35 t187.length co35 : Value).ownBlock)) (n := t191.length) (c := co42) ?_).2.2; exact (by (repeat refine Up1.r ?_); exact (Kd.rM_ (Kd.rF_ (p := ⟨gb198, 3, none⟩) (Kd.rF_ (p := ⟨gb198, 2, none⟩) (Kd.rF_ (p := ⟨gb198, 1, none⟩) (Kd.rF_ (p := ⟨gb198, 0, none⟩) (Kd.rY_ HO193.out BK198.out (by decide)) (fun _ hk => hk.2) (.bool t190)) (fun _ hk => hk.2) (.slice Ao42 t191.length co42)) (fun _ hk => hk.2) (.bool t194)) (fun _ hk => hk.2) (.slice Ao43 t195.length co43)) (fun _ h_ => h_.1)))); (case side6 => exact (Kd.R_reads' HO193.out).2.1); (case side7 => refine (Kd.R_reads' (e := 3) (base := w.heap.size) (ok := fun k_ => ((((((((((some k_ ≠ (.slice Ao42 t191.length co42 : Value).ownBlock ∧ some k_ ≠ (.slice Ao18 t150.length co18 : Value).ownBlock) ∧ some k_ ≠ (.slice Ao19 t154.length co19 : Value).ownBlock) ∧ some k_ ≠ (.slice Ao20 t158.length co20 : Value).ownBlock) ∧ some k_ ≠ (.slice Ao21 t162.length co21 : Value).ownBlock) ∧ some k_ ≠ (.slice Ao27 t166.length co27 : Value).ownBlock) ∧ some k_ ≠ (.slice Ao28 t170.length co28 : Value).ownBlock) ∧ some k_ ≠ (.slice Ao32 t175.length co32 : Value).ownBlock) ∧ some k_ ≠ (.slice Ao33 t179.length co33 : Value).ownBlock) ∧ some k_ ≠ (.slice Ao34 t183.length co34 : Value).ownBlock) ∧ some k_ ≠ (.slice Ao35 t187.length co35 : Value).ownBlock)) (n := t195.length) (c := co43) ?_).2.2; exact (by (repeat refine Up1.r ?_); exact (Kd.rM_ (Kd.rF_ (p := ⟨gb198, 3, none⟩) (Kd.rF_ (p := ⟨gb198, 2, none⟩) (Kd.rF_ (p := ⟨gb198, 1, none⟩) (Kd.rF_ (p := ⟨gb198, 0, none⟩) (Kd.rY_ HO197.out BK198.out (by decide)) (fun _ hk => hk.2) (.bool t190)) (fun _ hk => hk.2) (.slice Ao42 t191.length co42)) (fun _ hk => hk.2) (.bool t194)) (fun _ hk => hk.2) (.slice Ao43 t195.length co43)) (fun _ h_ => h_.1)))); (case side8 => exact (Kd.R_reads' HO197.out).2.1); rintro e w45 ⟨rfl, hb⟩; refine ⟨_, rfl, ?_⟩; have n16_ := Az0.mk (bP_ (by repeat (first | (with_reducible first | exact HB.out | refine Up1.w ?_ | refine bS_ ?_ GE147.out | refine bS_ ?_ GE148.out | refine bS_ ?_ GE173.out | refine bS_ ?_ GE198.out) | exact HB.out)) hb); clear HB; have HB := n16_; clear n16_; (try clear hb); (try clear hb2); (try clear hk); (try clear hi)))
 go_ret
 exact ⟨by first | rfl | (simp [errW_none, errW_some] <;> rfl) | (simp [*, errW_none, errW_some] <;> rfl), by repeat (first | (with_reducible first | exact HB.out | refine Up1.w ?_ | refine bS_ ?_ GE147.out | refine bS_ ?_ GE148.out | refine bS_ ?_ GE173.out | refine bS_ ?_ GE198.out) | exact HB.out)⟩
end Go.Proofs.Ytjgbdicbdlollaa.B
namespace Go.Proofs.Ytjgbdicbdlollaa.B
open Go.RowKit Go.Proofs.YtjgbdicbdlollaaW.PrintWords Go.Proofs.YtjgbdicbdlollaaW.PrintLast Go.Proofs.YtjgbdicbdlollaaW.PrintMore
attribute [local go_sem] max2_int min2_int max_two min_two max_three min_three max_four min_four   -- for this text's walks alone
set_option linter.unusedVariables false
set_option linter.unusedSimpArgs false
mutual
def rLn.l0 : Nat → List (S36) → Int → Option (Int)
  | 0, _, _ => none
  | k + 1, x0, x3 => if x3 < (x0.length : Int) then (if 0 ≤ x3 then (if ((rdT_ x0 x3).f0) < 0 then (rLn.j1 k x0 x3 true) else (if ((rdT_ x0 x3).f0) > 10 then (rLn.j1 k x0 x3 true) else (if ((rdT_ x0 x3).f1) < 1 then (rLn.j1 k x0 x3 true) else (rLn.j1 k x0 x3 (decide (((rdT_ x0 x3).f1) > 10)))))) else (none)) else (some 0)
def rLn.j1 : Nat → List (S36) → Int → Bool → Option (Int)
  | 0, _, _, _ => none
  | k + 1, x0, x3, x45 => if x45 = true then (some 2) else (rLn.l0 k x0 (wrap64 (x3 + 1)))
end
def rLn.f (k : Nat) (l0 : List (S36)) : Option (Int) := if (l0.length : Int) > 4 then (some 3) else (if (l0.length : Int) = 0 then (some 2) else (rLn.l0 k l0 0))
set_option maxHeartbeats 8000000 in
set_option maxRecDepth 100000 in
theorem rLn.calls (k : Nat) (A0 : Option Addr) (c0 : Nat) (l0 : List (S36)) (r : Int) (w : World) (hr0 : Kd.C k36 w A0 l0.length l0) (hc0 : l0.length ≤ c0) (h : rLn.f k l0 = some r) :
  Calls Try.prog 22 #[.slice A0 l0.length c0] w fun e w' => e = .returned (.int .i64 r) ∧ Drawn0 w w' := by
 have HR0 := Az0.mk hr0
 have HC0 := Az0.mk hc0
 clear hr0 hc0
 have H : (if (l0.length : Int) > 4 then (some 3) else (if (l0.length : Int) = 0 then (some 2) else (rLn.l0 k l0 0))) = some r := h
 clear h
 by_cases c2 : (l0.length : Int) > 4
 ·rw [if_pos c2] at H
  have c2b0 : decide (4 < (l0.length : Int)) = true := decide_eq_true c2
  have c2b1 : decide (4 < l0.length) = true := decide_eq_true (by omega)
  clear c2
  obtain rfl := Option.some.inj H
  go_enter Try.func22, Try.ntmps22
  go_wp2
  go_ret
  exact ⟨by first | rfl | (simp; done) | (simp [*]; done), by repeat (first | exact Drawn0.refl _ | apply Drawn0.step)⟩
 ·rw [if_neg c2] at H
  have c2b0 : decide (4 < (l0.length : Int)) = false := decide_eq_false c2
  have c2b1 : decide (4 < l0.length) = false := decide_eq_false (by omega)
  clear c2
  by_cases c3 : (l0.length : Int) = 0
  ·rw [if_pos c3] at H
   have c3b0 : ((l0.length : Int) == 0) = true := beq_iff_eq.mpr c3
   have c3b1 : ((l0.length : Int) != 0) = false := bne_eq_false_iff_eq.mpr c3
   clear c3
   obtain rfl := Option.some.inj H
   go_enter Try.func22, Try.ntmps22
   go_wp2
   go_ret
   exact ⟨by first | rfl | (simp; done) | (simp [*]; done), by repeat (first | exact Drawn0.refl _ | apply Drawn0.step)⟩
  ·rw [if_neg c3] at H
   have c3b0 : ((l0.length : Int) == 0) = false := beq_eq_false_iff_ne.mpr c3
   have c3b1 : ((l0.length : Int) != 0) = true := bne_iff_ne.mpr c3
   have c3b2 : ¬ (l0 = []) := fun h_ => c3 (by rw [h_]; rfl)
   have H' := Az0.mk H
   clear H
   go_enter Try.func22, Try.ntmps22
   go_wp2
   go_loopg [3] k (fun kq v3 w' => ∃ (x3_1 : Int), v3 = .int .i64 x3_1 ∧ Az0 (rLn.l0 kq l0 x3_1 = some r) ∧ Az0 (kq ≤ k) ∧ Drawn0 w w')
   case atStart => exact ⟨(0), (by first | rfl | (simp; done) | (simp [*]; done)), H', ⟨Nat.le_refl _⟩, by repeat (first | exact Drawn0.refl _ | apply Drawn0.step)⟩
   case round =>
    clear H'
    try clear c2
    try clear c2b0
    try clear c2b1
    try clear p2
    try clear c3
    try clear c3b0
    try clear c3b1
    try clear c3b2
    obtain ⟨x3_1, rfl, HA, HK1, ⟨m1, rfl⟩⟩ := hrel
    cases gk with
    | zero => exact absurd HA.out (by simp [rLn.l0])
    | succ k1 =>
     have H := HA.out
     clear HA
     simp only [rLn.l0] at H
     by_cases c4 : x3_1 < (l0.length : Int)
     ·rw [if_pos c4] at H
      have c4b0 : decide (x3_1 < (l0.length : Int)) = true := decide_eq_true c4
      clear c4
      have HC5 := Az0.mk H
      clear H
      go_upto_region 8 with (fail)
      go_cut [45] (fun v45 wc => ∃ (kq : Nat) (x45_4 : Bool), v45 = .bool x45_4 ∧ Az0 (rLn.j1 kq l0 x3_1 x45_4 = some r) ∧ Az0 (kq ≤ k1) ∧ Drawn0 w wc)
      case first =>
       have H := HC5.out
       clear HC5
       by_cases c6 : 0 ≤ x3_1
       ·rw [if_pos c6] at H
        have c6b0 : decide (0 ≤ x3_1) = true := decide_eq_true c6
        clear c6
        (first | rw [c6b0] | (simp only [i64_w, i32_w]; rw [c6b0]) | skip)
        by_cases c7 : ((rdT_ l0 x3_1).f0) < 0
        ·rw [if_pos c7] at H
         have c7b0 : decide (((rdT_ l0 x3_1).f0) < 0) = true := decide_eq_true c7
         clear c7
         have H' := Az0.mk H
         clear H
         have p252 : 0 ≤ (x3_1 : Int) := of_decide_eq_true (by first | (with_reducible assumption) | assumption)
         have q252 : x3_1 < (l0.length : Int) := of_decide_eq_true (by first | (with_reducible assumption) | assumption)
         obtain ⟨ad252, e252, hx252_0, hx252_1⟩ := at_T36 HR0.out x3_1 p252 q252
         cases e252
         replace p252 := eq_true p252
         replace q252 := eq_true q252
         go_wp2
         go_meet
         case rel => exact ⟨_, (true), (by first | rfl | (simp; done) | (simp [*]; done)), H', ⟨by have := HK1.out; first | omega | exact Nat.le_refl _⟩, by repeat (first | exact Drawn0.refl _ | apply Drawn0.step)⟩
        ·rw [if_neg c7] at H
         have c7b0 : decide (((rdT_ l0 x3_1).f0) < 0) = false := decide_eq_false c7
         clear c7
         by_cases c8 : ((rdT_ l0 x3_1).f0) > 10
         ·rw [if_pos c8] at H
          have c8b0 : decide (10 < ((rdT_ l0 x3_1).f0)) = true := decide_eq_true c8
          clear c8
          have H' := Az0.mk H
          clear H
          have p252 : 0 ≤ (x3_1 : Int) := of_decide_eq_true (by first | (with_reducible assumption) | assumption)
          have q252 : x3_1 < (l0.length : Int) := of_decide_eq_true (by first | (with_reducible assumption) | assumption)
          obtain ⟨ad252, e252, hx252_0, hx252_1⟩ := at_T36 HR0.out x3_1 p252 q252
          cases e252
          replace p252 := eq_true p252
          replace q252 := eq_true q252
          have p253 : 0 ≤ (x3_1 : Int) := of_decide_eq_true (by first | (with_reducible assumption) | assumption)
          have q253 : x3_1 < (l0.length : Int) := of_decide_eq_true (by first | (with_reducible assumption) | assumption)
          obtain ⟨ad253, e253, hx253_0, hx253_1⟩ := at_T36 HR0.out x3_1 p253 q253
          obtain rfl : ad252 = ad253 := (by injection e253)
          replace p253 := eq_true p253
          replace q253 := eq_true q253
          go_wp2
          go_meet
          case rel => exact ⟨_, (true), (by first | rfl | (simp; done) | (simp [*]; done)), H', ⟨by have := HK1.out; first | omega | exact Nat.le_refl _⟩, by repeat (first | exact Drawn0.refl _ | apply Drawn0.step)⟩
         ·rw [if_neg c8] at H
          have c8b0 : decide (10 < ((rdT_ l0 x3_1).f0)) = false := decide_eq_false c8
          clear c8
          by_cases c9 : ((rdT_ l0 x3_1).f1) < 1
          ·rw [if_pos c9] at H
           have c9b0 : decide (((rdT_ l0 x3_1).f1) < 1) = true := decide_eq_true c9
           clear c9
           have H' := Az0.mk H
           clear H
           have p252 : 0 ≤ (x3_1 : Int) := of_decide_eq_true (by first | (with_reducible assumption) | assumption)
           have q252 : x3_1 < (l0.length : Int) := of_decide_eq_true (by first | (with_reducible assumption) | assumption)
           obtain ⟨ad252, e252, hx252_0, hx252_1⟩ := at_T36 HR0.out x3_1 p252 q252
           cases e252
           replace p252 := eq_true p252
           replace q252 := eq_true q252
           have p253 : 0 ≤ (x3_1 : Int) := of_decide_eq_true (by first | (with_reducible assumption) | assumption)
           have q253 : x3_1 < (l0.length : Int) := of_decide_eq_true (by first | (with_reducible assumption) | assumption)
           obtain ⟨ad253, e253, hx253_0, hx253_1⟩ := at_T36 HR0.out x3_1 p253 q253
           obtain rfl : ad252 = ad253 := (by injection e253)
           replace p253 := eq_true p253
           replace q253 := eq_true q253
           have p254 : 0 ≤ (x3_1 : Int) := of_decide_eq_true (by first | (with_reducible assumption) | assumption)
           have q254 : x3_1 < (l0.length : Int) := of_decide_eq_true (by first | (with_reducible assumption) | assumption)
           obtain ⟨ad254, e254, hx254_0, hx254_1⟩ := at_T36 HR0.out x3_1 p254 q254
           obtain rfl : ad252 = ad254 := (by injection e254)
           replace p254 := eq_true p254
           replace q254 := eq_true q254
           go_wp2
           go_meet
           case rel => exact ⟨_, (true), (by first | rfl | (simp; done) | (simp [*]; done)), H', ⟨by have := HK1.out; first | omega | exact Nat.le_refl _⟩, by repeat (first | exact Drawn0.refl _ | apply Drawn0.step)⟩
          ·rw [if_neg c9] at H
           have c9b0 : decide (((rdT_ l0 x3_1).f1) < 1) = false := decide_eq_false c9
           clear c9
           have H' := Az0.mk H
           clear H
           have p252 : 0 ≤ (x3_1 : Int) := of_decide_eq_true (by first | (with_reducible assumption) | assumption)
           have q252 : x3_1 < (l0.length : Int) := of_decide_eq_true (by first | (with_reducible assumption) | assumption)
           obtain ⟨ad252, e252, hx252_0, hx252_1⟩ := at_T36 HR0.out x3_1 p252 q252
           cases e252
           replace p252 := eq_true p252
           replace q252 := eq_true q252
           have p253 : 0 ≤ (x3_1 : Int) := of_decide_eq_true (by first | (with_reducible assumption) | assumption)
           have q253 : x3_1 < (l0.length : Int) := of_decide_eq_true (by first | (with_reducible assumption) | assumption)
           obtain ⟨ad253, e253, hx253_0, hx253_1⟩ := at_T36 HR0.out x3_1 p253 q253
           obtain rfl : ad252 = ad253 := (by injection e253)
           replace p253 := eq_true p253
           replace q253 := eq_true q253
           have p254 : 0 ≤ (x3_1 : Int) := of_decide_eq_true (by first | (with_reducible assumption) | assumption)
           have q254 : x3_1 < (l0.length : Int) := of_decide_eq_true (by first | (with_reducible assumption) | assumption)
           obtain ⟨ad254, e254, hx254_0, hx254_1⟩ := at_T36 HR0.out x3_1 p254 q254
           obtain rfl : ad252 = ad254 := (by injection e254)
           replace p254 := eq_true p254
           replace q254 := eq_true q254
           have p255 : 0 ≤ (x3_1 : Int) := of_decide_eq_true (by first | (with_reducible assumption) | assumption)
           have q255 : x3_1 < (l0.length : Int) := of_decide_eq_true (by first | (with_reducible assumption) | assumption)
           obtain ⟨ad255, e255, hx255_0, hx255_1⟩ := at_T36 HR0.out x3_1 p255 q255
           obtain rfl : ad252 = ad255 := (by injection e255)
           replace p255 := eq_true p255
           replace q255 := eq_true q255
           go_wp2
           go_meet
           case rel => exact ⟨_, (decide (((rdT_ l0 x3_1).f1) > 10)), (by first | rfl | (simp; done) | (simp [*]; done)), H', ⟨by have := HK1.out; first | omega | exact Nat.le_refl _⟩, by repeat (first | exact Drawn0.refl _ | apply Drawn0.step)⟩
       ·rw [if_neg c6] at H
        exact absurd H (by simp)
      case rest =>
       clear HC5
       try clear c2
       try clear c2b0
       try clear c2b1
       try clear p2
       try clear q2
       try clear hx2
       try clear c3
       try clear c3b0
       try clear c3b1
       try clear c3b2
       try clear c4
       try clear c4b0
       try clear c6
       try clear c6b0
       try clear c7
       try clear c7b0
       try clear c8
       try clear c8b0
       try clear c9
       try clear c9b0
       try clear hx252_0
       try clear hx252_1
       try clear hx253_0
       try clear hx253_1
       try clear hx254_0
       try clear hx254_1
       try clear hx255_0
       try clear hx255_1
       try clear p2
       try clear p252
       try clear p253
       try clear p254
       try clear p255
       try clear q252
       try clear q253
       try clear q254
       try clear q255
       obtain ⟨kq, x45_4, rfl, HA, HJ4, ⟨mc4, rfl⟩⟩ := hcut
       cases kq with
       | zero => exact absurd HA.out (by simp [rLn.j1])
       | succ kj4 =>
        have H := HA.out
        clear HA
        simp only [rLn.j1] at H
        by_cases c10 : x45_4 = true
        ·subst c10
         have H1 : (some 2) = some r := by rw [if_pos rfl] at H; exact H
         clear H
         have H := H1
         clear H1
         obtain rfl := Option.some.inj H
         go_wp2
         go_ret
         exact ⟨by first | rfl | (simp; done) | (simp [*]; done), by repeat (first | exact Drawn0.refl _ | apply Drawn0.step)⟩
        ·replace c10 := Bool.eq_false_iff.mpr c10
         subst c10
         have H1 : (rLn.l0 kj4 l0 (wrap64 (x3_1 + 1))) = some r := by rw [if_neg (show ¬ (false = true) by decide)] at H; exact H
         clear H
         have H := H1
         clear H1
         have H' := Az0.mk H
         clear H
         go_wp2
         go_roundg kj4
         case measure => have := HK1.out; have := HJ4.out; omega
         case rel => exact ⟨(wrap64 (x3_1 + 1)), (by first | rfl | (simp; done) | (simp [*]; done)), H', ⟨by have := HK1.out; have := HJ4.out; omega⟩, by repeat (first | exact Drawn0.refl _ | apply Drawn0.step)⟩
     ·rw [if_neg c4] at H
      have c4b0 : decide (x3_1 < (l0.length : Int)) = false := decide_eq_false c4
      clear c4
      obtain rfl := Option.some.inj H
      go_wp2
      go_ret
      exact ⟨by first | rfl | (simp; done) | (simp [*]; done), by repeat (first | exact Drawn0.refl _ | apply Drawn0.step)⟩
def trishawref01_Gcd.l0 : Nat → Int → Int → Option (Int)
  | 0, _, _ => none
  | k + 1, x0, x1 => if x1 = 0 then (some (mx x0 (wrap64 (-x0)))) else (trishawref01_Gcd.l0 k x1 (Int.tmod x0 x1))
def trishawref01_Gcd.f (k : Nat) (a0 : Int) (a1 : Int) : Option (Int) := trishawref01_Gcd.l0 k a0 a1
end Go.Proofs.Ytjgbdicbdlollaa.B
namespace Go.Proofs.Ytjgbdicbdlollaa.B
open Go.RowKit Go.Proofs.YtjgbdicbdlollaaW.PrintWords Go.Proofs.YtjgbdicbdlollaaW.PrintLast Go.Proofs.YtjgbdicbdlollaaW.PrintMore
attribute [local go_sem] max2_int min2_int max_two min_two max_three min_three max_four min_four   -- for this text's walks alone
set_option linter.unusedVariables false
set_option linter.unusedSimpArgs false
def ratio_divisor.f : Nat → Int → Int → Option (Int)
  | 0, _, _ => none
  | k + 1, a0, a1 => if a1 = 0 then (some (mx a0 (wrap64 (-a0)))) else ((ratio_divisor.f k a1 (Int.tmod a0 a1)).bind fun t343 => (some t343))
theorem ratio_divisor.mono_l : ∀ k, (∀ y0 y1, LeO (ratio_divisor.f k y0 y1) (ratio_divisor.f (k + 1) y0 y1))
  | 0 => fun _ _ r h => by simp [ratio_divisor.f] at h
  | k + 1 => by
    have ih0 := ratio_divisor.mono_l k
    · intro y0 y1
      unfold ratio_divisor.f
      repeat' first
      | (with_reducible exact ih0 _ _)
      | (with_reducible exact LeO.refl _)
      | (with_reducible exact LeO.none _)
      | (with_reducible refine LeO.ite ?_ ?_)
      | (with_reducible refine LeO.bind ?_ (fun _ => ?_))
      | exact ih0 _ _
      | exact LeO.none _
      | refine LeO.ite ?_ ?_
      | refine LeO.bind ?_ (fun _ => ?_)
theorem ratio_divisor.mono : ∀ a0 a1 k, LeO (ratio_divisor.f k a0 a1) (ratio_divisor.f (k + 1) a0 a1) := by
  intro a0 a1 k
  have ih0 := ratio_divisor.mono_l k
  exact ih0 a0 a1
set_option maxHeartbeats 8000000 in
set_option maxRecDepth 100000 in
theorem ratio_divisor.calls (k : Nat) : ∀ (a0 : Int) (a1 : Int) (r : Int) (w : World) (h : ratio_divisor.f k a0 a1 = some r),
  Calls Try.prog 99 #[.int .i64 a0, .int .i64 a1] w fun e w' => e = .returned (.int .i64 r) ∧ Below w.heap.size w w' := by
 induction k using Nat.strongRecOn with
 | _ k ih =>
 intro a0 a1 r w h
 cases k with
 | zero => exact absurd h (by simp [ratio_divisor.f])
 | succ k =>
 simp only [ratio_divisor.f] at h
 have HB := Az0.mk (Below.refl w.heap.size w)
 have H : (if a1 = 0 then (some (mx a0 (wrap64 (-a0)))) else ((ratio_divisor.f k a1 (Int.tmod a0 a1)).bind fun t343 => (some t343))) = some r := h
 clear h
 by_cases c3 : a1 = 0
 ·rw [if_pos c3] at H
  have c3b0 : (a1 == 0) = true := beq_iff_eq.mpr c3
  have c3b1 : (a1 != 0) = false := bne_eq_false_iff_eq.mpr c3
  clear c3
  obtain ⟨ji4, hji4⟩ : ∃ j_ : Int, (mx a0 (wrap64 (-a0))) = j_ := ⟨_, rfl⟩
  replace H : (some ji4) = some r := by first | (rw [hji4] at H; exact H) | (simp only [hji4] at H ⊢; exact H)
  have hji4_ : (if a0 < (wrap64 (-a0)) then (wrap64 (-a0)) else a0) = ji4 := hji4
  obtain rfl := Option.some.inj H
  go_enter Try.func99, Try.ntmps99
  go_wp2
  go_ret
  exact ⟨by first | rfl | (simp [errW_none, errW_some] <;> rfl) | (simp only [← hji4]; first | rfl | (simp [errW_none, errW_some] <;> rfl)) | (simp [*, errW_none, errW_some] <;> rfl), by exact Ups.w HB.out⟩
 ·rw [if_neg c3] at H
  have c3b0 : (a1 == 0) = false := beq_eq_false_iff_ne.mpr c3
  have c3b1 : (a1 != 0) = true := bne_iff_ne.mpr c3
  replace H := Option.bind_eq_some_iff.mp H
  obtain ⟨t343, A50, H⟩ := H
  replace H : (some t343) = some r := H
  have A5 := Az0.mk A50
  clear A50
  obtain rfl := Option.some.inj H
  go_enter Try.func99, Try.ntmps99
  go_wp2_with (first | ((with_reducible refine gate_callee (f := 99) rfl ?_); refine goesL_ (some 15) rfl rfl Try.func99 (by kernel_rfl) rfl #[.int .i64 a1, .int .i64 (Int.tmod a0 a1)] rfl (by (try simp only [List.map_toArray, List.map_cons, List.map_nil]); first | done | rfl | (simp only [List.length_drop, List.length_take]; rfl)) ?_; (with_reducible refine (ih k (by omega) a1 (Int.tmod a0 a1) t343 _ A5.out).mono ?_); rintro e w6 ⟨rfl, hb⟩; refine ⟨_, rfl, ?_⟩; have n0_ := Az0.mk (bP_ (by exact Ups.w HB.out) hb); clear HB; have HB := n0_; clear n0_; (try clear hb); (try clear hb2); (try clear hk); (try clear hi)))
  go_ret
  exact ⟨by first | rfl | (simp [errW_none, errW_some] <;> rfl) | (simp [*, errW_none, errW_some] <;> rfl), by exact Ups.w HB.out⟩
mutual
def ratio_Parts.l0 : Nat → List Int → Int → Int → List Int → Int → Int → Option (List Int × Int)
  | 0, _, _, _, _, _, _ => none
  | k + 1, x0, x1, x5, x12, x13, x14 => if x14 < x13 then (if 0 ≤ x14 then (if x14 < (x12.length : Int) then ((ratio_divisor.f k x5 (rd x12 x14)).bind fun t352 => (ratio_Parts.l0 k x0 x1 t352 x12 x13 (wrap64 (x14 + 1)))) else (none)) else (none)) else (if 0 ≤ (x0.length : Int) then (if ((x0.length : Int) : Int).toNat ≤ 35184372088832 then (ratio_Parts.l1 k x1 (mx x5 (wrap64 (-x5))) (List.replicate ((x0.length : Int) : Int).toNat 0) x0 (x0.length : Int) 0) else (none)) else (none))
def ratio_Parts.l1 : Nat → Int → Int → List Int → List Int → Int → Int → Option (List Int × Int)
  | 0, _, _, _, _, _, _ => none
  | k + 1, x1, x5, x8, x29, x30, x31 => if x31 < x30 then (if 0 ≤ x31 then (if x31 < (x29.length : Int) then (if x5 = 0 then (none) else (if x31 < (x8.length : Int) then (ratio_Parts.l1 k x1 x5 (x8.set (x31 : Int).toNat (wrap64 (Int.tdiv (rd x29 x31) x5))) x29 x30 (wrap64 (x31 + 1))) else (none))) else (none)) else (none)) else (if x5 = 0 then (none) else (some (x8, wrap64 (Int.tdiv x1 x5))))
end
def ratio_Parts.f (k : Nat) (l0 : List Int) (a1 : Int) : Option (List Int × Int) := ratio_Parts.l0 k l0 a1 a1 l0 (l0.length : Int) 0
theorem ratio_Parts.mono_l : ∀ k, (∀ y0 y1 y2 y3 y4 y5, LeO (ratio_Parts.l0 k y0 y1 y2 y3 y4 y5) (ratio_Parts.l0 (k + 1) y0 y1 y2 y3 y4 y5)) ∧ (∀ y0 y1 y2 y3 y4 y5, LeO (ratio_Parts.l1 k y0 y1 y2 y3 y4 y5) (ratio_Parts.l1 (k + 1) y0 y1 y2 y3 y4 y5))
  | 0 => ⟨fun _ _ _ _ _ _ r h => by simp [ratio_Parts.l0] at h, fun _ _ _ _ _ _ r h => by simp [ratio_Parts.l1] at h⟩
  | k + 1 => by
    obtain ⟨ih0, ih1⟩ := ratio_Parts.mono_l k
    refine ⟨?_, ?_⟩
    · intro y0 y1 y2 y3 y4 y5
      unfold ratio_Parts.l0
      repeat' first
      | (with_reducible exact ih0 _ _ _ _ _ _)
      | (with_reducible exact ih1 _ _ _ _ _ _)
      | (with_reducible exact ratio_divisor.mono _ _ _)
      | (with_reducible exact LeO.refl _)
      | (with_reducible exact LeO.none _)
      | (with_reducible refine LeO.ite ?_ ?_)
      | (with_reducible refine LeO.bind ?_ (fun _ => ?_))
      | exact ih0 _ _ _ _ _ _
      | exact ih1 _ _ _ _ _ _
      | exact ratio_divisor.mono _ _ _
      | exact LeO.none _
      | refine LeO.ite ?_ ?_
      | refine LeO.bind ?_ (fun _ => ?_)
    · intro y0 y1 y2 y3 y4 y5
      unfold ratio_Parts.l1
      repeat' first
      | (with_reducible exact ih0 _ _ _ _ _ _)
      | (with_reducible exact ih1 _ _ _ _ _ _)
      | (with_reducible exact ratio_divisor.mono _ _ _)
      | (with_reducible exact LeO.refl _)
      | (with_reducible exact LeO.none _)
      | (with_reducible refine LeO.ite ?_ ?_)
      | (with_reducible refine LeO.bind ?_ (fun _ => ?_))
      | exact ih0 _ _ _ _ _ _
      | exact ih1 _ _ _ _ _ _
      | exact ratio_divisor.mono _ _ _
      | exact LeO.none _
      | refine LeO.ite ?_ ?_
      | refine LeO.bind ?_ (fun _ => ?_)
theorem ratio_Parts.mono : ∀ a0 a1 k, LeO (ratio_Parts.f k a0 a1) (ratio_Parts.f (k + 1) a0 a1) := by
  intro a0 a1 k
  obtain ⟨ih0, ih1⟩ := ratio_Parts.mono_l k
  unfold ratio_Parts.f
  repeat' first
      | (with_reducible exact ih0 _ _ _ _ _ _)
      | (with_reducible exact ih1 _ _ _ _ _ _)
      | (with_reducible exact ratio_divisor.mono _ _ _)
      | (with_reducible exact LeO.refl _)
      | (with_reducible exact LeO.none _)
      | (with_reducible refine LeO.ite ?_ ?_)
      | (with_reducible refine LeO.bind ?_ (fun _ => ?_))
      | exact ih0 _ _ _ _ _ _
      | exact ih1 _ _ _ _ _ _
      | exact ratio_divisor.mono _ _ _
      | exact LeO.none _
      | refine LeO.ite ?_ ?_
      | refine LeO.bind ?_ (fun _ => ?_)
set_option maxHeartbeats 8000000 in
set_option maxRecDepth 100000 in
theorem ratio_Parts.calls (k : Nat) (A0 : Option Addr) (c0 : Nat) (l0 : List Int) (a1 : Int) (r1 : List Int) (r2 : Int) (w : World) (hr0 : Kd.C (Kd.int .i64) w A0 l0.length l0) (hc0 : l0.length ≤ c0) (h : ratio_Parts.f k l0 a1 = some (r1, r2)) :
  Calls Try.prog 80 #[.slice A0 l0.length c0, .int .i64 a1] w fun e w' => ∃ v0_ : Value, e = .returned (.agg #[v0_, .int .i64 r2]) ∧ Kd.R (Kd.int .i64) 3 w' w.heap.size (fun _ => True) v0_ r1 ∧ Below w.heap.size w w' := by
 have hu26 := Try.underlying26
 have HR0 := Az0.mk hr0
 have HC0 := Az0.mk hc0
 clear hr0 hc0
 have HB := Az0.mk (Below.refl w.heap.size w)
 have H : (ratio_Parts.l0 k l0 a1 a1 l0 (l0.length : Int) 0) = some (r1, r2) := h
 clear h
 have H' := Az0.mk H
 clear H
 go_enter Try.func80, Try.ntmps80
 go_wp2_with (first | ((with_reducible refine gD_ (N := 4) rfl ?_); refine bE_ ?hg (N := 4) ?hd (cs := #[.slice none 0 0, .int .i64 0]) (t := 26) ?hr ?_; (case hd => rfl); (case hg => rfl); (case hr => first | (go_simp; done) | (go_simp; rfl)); intro gb350 hg w3 hbox hb; have n0_ := Az0.mk (bP_ (by exact Ups.w HB.out) hb); have n1_ := Az0.mk (hbox); have n2_ := Az0.mk ((by rw [hg]; exact (bZ_ (by exact Ups.w HB.out)) : w.heap.size ≤ gb350)); have n3_ := Az0.mk ((by rw [hg]; exact (bZ_ (by exact Ups.w HB.out)) : w.heap.size ≤ gb350)); clear HB; have HB := n0_; have BK350 := n1_; have GW350 := n2_; have GE350 := n3_; clear n0_ n1_ n2_ n3_; clear hb hbox hg))
 go_loopg [5, 14] k (fun kq v5 v14 w' => ∃ (x5_1 : Int) (x14_1 : Int), v5 = .int .i64 x5_1 ∧ v14 = .int .i64 x14_1 ∧ Az0 (ratio_Parts.l0 kq l0 a1 x5_1 l0 (l0.length : Int) x14_1 = some (r1, r2)) ∧ Az0 (kq ≤ k) ∧ Az0 (w'.heap[gb350]? = some (.cells #[(.slice none 0 0), .int .i64 0] 26 (0, 0))) ∧ Az0 (Below w.heap.size w w'))
 case atStart => exact ⟨(a1), (0), (by first | rfl | (simp; done) | (simp [*]; done)), (by first | rfl | (simp; done) | (simp [*]; done)), H', ⟨Nat.le_refl _⟩, ⟨by refine Ups.b ?_; exact BK350.out⟩, ⟨by repeat (first | (with_reducible first | exact HB.out | refine Up1.w ?_ | refine bS_ ?_ GE350.out) | exact HB.out)⟩⟩
 case round =>
  clear H'
  try clear p2
  obtain ⟨x5_1, x14_1, rfl, rfl, HA, HK1, BK350, HB⟩ := hrel
  cases gk with
  | zero => exact absurd HA.out (by simp [ratio_Parts.l0])
  | succ k1 =>
   have H := HA.out
   clear HA
   simp only [ratio_Parts.l0] at H
   by_cases c4 : x14_1 < (l0.length : Int)
   ·rw [if_pos c4] at H
    have c4b0 : decide (x14_1 < (l0.length : Int)) = true := decide_eq_true c4
    clear c4
    by_cases c5 : 0 ≤ x14_1
    ·rw [if_pos c5] at H
     have c5b0 : decide (0 ≤ x14_1) = true := decide_eq_true c5
     clear c5
     by_cases c6 : x14_1 < (l0.length : Int)
     ·rw [if_pos c6] at H
      have c6b0 : decide (x14_1 < (l0.length : Int)) = true := decide_eq_true c6
      clear c6
      replace H := Option.bind_eq_some_iff.mp H
      obtain ⟨t352, A70, H⟩ := H
      replace H : (ratio_Parts.l0 k1 l0 a1 t352 l0 (l0.length : Int) (wrap64 (x14_1 + 1))) = some (r1, r2) := H
      have A7 := Az0.mk A70
      clear A70
      have H' := Az0.mk H
      clear H
      have p351 : 0 ≤ (x14_1 : Int) := of_decide_eq_true (by first | (with_reducible assumption) | assumption)
      have q351 : x14_1 < (l0.length : Int) := of_decide_eq_true (by first | (with_reducible assumption) | assumption)
      obtain ⟨ad351, e351, hx351_0⟩ := Kd.at_int HR0.out x14_1 p351 q351
      cases e351
      replace hx351_0 := (HB.out.cell (World.block_lt_of_cell? w _ hx351_0)).trans hx351_0
      replace p351 := eq_true p351
      replace q351 := eq_true q351
      go_wp2_with (first | ((with_reducible refine gate_callee (f := 99) rfl ?_); refine goesL_ (some 20) rfl rfl Try.func99 (by kernel_rfl) rfl #[.int .i64 x5_1, .int .i64 (rd l0 x14_1)] rfl (by (try simp only [List.map_toArray, List.map_cons, List.map_nil]); first | done | rfl | (simp only [List.length_drop, List.length_take]; rfl)) ?_; (with_reducible refine (ratio_divisor.calls k1 x5_1 (rd l0 x14_1) t352 _ A7.out).mono ?_); rintro e w8 ⟨rfl, hb⟩; refine ⟨_, rfl, ?_⟩; have n0_ := Az0.mk (bB_ (g := gb350) (o := .cells #[.slice none 0 0, .int .i64 0] 26 (0, 0)) (by refine Ups.b ?_; exact BK350.out) hb); have n1_ := Az0.mk (bP_ (by repeat (first | (with_reducible first | exact HB.out | refine Up1.w ?_ | refine bS_ ?_ GE350.out) | exact HB.out)) hb); clear BK350; clear HB; have BK350 := n0_; have HB := n1_; clear n0_ n1_; (try clear hb); (try clear hb2); (try clear hk); (try clear hi)))
      go_roundg k1
      case measure => have := HK1.out; omega
      case rel => exact ⟨(t352), (wrap64 (x14_1 + 1)), (by first | rfl | (simp; done) | (simp [*]; done)), (by first | rfl | (simp; done) | (simp [*]; done)), H', ⟨by have := HK1.out; omega⟩, ⟨by refine Ups.b ?_; exact BK350.out⟩, ⟨by repeat (first | (with_reducible first | exact HB.out | refine Up1.w ?_ | refine bS_ ?_ GE350.out) | exact HB.out)⟩⟩
     ·rw [if_neg c6] at H
      exact absurd H (by simp)
    ·rw [if_neg c5] at H
     exact absurd H (by simp)
   ·rw [if_neg c4] at H
    have c4b0 : decide (x14_1 < (l0.length : Int)) = false := decide_eq_false c4
    clear c4
    obtain ⟨ji9, hji9⟩ : ∃ j_ : Int, (mx x5_1 (wrap64 (-x5_1))) = j_ := ⟨_, rfl⟩
    replace H : (if 0 ≤ (l0.length : Int) then (if ((l0.length : Int) : Int).toNat ≤ 35184372088832 then (ratio_Parts.l1 k1 a1 ji9 (List.replicate ((l0.length : Int) : Int).toNat 0) l0 (l0.length : Int) 0) else (none)) else (none)) = some (r1, r2) := by first | (rw [hji9] at H; exact H) | (simp only [hji9] at H ⊢; exact H)
    have hji9_ : (if x5_1 < (wrap64 (-x5_1)) then (wrap64 (-x5_1)) else x5_1) = ji9 := hji9
    by_cases c10 : 0 ≤ (l0.length : Int)
    ·rw [if_pos c10] at H
     have c10b0 := eq_true c10
     have c10b1 : decide (0 ≤ (l0.length : Int)) = true := decide_eq_true c10
     clear c10
     by_cases c11 : ((l0.length : Int) : Int).toNat ≤ 35184372088832
     ·rw [if_pos c11] at H
      have c11b0 := eq_true c11
      have c11b1 : decide (((l0.length : Int) : Int).toNat ≤ 35184372088832) = true := decide_eq_true c11
      clear c11
      obtain ⟨y353, hy353⟩ : ∃ y_ : List Int, y_ = (List.replicate ((l0.length : Int) : Int).toNat 0) := ⟨_, rfl⟩
      replace H : (ratio_Parts.l1 k1 a1 ji9 y353 l0 (l0.length : Int) 0) = some (r1, r2) := by first | (rw [hy353]; with_reducible exact H) | (have H2_ := (Option.bind_some _ _).symm.trans H; rw [hy353]; with_reducible exact H2_) | (have H2_ := (Option.bind_some _ _).symm.trans H; with_reducible exact H2_) | with_reducible exact H | (rw [hy353]; exact H) | exact H
      have Ny353 := Az0.mk hy353
      clear hy353
      have H' := Az0.mk H
      clear H
      go_wp2_with (first | ((with_reducible refine gD_ (N := 28) rfl ?_); refine Kd.R_make (Kd.int .i64) _ 3 rfl (N := 28) rfl 24 _ _ rfl (l0.length : Int) rfl rfl Try.underlying24 (.int .i64 0) 8 info3 rfl (by decide) (by omega) 0 (ok := fun _ => True) (okp := fun _ => True) rfl (fun _ hk => hk) trivial (of_decide_eq_true (by first | (with_reducible assumption) | assumption)) (Nat.le_trans (Nat.mul_le_mul_right _ (of_decide_eq_true (by first | (with_reducible assumption) | assumption) : (l0.length : Int).toNat ≤ 35184372088832)) (by omega)) (Below.refl _ _) (Nat.le_refl _) ?_; intro v354 w12 ho13 hb hg_ hnew_; clear hg_ hnew_; (first | rw [← Ny353.out] at ho13 | (simp only [Int.reduceToNat] at ho13; rw [← Ny353.out] at ho13)); have n0_ := Az0.mk (Kd.R_lower ho13 (bZ_ (by repeat (first | (with_reducible first | exact HB.out | refine Up1.w ?_ | refine bS_ ?_ GE350.out) | exact HB.out)))); have n1_ := Az0.mk (bB_ (g := gb350) (o := .cells #[.slice none 0 0, .int .i64 0] 26 (0, 0)) (by refine Ups.b ?_; exact BK350.out) hb); have n2_ := Az0.mk (bP_ (by repeat (first | (with_reducible first | exact HB.out | refine Up1.w ?_ | refine bS_ ?_ GE350.out) | exact HB.out)) hb); clear BK350; clear HB; have HO355 := n0_; have BK350 := n1_; have HB := n2_; clear n0_ n1_ n2_; clear hb ho13))
      go_loopg [31] k1 (fun kq v31 w' => ∃ (x8_2 : List Int) (x31_2 : Int), v31 = .int .i64 x31_2 ∧ Az0 (ratio_Parts.l1 kq a1 ji9 x8_2 l0 (l0.length : Int) x31_2 = some (r1, r2)) ∧ Az0 (kq ≤ k1) ∧ Az0 (Kd.R (Kd.int .i64) 3 w' w.heap.size (fun _ => True) v354 x8_2) ∧ Az0 (w'.heap[gb350]? = some (.cells #[(.slice none 0 0), .int .i64 0] 26 (0, 0))) ∧ Az0 (Below w.heap.size w w'))
      case atStart => exact ⟨(y353), (0), (by first | rfl | (simp; done) | (simp [*]; done)), H', ⟨Nat.le_refl _⟩, ⟨by (repeat refine Up1.r ?_); exact HO355.out⟩, ⟨by refine Ups.b ?_; exact BK350.out⟩, ⟨by repeat (first | (with_reducible first | exact HB.out | refine Up1.w ?_ | refine bS_ ?_ GE350.out) | exact HB.out)⟩⟩
      case round =>
       clear H'
       try clear c1
       try clear p2
       try clear p3
       try clear q3
       try clear hx3
       try clear c4
       try clear c4b0
       try clear c5
       try clear c5b0
       try clear c6
       try clear c6b0
       try clear p6
       try clear c8
       try clear c9
       try clear c10
       try clear c10b0
       try clear c10b1
       try clear c11
       try clear c11b0
       try clear c11b1
       try clear hx351_0
       try clear p2
       try clear p351
       try clear q351
       obtain ⟨x8_2, x31_2, rfl, HA, HK2, HO_8, BK350, HB⟩ := hrel
       cases gk with
       | zero => exact absurd HA.out (by simp [ratio_Parts.l1])
       | succ k2 =>
        have H := HA.out
        clear HA
        simp only [ratio_Parts.l1] at H
        by_cases c14 : x31_2 < (l0.length : Int)
        ·rw [if_pos c14] at H
         have c14b0 : decide (x31_2 < (l0.length : Int)) = true := decide_eq_true c14
         clear c14
         by_cases c15 : 0 ≤ x31_2
         ·rw [if_pos c15] at H
          have c15b0 : decide (0 ≤ x31_2) = true := decide_eq_true c15
          clear c15
          by_cases c16 : x31_2 < (l0.length : Int)
          ·rw [if_pos c16] at H
           have c16b0 : decide (x31_2 < (l0.length : Int)) = true := decide_eq_true c16
           clear c16
           by_cases c17 : ji9 = 0
           ·rw [if_pos c17] at H
            exact absurd H (by simp)
           ·rw [if_neg c17] at H
            have c17b0 : (ji9 == 0) = false := beq_eq_false_iff_ne.mpr c17
            have c17b1 : (ji9 != 0) = true := bne_iff_ne.mpr c17
            by_cases c18 : x31_2 < (x8_2.length : Int)
            ·rw [if_pos c18] at H
             have c18b0 : decide (x31_2 < (x8_2.length : Int)) = true := decide_eq_true c18
             clear c18
             obtain ⟨y357, hy357⟩ : ∃ y_ : List Int, y_ = (x8_2.set (x31_2 : Int).toNat (wrap64 (Int.tdiv (rd l0 x31_2) ji9))) := ⟨_, rfl⟩
             replace H : (ratio_Parts.l1 k2 a1 ji9 y357 l0 (l0.length : Int) (wrap64 (x31_2 + 1))) = some (r1, r2) := by first | (rw [hy357]; with_reducible exact H) | (have H2_ := (Option.bind_some _ _).symm.trans H; rw [hy357]; with_reducible exact H2_) | (have H2_ := (Option.bind_some _ _).symm.trans H; with_reducible exact H2_) | with_reducible exact H | (rw [hy357]; exact H) | exact H
             have Ny357 := Az0.mk hy357
             clear hy357
             have H' := Az0.mk H
             clear H
             have p356 : 0 ≤ (x31_2 : Int) := of_decide_eq_true (by first | (with_reducible assumption) | assumption)
             have q356 : x31_2 < (l0.length : Int) := of_decide_eq_true (by first | (with_reducible assumption) | assumption)
             obtain ⟨ad356, e356, hx356_0⟩ := Kd.at_int HR0.out x31_2 p356 q356
             cases e356
             replace hx356_0 := (HB.out.cell (World.block_lt_of_cell? w _ hx356_0)).trans hx356_0
             replace p356 := eq_true p356
             replace q356 := eq_true q356
             have p19 : 0 ≤ (x31_2 : Int) := of_decide_eq_true (by first | (with_reducible assumption) | assumption)
             have q19 : (x31_2 : Int) < ((x8_2.length : Int) : Int) := of_decide_eq_true (by first | (with_reducible assumption) | assumption)
             obtain ⟨go19, co19, eo19, gb19, gl19, cl19, HG19⟩ := Kd.R_form HO_8.out (by omega)
             (first | cases eo19 | (injection eo19 with ea_ en_ ec_; (first | subst ea_ | (injection ea_ with ea_; subst ea_)); subst ec_; clear en_))
             have GB19 := Az0.mk gb19
             have GG19 := Az0.mk HG19
             clear gb19 gl19 HG19
             obtain ⟨hx19_0, hf19_0⟩ := Kd.R_celln 0 HO_8.out (x31_2 : Int) p19 q19
             replace p19 := eq_true p19
             replace q19 := eq_true q19
             have HP20 := Kd.R_putg HO_8.out (x31_2 : Int) (wrap64 (Int.tdiv (rd l0 x31_2) ji9))
             go_wp2_with (first | ((with_reducible refine gate_store (t := 3) (p := 41) rfl ?_); refine store_event (t := 3) (p := 41) (v := ?vo_w21) (w1 := (wr.setCell ⟨go19, (x31_2 : Int).toNat, none⟩ (.int .i64 (wrap64 (Int.tdiv (rd l0 x31_2) ji9))))) ?hg ?ho ?hn ?hr ?_; (case ho => rfl); (case hg => rfl); (case hn => rfl); (case hr => first | (go_simp; done) | (go_simp; rfl)); intro w21 hw; have hg : wr.grownBy w21 (some go19) := (by rw [hw]; exact HP20.2); have hp_ : Kd.R (Kd.int .i64) 3 w21 w.heap.size (fun _ => True) (.slice (some ⟨go19, 0, none⟩) x8_2.length co19) y357 := (by rw [hw, Ny357.out]; exact HP20.1); clear HP20; have n0_ := Az0.mk (hp_); have n1_ := Az0.mk (blk_grown (g := gb350) (o := .cells #[.slice none 0 0, .int .i64 0] 26 (0, 0)) (by refine Ups.b ?_; exact BK350.out) hg (Kd.R_ne HO_8.out BK350.out (by decide))); have n2_ := Az0.mk ((by rw [hw]; exact bS_ (HB.out) GB19.out : Below w.heap.size w w21)); clear HO_8; clear BK350; clear HB; have HO_8 := n0_; have BK350 := n1_; have HB := n2_; clear n0_ n1_ n2_; clear hg hw hp_))
             go_roundg k2
             case measure => have := HK1.out; have := HK2.out; omega
             case rel => exact ⟨(y357), (wrap64 (x31_2 + 1)), (by first | rfl | (simp; done) | (simp [*]; done)), H', ⟨by have := HK1.out; have := HK2.out; omega⟩, ⟨by (repeat refine Up1.r ?_); exact HO_8.out⟩, ⟨by refine Ups.b ?_; exact BK350.out⟩, ⟨by repeat (first | (with_reducible first | exact HB.out | refine Up1.w ?_ | refine bS_ ?_ GE350.out) | exact HB.out)⟩⟩
            ·rw [if_neg c18] at H
             exact absurd H (by simp)
          ·rw [if_neg c16] at H
           exact absurd H (by simp)
         ·rw [if_neg c15] at H
          exact absurd H (by simp)
        ·rw [if_neg c14] at H
         have c14b0 : decide (x31_2 < (l0.length : Int)) = false := decide_eq_false c14
         clear c14
         by_cases c22 : ji9 = 0
         ·rw [if_pos c22] at H
          exact absurd H (by simp)
         ·rw [if_neg c22] at H
          have c22b0 : (ji9 == 0) = false := beq_eq_false_iff_ne.mpr c22
          have c22b1 : (ji9 != 0) = true := bne_iff_ne.mpr c22
          simp only [Option.some.injEq, Prod.mk.injEq] at H
          obtain ⟨rfl, rfl⟩ := H
          obtain ⟨Ao23, co23, eo23⟩ := Kd.R_slice HO_8.out
          subst eo23
          have hcz24_0 : wr.cell? ⟨gb350, 0, none⟩ = some (.slice none 0 0) := (bkC BK350.out 0).trans rfl
          have hcz24_1 : wr.cell? ⟨gb350, 1, none⟩ = some (.int .i64 0) := (bkC BK350.out 1).trans rfl
          have hfz24_0 := bF_ BK350.out 0
          have hfz24_1 := bF_ BK350.out 1
          go_wp2
          refine bodyPost_ret (results_cell_row rfl _ _ gb350 26 #[.slice Ao23 x8_2.length co23, .int .i64 (wrap64 (Int.tdiv a1 ji9))] (0, 0) _ rfl (by refine Ups.b ?_; refine blk_put (cs := #[.slice Ao23 x8_2.length co23, .int .i64 0]) ?_ 1 _ rfl; refine Ups.b ?_; refine blk_put (cs := #[.slice none 0 0, .int .i64 0]) ?_ 0 _ rfl; refine Ups.b ?_; exact BK350.out) Try.underlying26 rfl (by kernel_rfl)) rfl ?_
          exact ⟨_, by first | rfl | (simp [errW_none, errW_some] <;> rfl) | (simp only [← hji9]; first | rfl | (simp [errW_none, errW_some] <;> rfl)) | (simp [*, errW_none, errW_some] <;> rfl), by (repeat refine Up1.r ?_); exact Kd.rM_ (Kd.rF_ (p := ⟨gb350, 1, none⟩) (Kd.rF_ (p := ⟨gb350, 0, none⟩) (Kd.rY_ HO_8.out BK350.out (by decide)) (fun _ hk => hk.2) (.slice Ao23 x8_2.length co23)) (fun _ hk => hk.2) (.int .i64 (wrap64 (Int.tdiv a1 ji9)))) (fun _ hk => trivial), by repeat (first | (with_reducible first | exact HB.out | refine Up1.w ?_ | refine bS_ ?_ GE350.out) | exact HB.out)⟩
     ·rw [if_neg c11] at H
      exact absurd H (by simp)
    ·rw [if_neg c10] at H
     exact absurd H (by simp)
end Go.Proofs.Ytjgbdicbdlollaa.B
namespace Go.Proofs.Ytjgbdicbdlollaa.B
open Go.RowKit Go.Proofs.YtjgbdicbdlollaaW.PrintWords Go.Proofs.YtjgbdicbdlollaaW.PrintLast Go.Proofs.YtjgbdicbdlollaaW.PrintMore
attribute [local go_sem] max2_int min2_int max_two min_two max_three min_three max_four min_four   -- for this text's walks alone
set_option linter.unusedVariables false
set_option linter.unusedSimpArgs false
mutual
def jGu.l0 : Nat → List Int → List Int → Int → Int → List (List Int) → List Unit → (Int → Int → Option Int) → Option (List Int)
  | 0, _, _, _, _, _, _, _ => none
  | k + 1, x5, x15, x16, x17, x1000, x1001, x1002 => if x17 < x16 then (if 0 ≤ x17 then (if x17 < (x15.length : Int) then (jGu.l1 k x5 x17 (rd x15 x17) x15 x16 x17 (x5.length : Int) 0 x1000 x1001 x1002) else (none)) else (none)) else (some x5)
def jGu.l1 : Nat → List Int → Int → Int → List Int → Int → Int → Int → Int → List (List Int) → List Unit → (Int → Int → Option Int) → Option (List Int)
  | 0, _, _, _, _, _, _, _, _, _, _, _ => none
  | k + 1, x5, x6, x7, x15, x16, x17, x23, x24, x1000, x1001, x1002 => if x24 < x23 then (if 0 ≤ x24 then (if x24 < (x5.length : Int) then (if 0 ≤ x6 then (if x6 < (x1000.length : Int) then (if 0 ≤ x7 then (if x7 < ((rd_L12 x1000 x6).length : Int) then (jGu.l1 k (x5.set (x24 : Int).toNat (wrap64 ((rd x5 x24) + (Go.bits .and .i64 (shr .i64 (rd (rd_L12 x1000 x6) x7) x24) 1)))) x6 x7 x15 x16 x17 x23 (wrap64 (x24 + 1)) x1000 x1001 x1002) else (none)) else (none)) else (none)) else (none)) else (none)) else (none)) else (jGu.l0 k x5 x15 x16 (wrap64 (x17 + 1)) x1000 x1001 x1002)
end
def jGu.f (k : Nat) (l0_0 : List (List Int)) (l0_1 : List Unit) (a0_2 : (Int → Int → Option Int)) (l1 : List Int) : Option (List Int) := if 0 ≤ (l0_1.length : Int) then (if ((l0_1.length : Int) : Int).toNat ≤ 35184372088832 then (jGu.l0 k (List.replicate ((l0_1.length : Int) : Int).toNat 0) l1 (l1.length : Int) 0 l0_0 l0_1 a0_2) else (none)) else (none)
theorem jGu.mono_l : ∀ k, (∀ y0 y1 y2 y3 y4 y5 y6, LeO (jGu.l0 k y0 y1 y2 y3 y4 y5 y6) (jGu.l0 (k + 1) y0 y1 y2 y3 y4 y5 y6)) ∧ (∀ y0 y1 y2 y3 y4 y5 y6 y7 y8 y9 y10, LeO (jGu.l1 k y0 y1 y2 y3 y4 y5 y6 y7 y8 y9 y10) (jGu.l1 (k + 1) y0 y1 y2 y3 y4 y5 y6 y7 y8 y9 y10))
  | 0 => ⟨fun _ _ _ _ _ _ _ r h => by simp [jGu.l0] at h, fun _ _ _ _ _ _ _ _ _ _ _ r h => by simp [jGu.l1] at h⟩
  | k + 1 => by
    obtain ⟨ih0, ih1⟩ := jGu.mono_l k
    refine ⟨?_, ?_⟩
    · intro y0 y1 y2 y3 y4 y5 y6
      unfold jGu.l0
      repeat' first
      | (with_reducible exact ih0 _ _ _ _ _ _ _)
      | (with_reducible exact ih1 _ _ _ _ _ _ _ _ _ _ _)
      | (with_reducible exact LeO.refl _)
      | (with_reducible exact LeO.none _)
      | (with_reducible refine LeO.ite ?_ ?_)
      | (with_reducible refine LeO.bind ?_ (fun _ => ?_))
      | exact ih0 _ _ _ _ _ _ _
      | exact ih1 _ _ _ _ _ _ _ _ _ _ _
      | exact LeO.none _
      | refine LeO.ite ?_ ?_
      | refine LeO.bind ?_ (fun _ => ?_)
    · intro y0 y1 y2 y3 y4 y5 y6 y7 y8 y9 y10
      unfold jGu.l1
      repeat' first
      | (with_reducible exact ih0 _ _ _ _ _ _ _)
      | (with_reducible exact ih1 _ _ _ _ _ _ _ _ _ _ _)
      | (with_reducible exact LeO.refl _)
      | (with_reducible exact LeO.none _)
      | (with_reducible refine LeO.ite ?_ ?_)
      | (with_reducible refine LeO.bind ?_ (fun _ => ?_))
      | exact ih0 _ _ _ _ _ _ _
      | exact ih1 _ _ _ _ _ _ _ _ _ _ _
      | exact LeO.none _
      | refine LeO.ite ?_ ?_
      | refine LeO.bind ?_ (fun _ => ?_)
theorem jGu.mono : ∀ a0 a1 a2 a3 k, LeO (jGu.f k a0 a1 a2 a3) (jGu.f (k + 1) a0 a1 a2 a3) := by
  intro a0 a1 a2 a3 k
  obtain ⟨ih0, ih1⟩ := jGu.mono_l k
  unfold jGu.f
  repeat' first
      | (with_reducible exact ih0 _ _ _ _ _ _ _)
      | (with_reducible exact ih1 _ _ _ _ _ _ _ _ _ _ _)
      | (with_reducible exact LeO.refl _)
      | (with_reducible exact LeO.none _)
      | (with_reducible refine LeO.ite ?_ ?_)
      | (with_reducible refine LeO.bind ?_ (fun _ => ?_))
      | exact ih0 _ _ _ _ _ _ _
      | exact ih1 _ _ _ _ _ _ _ _ _ _ _
      | exact LeO.none _
      | refine LeO.ite ?_ ?_
      | refine LeO.bind ?_ (fun _ => ?_)
def jGu.T8 : Bool × List (List Nat × List Nat) := (true, [([], []), ([], []), ([0, 1], [0, 1]), ([2], [2]), ([], []), ([4], [4]), ([5], [5]), ([6], [6]), ([], []), ([7, 8], [7, 8]), ([9], [9]), ([], []), ([10, 11], [10, 11]), ([12], [12]), ([], []), ([13, 14], [13, 14]), ([15], [15]), ([3, 16], [3, 16]), ([0, 1, 0, 1, 2, 3, 4, 5, 6, 7, 8, 9, 10, 11, 12, 13, 14, 15, 16, 17], [0, 1]), ([18, 17, 0, 1, 2, 3, 4, 5, 6, 7, 8, 9, 10, 11, 12, 13, 14, 15, 16, 17], [17, 18])])
def jGu.B8 : List Nat := [0, 0, 3, 7, 0, 16, 48, 112, 0, 496, 1008, 0, 4080, 8176, 0, 32752, 65520, 131071, 262143, 524287]
theorem jGu.tab8 : rtab .any (opsOf Try.f66 8) = jGu.T8 := by kernel_rfl
theorem jGu.bits8 : waitsOk jGu.T8.2 jGu.B8 = true := by kernel_rfl
set_option maxHeartbeats 8000000 in
set_option maxRecDepth 100000 in
theorem jGu.calls (k : Nat) (g0 : Nat) (A0_0 : Option Addr) (c0_0 : Nat) (l0_0 : List (List Int)) (A0_1 : Option Addr) (c0_1 : Nat) (l0_1 : List Unit) (vf0_2 : Value) (a0_2 : (Int → Int → Option Int)) (A1 : Option Addr) (c1 : Nat) (l1 : List Int) (r : List Int) (w : World) (hP0 : w.heap[g0]? = some (.cells #[.slice A0_0 l0_0.length c0_0, .slice A0_1 l0_1.length c0_1, vf0_2] 97 (0, 0))) (hr0_0 : Kd.C (Kd.slice 3 (Kd.int .i64)) w A0_0 l0_0.length l0_0) (hc0_0 : l0_0.length ≤ c0_0) (hr0_1 : Kd.C kOp w A0_1 l0_1.length l0_1) (hc0_1 : l0_1.length ≤ c0_1) (hF0_2 : IsFn2 Try.prog w vf0_2 a0_2) (hr1 : Kd.C (Kd.int .i64) w A1 l1.length l1) (hc1 : l1.length ≤ c1) (h : jGu.f k l0_0 l0_1 a0_2 l1 = some r) :
  Calls Try.prog 66 #[.pointer (some ⟨g0, 0, none⟩), .slice A1 l1.length c1] w fun e w' => ∃ v0_ : Value, e = .returned (v0_) ∧ Kd.R (Kd.int .i64) 3 w' w.heap.size (fun _ => True) v0_ r ∧ Below w.heap.size w w' := by
 have HP0 := Az0.mk hP0
 clear hP0
 have HR0_0 := Az0.mk hr0_0
 have HC0_0 := Az0.mk hc0_0
 clear hr0_0 hc0_0
 have HR0_1 := Az0.mk hr0_1
 have HC0_1 := Az0.mk hc0_1
 clear hr0_1 hc0_1
 have HF0_2 := Az0.mk hF0_2
 clear hF0_2
 have HR1 := Az0.mk hr1
 have HC1 := Az0.mk hc1
 clear hr1 hc1
 have HB := Az0.mk (Below.refl w.heap.size w)
 have H : (if 0 ≤ (l0_1.length : Int) then (if ((l0_1.length : Int) : Int).toNat ≤ 35184372088832 then (jGu.l0 k (List.replicate ((l0_1.length : Int) : Int).toNat 0) l1 (l1.length : Int) 0 l0_0 l0_1 a0_2) else (none)) else (none)) = some r := h
 clear h
 by_cases c3 : 0 ≤ (l0_1.length : Int)
 ·rw [if_pos c3] at H
  have c3b0 := eq_true c3
  have c3b1 : decide (0 ≤ (l0_1.length : Int)) = true := decide_eq_true c3
  clear c3
  by_cases c4 : ((l0_1.length : Int) : Int).toNat ≤ 35184372088832
  ·rw [if_pos c4] at H
   have c4b0 := eq_true c4
   have c4b1 : decide (((l0_1.length : Int) : Int).toNat ≤ 35184372088832) = true := decide_eq_true c4
   clear c4
   obtain ⟨y102, hy102⟩ : ∃ y_ : List Int, y_ = (List.replicate ((l0_1.length : Int) : Int).toNat 0) := ⟨_, rfl⟩
   replace H : (jGu.l0 k y102 l1 (l1.length : Int) 0 l0_0 l0_1 a0_2) = some r := by first | (rw [hy102]; with_reducible exact H) | (have H2_ := (Option.bind_some _ _).symm.trans H; rw [hy102]; with_reducible exact H2_) | (have H2_ := (Option.bind_some _ _).symm.trans H; with_reducible exact H2_) | with_reducible exact H | (rw [hy102]; exact H) | exact H
   have Ny102 := Az0.mk hy102
   clear hy102
   have H' := Az0.mk H
   clear H
   have hx101_0 := bkC HP0.out 0
   replace hx101_0 := hx101_0.trans rfl
   have hx101_1 := bkC HP0.out 1
   replace hx101_1 := hx101_1.trans rfl
   have hx101_2 := bkC HP0.out 2
   replace hx101_2 := hx101_2.trans rfl
   go_enter Try.func66, Try.ntmps66
   go_wp2_with (first | ((with_reducible refine gD_ (N := 14) rfl ?_); refine Kd.R_make (Kd.int .i64) _ 3 rfl (N := 14) rfl 24 _ _ rfl (l0_1.length : Int) rfl rfl Try.underlying24 (.int .i64 0) 8 info3 rfl (by decide) (by omega) 0 (ok := fun _ => True) (okp := fun _ => True) rfl (fun _ hk => hk) trivial (of_decide_eq_true (by first | (with_reducible assumption) | assumption)) (Nat.le_trans (Nat.mul_le_mul_right _ (of_decide_eq_true (by first | (with_reducible assumption) | assumption) : (l0_1.length : Int).toNat ≤ 35184372088832)) (by omega)) (Below.refl _ _) (Nat.le_refl _) ?_; intro v103 w5 ho6 hb hg_ hnew_; clear hg_ hnew_; (first | rw [← Ny102.out] at ho6 | (simp only [Int.reduceToNat] at ho6; rw [← Ny102.out] at ho6)); have n0_ := Az0.mk (Kd.R_lower ho6 (bZ_ (by exact Ups.w HB.out))); have n1_ := Az0.mk (bP_ (by exact Ups.w HB.out) hb); clear HB; have HO104 := n0_; have HB := n1_; clear n0_ n1_; clear hb ho6))
   go_loopg [17] k (fun kq v17 w' => ∃ (x5_1 : List Int) (x17_1 : Int), v17 = .int .i64 x17_1 ∧ Az0 (jGu.l0 kq x5_1 l1 (l1.length : Int) x17_1 l0_0 l0_1 a0_2 = some r) ∧ Az0 (kq ≤ k) ∧ Az0 (Kd.R (Kd.int .i64) 3 w' w.heap.size (fun _ => True) v103 x5_1) ∧ Az0 (Below w.heap.size w w'))
   case atStart => exact ⟨(y102), (0), (by first | rfl | (simp; done) | (simp [*]; done)), H', ⟨Nat.le_refl _⟩, ⟨by (repeat refine Up1.r ?_); exact HO104.out⟩, ⟨by exact Ups.w HB.out⟩⟩
   case round =>
    clear H'
    try clear c1
    try clear hx1
    try clear p2
    try clear c3
    try clear c3b0
    try clear c3b1
    try clear c4
    try clear c4b0
    try clear c4b1
    try clear c6
    try clear hx101_0
    try clear hx101_1
    try clear hx101_2
    obtain ⟨x5_1, x17_1, rfl, HA, HK1, HO_5, HB⟩ := hrel
    cases gk with
    | zero => exact absurd HA.out (by simp [jGu.l0])
    | succ k1 =>
     have H := HA.out
     clear HA
     simp only [jGu.l0] at H
     by_cases c7 : x17_1 < (l1.length : Int)
     ·rw [if_pos c7] at H
      have c7b0 : decide (x17_1 < (l1.length : Int)) = true := decide_eq_true c7
      clear c7
      by_cases c8 : 0 ≤ x17_1
      ·rw [if_pos c8] at H
       have c8b0 : decide (0 ≤ x17_1) = true := decide_eq_true c8
       clear c8
       by_cases c9 : x17_1 < (l1.length : Int)
       ·rw [if_pos c9] at H
        have c9b0 : decide (x17_1 < (l1.length : Int)) = true := decide_eq_true c9
        clear c9
        have H' := Az0.mk H
        clear H
        have p105 : 0 ≤ (x17_1 : Int) := of_decide_eq_true (by first | (with_reducible assumption) | assumption)
        have q105 : x17_1 < (l1.length : Int) := of_decide_eq_true (by first | (with_reducible assumption) | assumption)
        obtain ⟨ad105, e105, hx105_0⟩ := Kd.at_int HR1.out x17_1 p105 q105
        cases e105
        replace hx105_0 := (HB.out.cell (World.block_lt_of_cell? w _ hx105_0)).trans hx105_0
        replace p105 := eq_true p105
        replace q105 := eq_true q105
        obtain ⟨Ao10, co10, eo10⟩ := Kd.R_slice HO_5.out
        subst eo10
        go_wp2
        go_loopg [24] k1 (fun kq v24 w' => ∃ (x5_2 : List Int) (x24_2 : Int), v24 = .int .i64 x24_2 ∧ Az0 (jGu.l1 kq x5_2 x17_1 (rd l1 x17_1) l1 (l1.length : Int) x17_1 (x5_1.length : Int) x24_2 l0_0 l0_1 a0_2 = some r) ∧ Az0 (kq ≤ k1) ∧ Az0 (Kd.R (Kd.int .i64) 3 w' w.heap.size (fun _ => True) (.slice Ao10 x5_1.length co10) x5_2) ∧ Az0 (Below w.heap.size w w'))
        case atStart => exact ⟨(x5_1), (0), (by first | rfl | (simp; done) | (simp [*]; done)), H', ⟨Nat.le_refl _⟩, ⟨by (repeat refine Up1.r ?_); exact HO_5.out⟩, ⟨by exact Ups.w HB.out⟩⟩
        case round =>
         clear H'
         try clear c1
         try clear p1
         try clear q1
         try clear hx1
         try clear p2
         try clear c3
         try clear c3b0
         try clear c3b1
         try clear c4
         try clear c4b0
         try clear c4b1
         try clear c6
         try clear c7
         try clear c7b0
         try clear c8
         try clear c8b0
         try clear c9
         try clear c9b0
         try clear p10
         try clear q10
         try clear hx10
         try clear hx101_0
         try clear hx101_1
         try clear hx101_2
         try clear hx105_0
         try clear p105
         try clear p2
         try clear q105
         obtain ⟨x5_2, x24_2, rfl, HA, HK2, HO_5, HB⟩ := hrel
         have hl5_2 := (Kd.R_reads' HO_5.out).1
         rw [hl5_2] at HO_5
         (try simp only [hl5_2])
         cases gk with
         | zero => exact absurd HA.out (by simp [jGu.l1])
         | succ k2 =>
          have H := HA.out
          clear HA
          simp only [jGu.l1] at H
          by_cases c11 : x24_2 < (x5_1.length : Int)
          ·rw [if_pos c11] at H
           have c11b0 : decide (x24_2 < (x5_1.length : Int)) = true := decide_eq_true c11
           (try (have c11b0l := c11b0; simp only [hl5_2] at c11b0l))
           clear c11
           by_cases c12 : 0 ≤ x24_2
           ·rw [if_pos c12] at H
            have c12b0 : decide (0 ≤ x24_2) = true := decide_eq_true c12
            clear c12
            by_cases c13 : x24_2 < (x5_2.length : Int)
            ·rw [if_pos c13] at H
             have c13b0 : decide (x24_2 < (x5_2.length : Int)) = true := decide_eq_true c13
             (try (have c13b0l := c13b0; simp only [hl5_2] at c13b0l))
             clear c13
             by_cases c14 : 0 ≤ x17_1
             ·rw [if_pos c14] at H
              have c14b0 : decide (0 ≤ x17_1) = true := decide_eq_true c14
              clear c14
              by_cases c15 : x17_1 < (l0_0.length : Int)
              ·rw [if_pos c15] at H
               have c15b0 : decide (x17_1 < (l0_0.length : Int)) = true := decide_eq_true c15
               (try (have c15b0l := c15b0; simp only [hl5_2] at c15b0l))
               clear c15
               by_cases c16 : 0 ≤ (rd l1 x17_1)
               ·rw [if_pos c16] at H
                have c16b0 : decide (0 ≤ (rd l1 x17_1)) = true := decide_eq_true c16
                clear c16
                by_cases c17 : (rd l1 x17_1) < ((rd_L12 l0_0 x17_1).length : Int)
                ·rw [if_pos c17] at H
                 have c17b0 : decide ((rd l1 x17_1) < ((rd_L12 l0_0 x17_1).length : Int)) = true := decide_eq_true c17
                 (try (have c17b0l := c17b0; simp only [hl5_2] at c17b0l))
                 clear c17
                 have c18b0 := eq_true (of_decide_eq_true (by first | (with_reducible assumption) | assumption) : 0 ≤ x24_2)
                 obtain ⟨ji19, hji19⟩ : ∃ j_ : Int, (shr .i64 (rd (rd_L12 l0_0 x17_1) (rd l1 x17_1)) x24_2) = j_ := ⟨_, rfl⟩
                 replace H : (jGu.l1 k2 (x5_2.set (x24_2 : Int).toNat (wrap64 ((rd x5_2 x24_2) + (Go.bits .and .i64 (ji19) 1)))) x17_1 (rd l1 x17_1) l1 (l1.length : Int) x17_1 (x5_1.length : Int) (wrap64 (x24_2 + 1)) l0_0 l0_1 a0_2) = some r := by first | (rw [hji19] at H; exact H) | (simp only [hji19] at H ⊢; exact H)
                 have hji19_ : ((rd (rd_L12 l0_0 x17_1) (rd l1 x17_1)) / 2 ^ min x24_2.toNat 64) = ji19 := hji19
                 have hji19z : x24_2 ≤ 64 → ((rd (rd_L12 l0_0 x17_1) (rd l1 x17_1)) / 2 ^ x24_2.toNat) = ji19 := shr_small hji19
                 obtain ⟨y110, hy110⟩ : ∃ y_ : List Int, y_ = (x5_2.set (x24_2 : Int).toNat (wrap64 ((rd x5_2 x24_2) + (Go.bits .and .i64 (ji19) 1)))) := ⟨_, rfl⟩
                 replace H : (jGu.l1 k2 y110 x17_1 (rd l1 x17_1) l1 (l1.length : Int) x17_1 (x5_1.length : Int) (wrap64 (x24_2 + 1)) l0_0 l0_1 a0_2) = some r := by first | (rw [hy110]; with_reducible exact H) | (have H2_ := (Option.bind_some _ _).symm.trans H; rw [hy110]; with_reducible exact H2_) | (have H2_ := (Option.bind_some _ _).symm.trans H; with_reducible exact H2_) | with_reducible exact H | (rw [hy110]; exact H) | exact H
                 have Ny110 := Az0.mk hy110
                 clear hy110
                 have H' := Az0.mk H
                 clear H
                 try go_wp2
                 have n0_ := Az0.mk (Kd.R_drew HO_5.out)
                 have n1_ := Az0.mk (bD1_ HB.out)
                 clear HO_5
                 clear HB
                 have HO_5 := n0_
                 have HB := n1_
                 clear n0_ n1_
                 have p106 : 0 ≤ (x24_2 : Int) := of_decide_eq_true (by first | (with_reducible assumption) | assumption)
                 have q106 : x24_2 < (x5_2.length : Int) := of_decide_eq_true (by first | (with_reducible assumption) | assumption)
                 obtain ⟨ad106, e106, hx106_0⟩ := Kd.at_int (Kd.R_reads' HO_5.out).2.2 x24_2 p106 q106
                 cases e106
                 replace p106 := eq_true p106
                 replace q106 := eq_true q106
                 have hw107_0 : w.cell? ⟨g0, 0, none⟩ = some (.slice A0_0 l0_0.length c0_0) := (bkC HP0.out 0).trans rfl
                 have hw107_1 : w.cell? ⟨g0, 1, none⟩ = some (.slice A0_1 l0_1.length c0_1) := (bkC HP0.out 1).trans rfl
                 have hw107_2 : w.cell? ⟨g0, 2, none⟩ = some (vf0_2) := (bkC HP0.out 2).trans rfl
                 have hx107_0 := bkC HP0.out 0
                 replace hx107_0 := hx107_0.trans rfl
                 replace hx107_0 := (HB.out.cell (World.block_lt_of_cell? w _ hx107_0)).trans hx107_0
                 have hx107_1 := bkC HP0.out 1
                 replace hx107_1 := hx107_1.trans rfl
                 replace hx107_1 := (HB.out.cell (World.block_lt_of_cell? w _ hx107_1)).trans hx107_1
                 have hx107_2 := bkC HP0.out 2
                 replace hx107_2 := hx107_2.trans rfl
                 replace hx107_2 := (HB.out.cell (World.block_lt_of_cell? w _ hx107_2)).trans hx107_2
                 have p108 : 0 ≤ (x17_1 : Int) := of_decide_eq_true (by first | (with_reducible assumption) | assumption)
                 have q108 : x17_1 < (l0_0.length : Int) := of_decide_eq_true (by first | (with_reducible assumption) | assumption)
                 obtain ⟨ad108, A108_0, c108_0, e108, hx108_0, hl108_0, hi108_0⟩ := at_L12 HR0_0.out x17_1 p108 q108
                 have hw108_0 := hx108_0
                 cases e108
                 replace hx108_0 := (HB.out.cell (World.block_lt_of_cell? w _ hx108_0)).trans hx108_0
                 have HR108_0 := Az0.mk hi108_0
                 have HC108_0 := Az0.mk hl108_0
                 clear hi108_0 hl108_0
                 replace p108 := eq_true p108
                 replace q108 := eq_true q108
                 have p109 : 0 ≤ ((rd l1 x17_1) : Int) := of_decide_eq_true (by first | (with_reducible assumption) | assumption)
                 have q109 : (rd l1 x17_1) < ((rd_L12 l0_0 x17_1).length : Int) := of_decide_eq_true (by first | (with_reducible assumption) | assumption)
                 obtain ⟨ad109, e109, hx109_0⟩ := Kd.at_int HR108_0.out (rd l1 x17_1) p109 q109
                 have hw109_0 := hx109_0
                 cases e109
                 replace hx109_0 := (HB.out.cell (World.block_lt_of_cell? w _ hx109_0)).trans hx109_0
                 replace p109 := eq_true p109
                 replace q109 := eq_true q109
                 have p20 : 0 ≤ (x24_2 : Int) := of_decide_eq_true (by first | (with_reducible assumption) | assumption)
                 have q20 : (x24_2 : Int) < ((x5_2.length : Int) : Int) := of_decide_eq_true (by first | (with_reducible assumption) | assumption)
                 obtain ⟨go20, co20, eo20, gb20, gl20, cl20, HG20⟩ := Kd.R_form HO_5.out (by omega)
                 (first | cases eo20 | (injection eo20 with ea_ en_ ec_; (first | subst ea_ | (injection ea_ with ea_; subst ea_)); subst ec_; clear en_))
                 have GB20 := Az0.mk gb20
                 have GG20 := Az0.mk HG20
                 clear gb20 gl20 HG20
                 (first | simp only [add_plain] at hx106_0 | skip)
                 obtain ⟨hx20_0, hf20_0⟩ := Kd.R_celln 0 HO_5.out (x24_2 : Int) p20 q20
                 replace p20 := eq_true p20
                 replace q20 := eq_true q20
                 have HP22 := Kd.R_putn HO_5.out (x24_2 : Int) (wrap64 ((rd x5_2 x24_2) + (Go.bits .and .i64 (ji19) 1)))
                 rw [← Ny110.out] at HP22
                 have HQ22 := Az0.mk HP22
                 clear HP22
                 refine start_ (n := 20) (S := fun w' => w'.cell? ⟨go20, (x24_2).toNat, none⟩ = some (.int .i64 (rd x5_2 x24_2)) ∧ w'.cell? ⟨g0, 0, none⟩ = some (.slice (some ad108) l0_0.length c0_0) ∧ w'.cell? ⟨g0, 1, none⟩ = some (.slice A0_1 l0_1.length c0_1) ∧ w'.cell? ⟨g0, 2, none⟩ = some (vf0_2) ∧ w'.cell? (ad108.add (x17_1).toNat) = some (.slice (some ad109) (rd_L12 l0_0 x17_1).length c108_0) ∧ w'.cell? (ad109.add ((rd l1 x17_1)).toNat) = some (.int .i64 (rd (rd_L12 l0_0 x17_1) (rd l1 x17_1)))) (ds := [19]) #[false, false, false, false, false, false, false, false, false, false, false, false, false, false, false, false, false, false, false, false] (by kernel_rfl) rfl rfl ⟨hx106_0, ((HB.out.cell (World.block_lt_of_cell? w _ hw107_0)).trans hw107_0), ((HB.out.cell (World.block_lt_of_cell? w _ hw107_1)).trans hw107_1), ((HB.out.cell (World.block_lt_of_cell? w _ hw107_2)).trans hw107_2), ((HB.out.cell (World.block_lt_of_cell? w _ hw108_0)).trans hw108_0), ((HB.out.cell (World.block_lt_of_cell? w _ hw109_0)).trans hw109_0)⟩ (fun hHeld => ?_); refine with_tabW jGu.tab8 jGu.bits8 (fun HT_ HW_ => ?_)
                 generalize wr.drew = w21 at HO_5 HB GG20 HQ22 HR108_0 hf20_0 hx106_0 hx107_0 hx107_1 hx107_2 hx108_0 hx109_0 hx20_0 hHeld ⊢
                 refine pure_ (i := 0) (N := some 27) (v := ?_) (a' := ?_) #[true, false, false, false, false, false, false, false, false, false, false, false, false, false, false, false, false, false, false, false] rfl rfl (any_of HT_.out (by kernel_rfl)) (fun _ _ _ h => h) (Or.inl ⟨by rfl, ?_⟩) ?_ ?_
                 rotate_left
                 ·intro w'
                  go_simp
                  with_reducible rfl
                 rotate_left
                 ·simp only [Act.put, Ups.sA, Ups.sZ, Ups.sS, i64_w, i32_w]
                  rfl
                 refine pure_ (i := 1) (N := some 28) (v := ?_) (a' := ?_) #[true, true, false, false, false, false, false, false, false, false, false, false, false, false, false, false, false, false, false, false] rfl rfl (any_of HT_.out (by kernel_rfl)) (fun _ _ _ h => h) (Or.inl ⟨by rfl, ?_⟩) ?_ ?_
                 rotate_left
                 ·intro w'
                  go_simp
                  with_reducible rfl
                 rotate_left
                 ·simp only [Act.put, Ups.sA, Ups.sZ, Ups.sS, i64_w, i32_w]
                  rfl
                 refine pure_ (i := 2) (N := some 29) (v := ?_) (a' := ?_) #[true, true, true, false, false, false, false, false, false, false, false, false, false, false, false, false, false, false, false, false] rfl rfl (any_of HT_.out (by kernel_rfl)) (fun _ _ _ h => h) (Or.inl ⟨by rfl, ?_⟩) ?_ ?_
                 rotate_left
                 ·intro w'
                  go_simp
                  with_reducible rfl
                 rotate_left
                 ·simp only [Act.put, Ups.sA, Ups.sZ, Ups.sS, i64_w, i32_w]
                  rfl
                 refine pure_ (i := 4) (N := some 31) (v := ?_) (a' := ?_) #[true, true, true, false, true, false, false, false, false, false, false, false, false, false, false, false, false, false, false, false] rfl rfl (any_of HT_.out (by kernel_rfl)) (fun _ _ _ h => h) (Or.inl ⟨by rfl, ?_⟩) ?_ ?_
                 rotate_left
                 ·intro w'
                  go_simp
                  with_reducible rfl
                 rotate_left
                 ·simp only [Act.put, Ups.sA, Ups.sZ, Ups.sS, i64_w, i32_w]
                  rfl
                 refine pure_ (i := 5) (N := some 32) (v := ?_) (a' := ?_) #[true, true, true, false, true, true, false, false, false, false, false, false, false, false, false, false, false, false, false, false] rfl rfl (any_of HT_.out (by kernel_rfl)) (fun _ _ _ h => h) (Or.inl ⟨by rfl, ?_⟩) ?_ ?_
                 rotate_left
                 ·intro w'
                  go_simp
                  with_reducible rfl
                 rotate_left
                 ·simp only [Act.put, Ups.sA, Ups.sZ, Ups.sS, i64_w, i32_w]
                  rfl
                 refine pure_ (i := 6) (N := some 33) (v := ?_) (a' := ?_) #[true, true, true, false, true, true, true, false, false, false, false, false, false, false, false, false, false, false, false, false] rfl rfl (any_of HT_.out (by kernel_rfl)) (fun _ _ _ h => h) (Or.inl ⟨by rfl, ?_⟩) ?_ ?_
                 rotate_left
                 ·intro w'
                  go_simp
                  with_reducible rfl
                 rotate_left
                 ·simp only [Act.put, Ups.sA, Ups.sZ, Ups.sS, i64_w, i32_w]
                  rfl
                 refine pure_ (i := 8) (N := some 35) (v := ?_) (a' := ?_) #[true, true, true, false, true, true, true, false, true, false, false, false, false, false, false, false, false, false, false, false] rfl rfl (any_of HT_.out (by kernel_rfl)) (fun _ _ _ h => h) (Or.inl ⟨by rfl, ?_⟩) ?_ ?_
                 rotate_left
                 ·intro w'
                  go_simp
                  with_reducible rfl
                 rotate_left
                 ·simp only [Act.put, Ups.sA, Ups.sZ, Ups.sS, i64_w, i32_w]
                  rfl
                 refine pure_ (i := 11) (N := some 38) (v := ?_) (a' := ?_) #[true, true, true, false, true, true, true, false, true, false, false, true, false, false, false, false, false, false, false, false] rfl rfl (any_of HT_.out (by kernel_rfl)) (fun _ _ _ h => h) (Or.inl ⟨by rfl, ?_⟩) ?_ ?_
                 rotate_left
                 ·intro w'
                  go_simp
                  with_reducible rfl
                 rotate_left
                 ·simp only [Act.put, Ups.sA, Ups.sZ, Ups.sS, i64_w, i32_w]
                  rfl
                 refine pure_ (i := 14) (N := some 41) (v := ?_) (a' := ?_) #[true, true, true, false, true, true, true, false, true, false, false, true, false, false, true, false, false, false, false, false] rfl rfl (any_of HT_.out (by kernel_rfl)) (fun _ _ _ h => h) (Or.inl ⟨by rfl, ?_⟩) ?_ ?_
                 rotate_left
                 ·intro w'
                  go_simp
                  with_reducible rfl
                 rotate_left
                 ·simp only [Act.put, Ups.sA, Ups.sZ, Ups.sS, i64_w, i32_w]
                  rfl
                 refine take_ (i := 3) (N := some 30) (v := ?_) (a' := ?_) #[true, true, true, true, true, true, true, false, true, false, false, true, false, false, true, false, false, false, false, false] rfl rfl (take_ofW HT_.out HW_.out (by kernel_rfl)) (fun _ _ _ h => h) (Or.inl ⟨by rfl, ?_⟩) hHeld ?_ ?_
                 rotate_left
                 ·rintro w' ⟨s0, s1, s2, s3, s4, s5⟩
                  go_simp
                  with_reducible rfl
                 rotate_left
                 ·simp only [Act.put, Ups.sA, Ups.sZ, Ups.sS, i64_w, i32_w]
                  rfl
                 refine take_ (i := 7) (N := some 34) (v := ?_) (a' := ?_) #[true, true, true, true, true, true, true, true, true, false, false, true, false, false, true, false, false, false, false, false] rfl rfl (take_ofW HT_.out HW_.out (by kernel_rfl)) (fun _ _ _ h => h) (Or.inl ⟨by rfl, ?_⟩) hHeld ?_ ?_
                 rotate_left
                 ·rintro w' ⟨s0, s1, s2, s3, s4, s5⟩
                  go_simp
                  with_reducible rfl
                 rotate_left
                 ·simp only [Act.put, Ups.sA, Ups.sZ, Ups.sS, i64_w, i32_w]
                  rfl
                 refine pure_ (i := 9) (N := some 36) (v := ?_) (a' := ?_) #[true, true, true, true, true, true, true, true, true, true, false, true, false, false, true, false, false, false, false, false] rfl rfl (any_of HT_.out (by kernel_rfl)) (fun _ _ _ h => h) (Or.inl ⟨by rfl, ?_⟩) ?_ ?_
                 rotate_left
                 ·intro w'
                  go_simp
                  with_reducible rfl
                 rotate_left
                 ·simp only [Act.put, Ups.sA, Ups.sZ, Ups.sS, i64_w, i32_w]
                  rfl
                 refine take_ (i := 10) (N := some 37) (v := ?_) (a' := ?_) #[true, true, true, true, true, true, true, true, true, true, true, true, false, false, true, false, false, false, false, false] rfl rfl (take_ofW HT_.out HW_.out (by kernel_rfl)) (fun _ _ _ h => h) (Or.inl ⟨by rfl, ?_⟩) hHeld ?_ ?_
                 rotate_left
                 ·rintro w' ⟨s0, s1, s2, s3, s4, s5⟩
                  go_simp
                  with_reducible rfl
                 rotate_left
                 ·simp only [Act.put, Ups.sA, Ups.sZ, Ups.sS, i64_w, i32_w]
                  rfl
                 refine pure_ (i := 12) (N := some 39) (v := ?_) (a' := ?_) #[true, true, true, true, true, true, true, true, true, true, true, true, true, false, true, false, false, false, false, false] rfl rfl (any_of HT_.out (by kernel_rfl)) (fun _ _ _ h => h) (Or.inl ⟨by rfl, ?_⟩) ?_ ?_
                 rotate_left
                 ·intro w'
                  go_simp
                  with_reducible rfl
                 rotate_left
                 ·simp only [Act.put, Ups.sA, Ups.sZ, Ups.sS, i64_w, i32_w]
                  rfl
                 refine take_ (i := 13) (N := some 40) (v := ?_) (a' := ?_) #[true, true, true, true, true, true, true, true, true, true, true, true, true, true, true, false, false, false, false, false] rfl rfl (take_ofW HT_.out HW_.out (by kernel_rfl)) (fun _ _ _ h => h) (Or.inl ⟨by rfl, ?_⟩) hHeld ?_ ?_
                 rotate_left
                 ·rintro w' ⟨s0, s1, s2, s3, s4, s5⟩
                  go_simp
                  with_reducible rfl
                 rotate_left
                 ·simp only [Act.put, Ups.sA, Ups.sZ, Ups.sS, i64_w, i32_w]
                  rfl
                 refine pure_ (i := 15) (N := some 42) (v := ?_) (a' := ?_) #[true, true, true, true, true, true, true, true, true, true, true, true, true, true, true, true, false, false, false, false] rfl rfl (any_of HT_.out (by kernel_rfl)) (fun _ _ _ h => h) (Or.inl ⟨by rfl, ?_⟩) ?_ ?_
                 rotate_left
                 ·intro w'
                  go_simp
                  with_reducible rfl
                 rotate_left
                 ·simp only [Act.put, Ups.sA, Ups.sZ, Ups.sS, i64_w, i32_w]
                  rfl
                 refine pure_ (i := 16) (N := some 43) (v := ?_) (a' := ?_) #[true, true, true, true, true, true, true, true, true, true, true, true, true, true, true, true, true, false, false, false] rfl rfl (any_of HT_.out (by kernel_rfl)) (fun _ _ _ h => h) (Or.inl ⟨by rfl, ?_⟩) ?_ ?_
                 rotate_left
                 ·intro w'
                  go_simp
                  with_reducible rfl
                 rotate_left
                 ·simp only [Act.put, Ups.sA, Ups.sZ, Ups.sS, i64_w, i32_w]
                  rfl
                 refine pure_ (i := 17) (N := some 44) (v := ?_) (a' := ?_) #[true, true, true, true, true, true, true, true, true, true, true, true, true, true, true, true, true, true, false, false] rfl rfl (any_of HT_.out (by kernel_rfl)) (fun _ _ _ h => h) (Or.inl ⟨by rfl, ?_⟩) ?_ ?_
                 rotate_left
                 ·intro w'
                  go_simp
                  with_reducible rfl
                 rotate_left
                 ·simp only [Act.put, Ups.sA, Ups.sZ, Ups.sS, i64_w, i32_w]
                  rfl
                 refine pure_ (i := 18) (N := some 45) (v := ?_) (a' := ?_) #[true, true, true, true, true, true, true, true, true, true, true, true, true, true, true, true, true, true, true, false] rfl rfl (any_of HT_.out (by kernel_rfl)) (fun _ _ _ h => h) (Or.inl ⟨by rfl, ?_⟩) ?_ ?_
                 rotate_left
                 ·intro w'
                  go_simp
                  with_reducible rfl
                 rotate_left
                 ·simp only [Act.put, Ups.sA, Ups.sZ, Ups.sS, i64_w, i32_w]
                  rfl
                 refine last_ (i := 19) (N := none) #[true, true, true, true, true, true, true, true, true, true, true, true, true, true, true, true, true, true, true, true] rfl rfl (one_of HT_.out (by kernel_rfl)) (by decide) (fun K hK => ?_)
                 refine skip_ (w1 := ?_) (by rfl) rfl ?_ ?_
                 rotate_left
                 ·go_simp
                  rfl
                 refine hK.out _ _ ?_
                 clear hK K
                 refine done_ (done_of HT_.out (by kernel_rfl)) ?_
                 have n0_ : Az0 (Kd.R (Kd.int .i64) 3 (w21.setCell ⟨go20, (x24_2 : Int).toNat, none⟩ (.int .i64 (wrap64 ((rd x5_2 x24_2) + (Go.bits .and .i64 (ji19) 1))))) w.heap.size (fun _ => True) (.slice (some ⟨go20, 0, none⟩) x5_2.length co10) y110) := ⟨by (repeat refine Up1.r ?_); exact HQ22.out⟩
                 have n1_ : Az0 (Below w.heap.size w (w21.setCell ⟨go20, (x24_2 : Int).toNat, none⟩ (.int .i64 (wrap64 ((rd x5_2 x24_2) + (Go.bits .and .i64 (ji19) 1)))))) := ⟨by repeat (first | (with_reducible first | exact HB.out | refine Up1.w ?_ | refine bS_ ?_ GB20.out) | exact HB.out)⟩
                 (try clear HO_5)
                 (try clear HB)
                 generalize (w21.setCell ⟨go20, (x24_2 : Int).toNat, none⟩ (.int .i64 (wrap64 ((rd x5_2 x24_2) + (Go.bits .and .i64 (ji19) 1))))) = w23 at n0_ n1_ ⊢
                 have HO_5 := n0_
                 have HB := n1_
                 clear n0_ n1_
                 try go_wp2
                 (try simp only [← hl5_2])
                 go_roundg k2
                 case measure => have := HK1.out; have := HK2.out; omega
                 case rel => exact ⟨(y110), (wrap64 (x24_2 + 1)), (by first | rfl | (simp; done) | (simp [*]; done)), H', ⟨by have := HK1.out; have := HK2.out; omega⟩, ⟨by (try simp only [hl5_2]); (repeat refine Up1.r ?_); exact HO_5.out⟩, ⟨by exact Ups.w HB.out⟩⟩
                ·rw [if_neg c17] at H
                 exact absurd H (by simp)
               ·rw [if_neg c16] at H
                exact absurd H (by simp)
              ·rw [if_neg c15] at H
               exact absurd H (by simp)
             ·rw [if_neg c14] at H
              exact absurd H (by simp)
            ·rw [if_neg c13] at H
             exact absurd H (by simp)
           ·rw [if_neg c12] at H
            exact absurd H (by simp)
          ·rw [if_neg c11] at H
           have c11b0 : decide (x24_2 < (x5_1.length : Int)) = false := decide_eq_false c11
           (try (have c11b0l := c11b0; simp only [hl5_2] at c11b0l))
           clear c11
           have H' := Az0.mk H
           clear H
           go_wp2
           (try simp only [← hl5_2])
           go_roundg k2
           case measure => have := HK1.out; have := HK2.out; omega
           case rel => exact ⟨(x5_2), (wrap64 (x17_1 + 1)), (by first | rfl | (simp; done) | (simp [*]; done)), H', ⟨by have := HK1.out; have := HK2.out; omega⟩, ⟨by (try simp only [hl5_2]); (repeat refine Up1.r ?_); exact HO_5.out⟩, ⟨by exact Ups.w HB.out⟩⟩
       ·rw [if_neg c9] at H
        exact absurd H (by simp)
      ·rw [if_neg c8] at H
       exact absurd H (by simp)
     ·rw [if_neg c7] at H
      have c7b0 : decide (x17_1 < (l1.length : Int)) = false := decide_eq_false c7
      clear c7
      obtain rfl := Option.some.inj H
      go_wp2
      go_ret
      exact ⟨_, by first | rfl | (simp [errW_none, errW_some] <;> rfl) | (simp [*, errW_none, errW_some] <;> rfl), by (repeat refine Up1.r ?_); exact HO_5.out, by exact Ups.w HB.out⟩
  ·rw [if_neg c4] at H
   exact absurd H (by simp)
 ·rw [if_neg c3] at H
  exact absurd H (by simp)
mutual
def jam_game_costs.l0 : Nat → List Int → List Int → Int → List Int → Int → Int → List (List Int) → List Unit → (Int → Int → Option Int) → Option (List Int × Int)
  | 0, _, _, _, _, _, _, _, _, _ => none
  | k + 1, x6, x7, x8, x17, x18, x19, x1000, x1001, x1002 => if x19 < x18 then (if 0 ≤ x19 then (if x19 < (x17.length : Int) then (jam_game_costs.l1 k x6 x7 x8 x19 (rd x17 x19) 0 x17 x18 x19 x6 (x6.length : Int) 0 x1000 x1001 x1002) else (none)) else (none)) else (some (x7, x8))
def jam_game_costs.l1 : Nat → List Int → List Int → Int → Int → Int → Int → List Int → Int → Int → List Int → Int → Int → List (List Int) → List Unit → (Int → Int → Option Int) → Option (List Int × Int)
  | 0, _, _, _, _, _, _, _, _, _, _, _, _, _, _, _ => none
  | k + 1, x6, x7, x8, x9, x10, x11, x17, x18, x19, x24, x25, x26, x1000, x1001, x1002 => if x26 < x25 then (if 0 ≤ x26 then (if x26 < (x24.length : Int) then (if 0 ≤ x9 then (if x9 < (x1000.length : Int) then (if 0 ≤ x10 then (if x10 < ((rd_L12 x1000 x9).length : Int) then (if (Go.bits .and .i64 (shr .i64 (rd (rd_L12 x1000 x9) x10) x26) 1) = 1 then ((x1002 x26 (rd x24 x26)).bind fun t120 => (jam_game_costs.l1 k x6 x7 x8 x9 x10 (wrap64 (x11 + t120)) x17 x18 x19 x24 x25 (wrap64 (x26 + 1)) x1000 x1001 x1002)) else (jam_game_costs.l1 k x6 x7 x8 x9 x10 x11 x17 x18 x19 x24 x25 (wrap64 (x26 + 1)) x1000 x1001 x1002)) else (none)) else (none)) else (none)) else (none)) else (none)) else (none)) else (if x7.length < 17592186044416 then (jam_game_costs.l0 k x6 (x7 ++ [x11]) (wrap64 (x8 + x11)) x17 x18 (wrap64 (x19 + 1)) x1000 x1001 x1002) else (none))
end
def jam_game_costs.f (k : Nat) (l0_0 : List (List Int)) (l0_1 : List Unit) (a0_2 : (Int → Int → Option Int)) (l1 : List Int) : Option (List Int × Int) := (jGu.f k l0_0 l0_1 a0_2 l1).bind fun t111 => (jam_game_costs.l0 k t111 ([] : List Int) 0 l1 (l1.length : Int) 0 l0_0 l0_1 a0_2)
theorem jam_game_costs.mono_l : ∀ k, (∀ y0 y1 y2 y3 y4 y5 y6 y7 y8, LeO (jam_game_costs.l0 k y0 y1 y2 y3 y4 y5 y6 y7 y8) (jam_game_costs.l0 (k + 1) y0 y1 y2 y3 y4 y5 y6 y7 y8)) ∧ (∀ y0 y1 y2 y3 y4 y5 y6 y7 y8 y9 y10 y11 y12 y13 y14, LeO (jam_game_costs.l1 k y0 y1 y2 y3 y4 y5 y6 y7 y8 y9 y10 y11 y12 y13 y14) (jam_game_costs.l1 (k + 1) y0 y1 y2 y3 y4 y5 y6 y7 y8 y9 y10 y11 y12 y13 y14))
  | 0 => ⟨fun _ _ _ _ _ _ _ _ _ r h => by simp [jam_game_costs.l0] at h, fun _ _ _ _ _ _ _ _ _ _ _ _ _ _ _ r h => by simp [jam_game_costs.l1] at h⟩
  | k + 1 => by
    obtain ⟨ih0, ih1⟩ := jam_game_costs.mono_l k
    refine ⟨?_, ?_⟩
    · intro y0 y1 y2 y3 y4 y5 y6 y7 y8
      unfold jam_game_costs.l0
      repeat' first
      | (with_reducible exact ih0 _ _ _ _ _ _ _ _ _)
      | (with_reducible exact ih1 _ _ _ _ _ _ _ _ _ _ _ _ _ _ _)
      | (with_reducible exact jGu.mono _ _ _ _ _)
      | (with_reducible exact LeO.refl _)
      | (with_reducible exact LeO.none _)
      | (with_reducible refine LeO.ite ?_ ?_)
      | (with_reducible refine LeO.bind ?_ (fun _ => ?_))
      | exact ih0 _ _ _ _ _ _ _ _ _
      | exact ih1 _ _ _ _ _ _ _ _ _ _ _ _ _ _ _
      | exact jGu.mono _ _ _ _ _
      | exact LeO.none _
      | refine LeO.ite ?_ ?_
      | refine LeO.bind ?_ (fun _ => ?_)
    · intro y0 y1 y2 y3 y4 y5 y6 y7 y8 y9 y10 y11 y12 y13 y14
      unfold jam_game_costs.l1
      repeat' first
      | (with_reducible exact ih0 _ _ _ _ _ _ _ _ _)
      | (with_reducible exact ih1 _ _ _ _ _ _ _ _ _ _ _ _ _ _ _)
      | (with_reducible exact jGu.mono _ _ _ _ _)
      | (with_reducible exact LeO.refl _)
      | (with_reducible exact LeO.none _)
      | (with_reducible refine LeO.ite ?_ ?_)
      | (with_reducible refine LeO.bind ?_ (fun _ => ?_))
      | exact ih0 _ _ _ _ _ _ _ _ _
      | exact ih1 _ _ _ _ _ _ _ _ _ _ _ _ _ _ _
      | exact jGu.mono _ _ _ _ _
      | exact LeO.none _
      | refine LeO.ite ?_ ?_
      | refine LeO.bind ?_ (fun _ => ?_)
theorem jam_game_costs.mono : ∀ a0 a1 a2 a3 k, LeO (jam_game_costs.f k a0 a1 a2 a3) (jam_game_costs.f (k + 1) a0 a1 a2 a3) := by
  intro a0 a1 a2 a3 k
  obtain ⟨ih0, ih1⟩ := jam_game_costs.mono_l k
  unfold jam_game_costs.f
  repeat' first
      | (with_reducible exact ih0 _ _ _ _ _ _ _ _ _)
      | (with_reducible exact ih1 _ _ _ _ _ _ _ _ _ _ _ _ _ _ _)
      | (with_reducible exact jGu.mono _ _ _ _ _)
      | (with_reducible exact LeO.refl _)
      | (with_reducible exact LeO.none _)
      | (with_reducible refine LeO.ite ?_ ?_)
      | (with_reducible refine LeO.bind ?_ (fun _ => ?_))
      | exact ih0 _ _ _ _ _ _ _ _ _
      | exact ih1 _ _ _ _ _ _ _ _ _ _ _ _ _ _ _
      | exact jGu.mono _ _ _ _ _
      | exact LeO.none _
      | refine LeO.ite ?_ ?_
      | refine LeO.bind ?_ (fun _ => ?_)
set_option maxHeartbeats 8000000 in
set_option maxRecDepth 100000 in
theorem jam_game_costs.calls (k : Nat) (g0 : Nat) (A0_0 : Option Addr) (c0_0 : Nat) (l0_0 : List (List Int)) (A0_1 : Option Addr) (c0_1 : Nat) (l0_1 : List Unit) (vf0_2 : Value) (a0_2 : (Int → Int → Option Int)) (A1 : Option Addr) (c1 : Nat) (l1 : List Int) (r1 : List Int) (r2 : Int) (w : World) (hP0 : w.heap[g0]? = some (.cells #[.slice A0_0 l0_0.length c0_0, .slice A0_1 l0_1.length c0_1, vf0_2] 97 (0, 0))) (hr0_0 : Kd.C (Kd.slice 3 (Kd.int .i64)) w A0_0 l0_0.length l0_0) (hc0_0 : l0_0.length ≤ c0_0) (hr0_1 : Kd.C kOp w A0_1 l0_1.length l0_1) (hc0_1 : l0_1.length ≤ c0_1) (hF0_2 : IsFn2 Try.prog w vf0_2 a0_2) (hr1 : Kd.C (Kd.int .i64) w A1 l1.length l1) (hc1 : l1.length ≤ c1) (h : jam_game_costs.f k l0_0 l0_1 a0_2 l1 = some (r1, r2)) :
  Calls Try.prog 61 #[.pointer (some ⟨g0, 0, none⟩), .slice A1 l1.length c1] w fun e w' => ∃ v0_ : Value, e = .returned (.tuple #[v0_, .int .i64 r2]) ∧ Kd.R (Kd.int .i64) 3 w' w.heap.size (fun _ => True) v0_ r1 ∧ Below w.heap.size w w' := by
 have HP0 := Az0.mk hP0
 clear hP0
 have HR0_0 := Az0.mk hr0_0
 have HC0_0 := Az0.mk hc0_0
 clear hr0_0 hc0_0
 have HR0_1 := Az0.mk hr0_1
 have HC0_1 := Az0.mk hc0_1
 clear hr0_1 hc0_1
 have HF0_2 := Az0.mk hF0_2
 clear hF0_2
 have HR1 := Az0.mk hr1
 have HC1 := Az0.mk hc1
 clear hr1 hc1
 have HB := Az0.mk (Below.refl w.heap.size w)
 have H : ((jGu.f k l0_0 l0_1 a0_2 l1).bind fun t111 => (jam_game_costs.l0 k t111 ([] : List Int) 0 l1 (l1.length : Int) 0 l0_0 l0_1 a0_2)) = some (r1, r2) := h
 clear h
 replace H := Option.bind_eq_some_iff.mp H
 obtain ⟨t111, A30, H⟩ := H
 replace H : (jam_game_costs.l0 k t111 ([] : List Int) 0 l1 (l1.length : Int) 0 l0_0 l0_1 a0_2) = some (r1, r2) := H
 have A3 := Az0.mk A30
 clear A30
 have H' := Az0.mk H
 clear H
 go_enter Try.func61, Try.ntmps61
 go_wp2_with (first | ((with_reducible refine gate_callee (f := 66) rfl ?_); refine goesL_ (some 16) rfl rfl Try.func66 (by kernel_rfl) rfl #[.pointer (some ⟨g0, 0, none⟩), .slice A1 l1.length c1] rfl (by (try simp only [List.map_toArray, List.map_cons, List.map_nil]); first | done | rfl | (simp only [List.length_drop, List.length_take]; rfl)) ?_; (with_reducible refine (jGu.calls k g0 A0_0 c0_0 l0_0 A0_1 c0_1 l0_1 vf0_2 a0_2 _ _ l1 t111 _ ?side1 ?side2 ?side3 ?side4 ?side5 ?side6 ?side7 ?side8 A3.out).mono ?_); (case side1 => exact ((show Below _ _ _ from by exact Ups.w HB.out).block _ (bL_ HP0.out)).trans HP0.out); (case side2 => repeat (first | exact HR0_0.out | refine Up1.c ?_)); (case side3 => exact HC0_0.out); (case side4 => repeat (first | exact HR0_1.out | refine Up1.c ?_)); (case side5 => exact HC0_1.out); (case side6 => exact IsFn2.below HF0_2.out (by exact Ups.w HB.out)); (case side7 => repeat (first | exact HR1.out | refine Up1.c ?_)); (case side8 => exact HC1.out); rintro e w4 ⟨v112, rfl, ho0, hb⟩; refine ⟨_, rfl, ?_⟩; have n0_ := Az0.mk (Kd.R_lower ho0 (bZ_ (by exact Ups.w HB.out))); have n1_ := Az0.mk (bP_ (by exact Ups.w HB.out) hb); clear HB; have HO113 := n0_; have HB := n1_; clear n0_ n1_; (try clear hb); (try clear hb2); (try clear hk); (try clear hi); (try clear ho0)))
 go_loopg [7, 8, 19] k (fun kq v7 v8 v19 w' => ∃ (x7_1 : List Int) (x8_1 : Int) (x19_1 : Int), v8 = .int .i64 x8_1 ∧ v19 = .int .i64 x19_1 ∧ Az0 (jam_game_costs.l0 kq t111 x7_1 x8_1 l1 (l1.length : Int) x19_1 l0_0 l0_1 a0_2 = some (r1, r2)) ∧ Az0 (kq ≤ k) ∧ Az0 (Kd.R (Kd.int .i64) 3 w' w.heap.size (fun k_ => some k_ ≠ (v7 : Value).ownBlock) v112 t111) ∧ Az0 (Kd.R (Kd.int .i64) 3 w' w.heap.size (fun k_ => some k_ ≠ (v112 : Value).ownBlock) v7 x7_1) ∧ Az0 (Below w.heap.size w w'))
 case atStart => exact ⟨(([] : List Int)), (0), (0), (by first | rfl | (simp; done) | (simp [*]; done)), (by first | rfl | (simp; done) | (simp [*]; done)), H', ⟨Nat.le_refl _⟩, ⟨by (repeat refine Up1.r ?_); exact Kd.rM_ HO113.out (fun _ hk => (by simp [Value.ownBlock]))⟩, ⟨by first | exact Kd.R_nil _ _ _ _ _ | exact Kd.N_nil _ _ _ _ _ | exact Kd.V_nil _ _ _ _ _ | exact Kd.Q_nil _ _ _ _ _ | exact Kd.S_nil _ _ _ _ _⟩, ⟨by exact Ups.w HB.out⟩⟩
 case round =>
  clear H'
  try clear c1
  try clear p2
  obtain ⟨x7_1, x8_1, x19_1, rfl, rfl, HA, HK1, HO_6, HO_7, HB⟩ := hrel
  cases gk with
  | zero => exact absurd HA.out (by simp [jam_game_costs.l0])
  | succ k1 =>
   have H := HA.out
   clear HA
   simp only [jam_game_costs.l0] at H
   by_cases c5 : x19_1 < (l1.length : Int)
   ·rw [if_pos c5] at H
    have c5b0 : decide (x19_1 < (l1.length : Int)) = true := decide_eq_true c5
    clear c5
    by_cases c6 : 0 ≤ x19_1
    ·rw [if_pos c6] at H
     have c6b0 : decide (0 ≤ x19_1) = true := decide_eq_true c6
     clear c6
     by_cases c7 : x19_1 < (l1.length : Int)
     ·rw [if_pos c7] at H
      have c7b0 : decide (x19_1 < (l1.length : Int)) = true := decide_eq_true c7
      clear c7
      have H' := Az0.mk H
      clear H
      have p114 : 0 ≤ (x19_1 : Int) := of_decide_eq_true (by first | (with_reducible assumption) | assumption)
      have q114 : x19_1 < (l1.length : Int) := of_decide_eq_true (by first | (with_reducible assumption) | assumption)
      obtain ⟨ad114, e114, hx114_0⟩ := Kd.at_int HR1.out x19_1 p114 q114
      cases e114
      replace hx114_0 := (HB.out.cell (World.block_lt_of_cell? w _ hx114_0)).trans hx114_0
      replace p114 := eq_true p114
      replace q114 := eq_true q114
      obtain ⟨Ao8, co8, eo8⟩ := Kd.R_slice HO_6.out
      subst eo8
      go_wp2
      go_loopg [11, 26] k1 (fun kq v11 v26 w' => ∃ (x11_2 : Int) (x26_2 : Int), v11 = .int .i64 x11_2 ∧ v26 = .int .i64 x26_2 ∧ Az0 (jam_game_costs.l1 kq t111 x7_1 x8_1 x19_1 (rd l1 x19_1) x11_2 l1 (l1.length : Int) x19_1 t111 (t111.length : Int) x26_2 l0_0 l0_1 a0_2 = some (r1, r2)) ∧ Az0 (kq ≤ k1) ∧ Az0 (Kd.R (Kd.int .i64) 3 w' w.heap.size (fun k_ => some k_ ≠ (u7 : Value).ownBlock) (.slice Ao8 t111.length co8) t111) ∧ Az0 (Kd.R (Kd.int .i64) 3 w' w.heap.size (fun k_ => some k_ ≠ ((.slice Ao8 t111.length co8) : Value).ownBlock ∧ some k_ ≠ ((.slice Ao8 t111.length co8) : Value).ownBlock) u7 x7_1) ∧ Az0 (Kd.R (Kd.int .i64) 3 w' w.heap.size (fun k_ => some k_ ≠ (u7 : Value).ownBlock) (.slice Ao8 t111.length co8) t111) ∧ Az0 (Below w.heap.size w w'))
      case atStart => exact ⟨(0), (0), (by first | rfl | (simp; done) | (simp [*]; done)), (by first | rfl | (simp; done) | (simp [*]; done)), H', ⟨Nat.le_refl _⟩, ⟨by (repeat refine Up1.r ?_); exact HO_6.out⟩, ⟨by (repeat refine Up1.r ?_); exact Kd.rM_ HO_7.out (fun _ hk => ⟨hk, hk⟩)⟩, ⟨by (repeat refine Up1.r ?_); exact HO_6.out⟩, ⟨by exact Ups.w HB.out⟩⟩
      case round =>
       clear H'
       try clear c1
       try clear p1
       try clear q1
       try clear hx1
       try clear p2
       try clear c5
       try clear c5b0
       try clear c6
       try clear c6b0
       try clear c7
       try clear c7b0
       try clear hx114_0
       try clear p114
       try clear p2
       try clear q114
       obtain ⟨x11_2, x26_2, rfl, rfl, HA, HK2, HO_6, HO_7, HO_24, HB⟩ := hrel
       cases gk with
       | zero => exact absurd HA.out (by simp [jam_game_costs.l1])
       | succ k2 =>
        have H := HA.out
        clear HA
        simp only [jam_game_costs.l1] at H
        by_cases c9 : x26_2 < (t111.length : Int)
        ·rw [if_pos c9] at H
         have c9b0 : decide (x26_2 < (t111.length : Int)) = true := decide_eq_true c9
         clear c9
         by_cases c10 : 0 ≤ x26_2
         ·rw [if_pos c10] at H
          have c10b0 : decide (0 ≤ x26_2) = true := decide_eq_true c10
          clear c10
          by_cases c11 : x26_2 < (t111.length : Int)
          ·rw [if_pos c11] at H
           have c11b0 : decide (x26_2 < (t111.length : Int)) = true := decide_eq_true c11
           clear c11
           by_cases c12 : 0 ≤ x19_1
           ·rw [if_pos c12] at H
            have c12b0 : decide (0 ≤ x19_1) = true := decide_eq_true c12
            clear c12
            by_cases c13 : x19_1 < (l0_0.length : Int)
            ·rw [if_pos c13] at H
             have c13b0 : decide (x19_1 < (l0_0.length : Int)) = true := decide_eq_true c13
             clear c13
             by_cases c14 : 0 ≤ (rd l1 x19_1)
             ·rw [if_pos c14] at H
              have c14b0 : decide (0 ≤ (rd l1 x19_1)) = true := decide_eq_true c14
              clear c14
              by_cases c15 : (rd l1 x19_1) < ((rd_L12 l0_0 x19_1).length : Int)
              ·rw [if_pos c15] at H
               have c15b0 : decide ((rd l1 x19_1) < ((rd_L12 l0_0 x19_1).length : Int)) = true := decide_eq_true c15
               clear c15
               have c16b0 := eq_true (of_decide_eq_true (by first | (with_reducible assumption) | assumption) : 0 ≤ x26_2)
               obtain ⟨ji17, hji17⟩ : ∃ j_ : Int, (shr .i64 (rd (rd_L12 l0_0 x19_1) (rd l1 x19_1)) x26_2) = j_ := ⟨_, rfl⟩
               replace H : (if (Go.bits .and .i64 (ji17) 1) = 1 then ((a0_2 x26_2 (rd t111 x26_2)).bind fun t120 => (jam_game_costs.l1 k2 t111 x7_1 x8_1 x19_1 (rd l1 x19_1) (wrap64 (x11_2 + t120)) l1 (l1.length : Int) x19_1 t111 (t111.length : Int) (wrap64 (x26_2 + 1)) l0_0 l0_1 a0_2)) else (jam_game_costs.l1 k2 t111 x7_1 x8_1 x19_1 (rd l1 x19_1) x11_2 l1 (l1.length : Int) x19_1 t111 (t111.length : Int) (wrap64 (x26_2 + 1)) l0_0 l0_1 a0_2)) = some (r1, r2) := by first | (rw [hji17] at H; exact H) | (simp only [hji17] at H ⊢; exact H)
               have hji17_ : ((rd (rd_L12 l0_0 x19_1) (rd l1 x19_1)) / 2 ^ min x26_2.toNat 64) = ji17 := hji17
               have hji17z : x26_2 ≤ 64 → ((rd (rd_L12 l0_0 x19_1) (rd l1 x19_1)) / 2 ^ x26_2.toNat) = ji17 := shr_small hji17
               by_cases c18 : (Go.bits .and .i64 (ji17) 1) = 1
               ·rw [if_pos c18] at H
                have c18b0 : ((Go.bits .and .i64 (ji17) 1) == 1) = true := beq_iff_eq.mpr c18
                have c18b1 : ((Go.bits .and .i64 (ji17) 1) != 1) = false := bne_eq_false_iff_eq.mpr c18
                clear c18
                replace H := Option.bind_eq_some_iff.mp H
                obtain ⟨t120, A190, H⟩ := H
                replace H : (jam_game_costs.l1 k2 t111 x7_1 x8_1 x19_1 (rd l1 x19_1) (wrap64 (x11_2 + t120)) l1 (l1.length : Int) x19_1 t111 (t111.length : Int) (wrap64 (x26_2 + 1)) l0_0 l0_1 a0_2) = some (r1, r2) := H
                have A19 := Az0.mk A190
                clear A190
                have H' := Az0.mk H
                clear H
                have p115 : 0 ≤ (x26_2 : Int) := of_decide_eq_true (by first | (with_reducible assumption) | assumption)
                have q115 : x26_2 < (t111.length : Int) := of_decide_eq_true (by first | (with_reducible assumption) | assumption)
                obtain ⟨ad115, e115, hx115_0⟩ := Kd.at_int (Kd.R_reads' HO_24.out).2.2 x26_2 p115 q115
                cases e115
                replace p115 := eq_true p115
                replace q115 := eq_true q115
                have hx116_0 := bkC HP0.out 0
                replace hx116_0 := hx116_0.trans rfl
                replace hx116_0 := (HB.out.cell (World.block_lt_of_cell? w _ hx116_0)).trans hx116_0
                have hx116_1 := bkC HP0.out 1
                replace hx116_1 := hx116_1.trans rfl
                replace hx116_1 := (HB.out.cell (World.block_lt_of_cell? w _ hx116_1)).trans hx116_1
                have hx116_2 := bkC HP0.out 2
                replace hx116_2 := hx116_2.trans rfl
                replace hx116_2 := (HB.out.cell (World.block_lt_of_cell? w _ hx116_2)).trans hx116_2
                have p117 : 0 ≤ (x19_1 : Int) := of_decide_eq_true (by first | (with_reducible assumption) | assumption)
                have q117 : x19_1 < (l0_0.length : Int) := of_decide_eq_true (by first | (with_reducible assumption) | assumption)
                obtain ⟨ad117, A117_0, c117_0, e117, hx117_0, hl117_0, hi117_0⟩ := at_L12 HR0_0.out x19_1 p117 q117
                cases e117
                replace hx117_0 := (HB.out.cell (World.block_lt_of_cell? w _ hx117_0)).trans hx117_0
                have HR117_0 := Az0.mk hi117_0
                have HC117_0 := Az0.mk hl117_0
                clear hi117_0 hl117_0
                replace p117 := eq_true p117
                replace q117 := eq_true q117
                have p118 : 0 ≤ ((rd l1 x19_1) : Int) := of_decide_eq_true (by first | (with_reducible assumption) | assumption)
                have q118 : (rd l1 x19_1) < ((rd_L12 l0_0 x19_1).length : Int) := of_decide_eq_true (by first | (with_reducible assumption) | assumption)
                obtain ⟨ad118, e118, hx118_0⟩ := Kd.at_int HR117_0.out (rd l1 x19_1) p118 q118
                cases e118
                replace hx118_0 := (HB.out.cell (World.block_lt_of_cell? w _ hx118_0)).trans hx118_0
                replace p118 := eq_true p118
                replace q118 := eq_true q118
                have hx119_0 := bkC HP0.out 0
                replace hx119_0 := hx119_0.trans rfl
                replace hx119_0 := (HB.out.cell (World.block_lt_of_cell? w _ hx119_0)).trans hx119_0
                have hx119_1 := bkC HP0.out 1
                replace hx119_1 := hx119_1.trans rfl
                replace hx119_1 := (HB.out.cell (World.block_lt_of_cell? w _ hx119_1)).trans hx119_1
                have hx119_2 := bkC HP0.out 2
                replace hx119_2 := hx119_2.trans rfl
                replace hx119_2 := (HB.out.cell (World.block_lt_of_cell? w _ hx119_2)).trans hx119_2
                go_wp2_with (first | ((with_reducible refine gD_ (N := 52) rfl ?_); refine goesG_ (some 52) rfl rfl HF0_2.out rfl rfl (i := x26_2) (j := (rd t111 x26_2)) rfl rfl ?sideB A19.out ?_; (case sideB => exact by exact Ups.w HB.out); intro w20 hb; have n0_ := Az0.mk (Kd.rW_ (by (repeat refine Up1.r ?_); exact HO_6.out) hb); have n1_ := Az0.mk (Kd.rW_ (by (repeat refine Up1.r ?_); exact HO_7.out) hb); have n2_ := Az0.mk (Kd.rW_ (by (repeat refine Up1.r ?_); exact HO_24.out) hb); have n3_ := Az0.mk (bP_ (by exact Ups.w HB.out) hb); clear HO_6; clear HO_7; clear HO_24; clear HB; have HO_6 := n0_; have HO_7 := n1_; have HO_24 := n2_; have HB := n3_; clear n0_ n1_ n2_ n3_; (try clear hb); (try clear hb2); (try clear hk); (try clear hi)))
                go_roundg k2
                case measure => have := HK1.out; have := HK2.out; omega
                case rel => exact ⟨(wrap64 (x11_2 + t120)), (wrap64 (x26_2 + 1)), (by first | rfl | (simp; done) | (simp [*]; done)), (by first | rfl | (simp; done) | (simp [*]; done)), H', ⟨by have := HK1.out; have := HK2.out; omega⟩, ⟨by (repeat refine Up1.r ?_); exact HO_6.out⟩, ⟨by (repeat refine Up1.r ?_); exact HO_7.out⟩, ⟨by (repeat refine Up1.r ?_); exact HO_24.out⟩, ⟨by exact Ups.w HB.out⟩⟩
               ·rw [if_neg c18] at H
                have c18b0 : ((Go.bits .and .i64 (ji17) 1) == 1) = false := beq_eq_false_iff_ne.mpr c18
                have c18b1 : ((Go.bits .and .i64 (ji17) 1) != 1) = true := bne_iff_ne.mpr c18
                have H' := Az0.mk H
                clear H
                have p115 : 0 ≤ (x26_2 : Int) := of_decide_eq_true (by first | (with_reducible assumption) | assumption)
                have q115 : x26_2 < (t111.length : Int) := of_decide_eq_true (by first | (with_reducible assumption) | assumption)
                obtain ⟨ad115, e115, hx115_0⟩ := Kd.at_int (Kd.R_reads' HO_24.out).2.2 x26_2 p115 q115
                cases e115
                replace p115 := eq_true p115
                replace q115 := eq_true q115
                have hx116_0 := bkC HP0.out 0
                replace hx116_0 := hx116_0.trans rfl
                replace hx116_0 := (HB.out.cell (World.block_lt_of_cell? w _ hx116_0)).trans hx116_0
                have hx116_1 := bkC HP0.out 1
                replace hx116_1 := hx116_1.trans rfl
                replace hx116_1 := (HB.out.cell (World.block_lt_of_cell? w _ hx116_1)).trans hx116_1
                have hx116_2 := bkC HP0.out 2
                replace hx116_2 := hx116_2.trans rfl
                replace hx116_2 := (HB.out.cell (World.block_lt_of_cell? w _ hx116_2)).trans hx116_2
                have p117 : 0 ≤ (x19_1 : Int) := of_decide_eq_true (by first | (with_reducible assumption) | assumption)
                have q117 : x19_1 < (l0_0.length : Int) := of_decide_eq_true (by first | (with_reducible assumption) | assumption)
                obtain ⟨ad117, A117_0, c117_0, e117, hx117_0, hl117_0, hi117_0⟩ := at_L12 HR0_0.out x19_1 p117 q117
                cases e117
                replace hx117_0 := (HB.out.cell (World.block_lt_of_cell? w _ hx117_0)).trans hx117_0
                have HR117_0 := Az0.mk hi117_0
                have HC117_0 := Az0.mk hl117_0
                clear hi117_0 hl117_0
                replace p117 := eq_true p117
                replace q117 := eq_true q117
                have p118 : 0 ≤ ((rd l1 x19_1) : Int) := of_decide_eq_true (by first | (with_reducible assumption) | assumption)
                have q118 : (rd l1 x19_1) < ((rd_L12 l0_0 x19_1).length : Int) := of_decide_eq_true (by first | (with_reducible assumption) | assumption)
                obtain ⟨ad118, e118, hx118_0⟩ := Kd.at_int HR117_0.out (rd l1 x19_1) p118 q118
                cases e118
                replace hx118_0 := (HB.out.cell (World.block_lt_of_cell? w _ hx118_0)).trans hx118_0
                replace p118 := eq_true p118
                replace q118 := eq_true q118
                go_wp2
                go_roundg k2
                case measure => have := HK1.out; have := HK2.out; omega
                case rel => exact ⟨(x11_2), (wrap64 (x26_2 + 1)), (by first | rfl | (simp; done) | (simp [*]; done)), (by first | rfl | (simp; done) | (simp [*]; done)), H', ⟨by have := HK1.out; have := HK2.out; omega⟩, ⟨by (repeat refine Up1.r ?_); exact HO_6.out⟩, ⟨by (repeat refine Up1.r ?_); exact HO_7.out⟩, ⟨by (repeat refine Up1.r ?_); exact HO_24.out⟩, ⟨by exact Ups.w HB.out⟩⟩
              ·rw [if_neg c15] at H
               exact absurd H (by simp)
             ·rw [if_neg c14] at H
              exact absurd H (by simp)
            ·rw [if_neg c13] at H
             exact absurd H (by simp)
           ·rw [if_neg c12] at H
            exact absurd H (by simp)
          ·rw [if_neg c11] at H
           exact absurd H (by simp)
         ·rw [if_neg c10] at H
          exact absurd H (by simp)
        ·rw [if_neg c9] at H
         have c9b0 : decide (x26_2 < (t111.length : Int)) = false := decide_eq_false c9
         clear c9
         by_cases c21 : x7_1.length < 17592186044416
         ·rw [if_pos c21] at H
          have LMc21 := Az0.mk c21
          clear c21
          obtain ⟨y121, hy121⟩ : ∃ y_ : List Int, y_ = (x7_1 ++ [x11_2]) := ⟨_, rfl⟩
          replace H : (jam_game_costs.l0 k2 t111 y121 (wrap64 (x8_1 + x11_2)) l1 (l1.length : Int) (wrap64 (x19_1 + 1)) l0_0 l0_1 a0_2) = some (r1, r2) := by first | (rw [hy121]; with_reducible exact H) | (have H2_ := (Option.bind_some _ _).symm.trans H; rw [hy121]; with_reducible exact H2_) | (have H2_ := (Option.bind_some _ _).symm.trans H; with_reducible exact H2_) | with_reducible exact H | (rw [hy121]; exact H) | exact H
          have Ny121 := Az0.mk hy121
          clear hy121
          have H' := Az0.mk H
          clear H
          go_wp2_with (first | ((with_reducible refine gate_builtin (b := .append) (xs := #[.tmp 55, .tmp 57]) rfl ?_); at_builtin; refine Kd.R_append (Kd.int .i64) (w0 := w) w.heap.size rfl (.tmp 55) (.tmp 57) 24 3 (.int .i64 0) 8 rfl Try.underlying24 info3 rfl (by decide) (by omega) u7 x7_1 x11_2 [.int .i64 x11_2] (fun k_ => some k_ ≠ (.slice Ao8 t111.length co8 : Value).ownBlock ∧ some k_ ≠ (.slice Ao8 t111.length co8 : Value).ownBlock) (fun _ => False) rfl rfl ?aP (fun _ hk => hk.elim) ?aF ?aO ?aB ?aS ?aL ?_; (case aP => exact rfl); (case aB => exact (by exact Ups.w HB.out)); (case aF => exact (fun k_ hk => ⟨Kd.fresh' (Kd.R_lt (by (repeat refine Up1.r ?_); exact HO_6.out)) k_ hk, Kd.fresh' (Kd.R_lt (by (repeat refine Up1.r ?_); exact HO_24.out)) k_ hk⟩)); (case aO => exact (by (repeat refine Up1.r ?_); exact HO_7.out)); (case aS => exact (bZ_ (by exact Ups.w HB.out))); (case aL => have := LMc21.out; omega); intro v122 w22 ho hb hg hat; rw [← Ny121.out] at ho; have n0_ := Az0.mk (Kd.R_after (ok := (fun _ => True)) (by (repeat refine Up1.r ?_); exact Kd.rM_ HO_6.out (fun _ hk => ⟨trivial, hk⟩)) hg hat); have n1_ := Az0.mk (Kd.R_after (ok := (fun _ => True)) (by (repeat refine Up1.r ?_); exact Kd.rM_ HO_24.out (fun _ hk => ⟨trivial, hk⟩)) hg hat); have n2_ := Az0.mk (hb); have n3_ := Az0.mk (ho); clear HO_6; clear HO_24; clear HB; clear HO_7; have HO_6 := n0_; have HO_24 := n1_; have HB := n2_; have HO123 := n3_; clear n0_ n1_ n2_ n3_; clear ho hb hg hat))
          go_roundg k2
          case measure => have := HK1.out; have := HK2.out; omega
          case rel => exact ⟨(y121), (wrap64 (x8_1 + x11_2)), (wrap64 (x19_1 + 1)), (by first | rfl | (simp; done) | (simp [*]; done)), (by first | rfl | (simp; done) | (simp [*]; done)), H', ⟨by have := HK1.out; have := HK2.out; omega⟩, ⟨by (repeat refine Up1.r ?_); exact Kd.rM_ HO_6.out (fun _ hk => hk.2)⟩, ⟨by (repeat refine Up1.r ?_); exact Kd.rM_ HO123.out (fun _ hk => hk.1)⟩, ⟨by exact Ups.w HB.out⟩⟩
         ·rw [if_neg c21] at H
          exact absurd H (by simp)
     ·rw [if_neg c7] at H
      exact absurd H (by simp)
    ·rw [if_neg c6] at H
     exact absurd H (by simp)
   ·rw [if_neg c5] at H
    have c5b0 : decide (x19_1 < (l1.length : Int)) = false := decide_eq_false c5
    clear c5
    simp only [Option.some.injEq, Prod.mk.injEq] at H
    obtain ⟨rfl, rfl⟩ := H
    go_wp2
    go_ret2
    exact ⟨_, by first | rfl | (simp [errW_none, errW_some] <;> rfl) | (simp [*, errW_none, errW_some] <;> rfl), by (repeat refine Up1.r ?_); exact Kd.rM_ HO_7.out (fun _ hk => trivial), by exact Ups.w HB.out⟩
end Go.Proofs.Ytjgbdicbdlollaa.B
namespace Go.Proofs.Ytjgbdicbdlollaa.B
open Go.RowKit Go.Proofs.YtjgbdicbdlollaaW.PrintWords Go.Proofs.YtjgbdicbdlollaaW.PrintLast Go.Proofs.YtjgbdicbdlollaaW.PrintMore
set_option linter.unusedVariables false
set_option linter.unusedSimpArgs false
def slices_Clone.f (l0 : List Int) : Option (List Int) := if l0.length < 17592186044416 then some l0 else none
set_option maxHeartbeats 800000 in
set_option maxRecDepth 100000 in
theorem slices_Clone.calls (A0 : Option Addr) (c0 : Nat) (l0 : List Int) (r : List Int) (w : World) (hr0 : Kd.C (Kd.int .i64) w A0 l0.length l0) (hc0 : l0.length ≤ c0) (h : slices_Clone.f l0 = some r) :
  Calls Try.prog 62 #[.slice A0 l0.length c0] w fun e w' => ∃ v0_ : Value, e = .returned (v0_) ∧ Kd.R (Kd.int .i64) 3 w' w.heap.size (fun _ => True) v0_ r ∧ Below w.heap.size w w' := by
 have HR0 := Az0.mk hr0
 clear hr0
 have qT : ∀ (w : World) (a : Option Addr) (n c n' c' : Nat), (binOp .eql 24 (.slice a n c) (.slice none n' c')).run Try.prog w = .ok (.bool a.isNone) w := fun w a n c n' c' => Lib.run_eql_slice_nil w _ _ a n c n' c' Try.underlying24
 unfold slices_Clone.f at h
 split at h
 case isFalse => exact absurd h (by simp)
 rename_i hl
 obtain rfl := Option.some.inj h
 clear h
 have HB := Az0.mk (Below.refl w.heap.size w)
 rcases A0 with _ | ad
 ·obtain rfl : l0 = [] := by
   obtain ⟨inner, h1, h2⟩ := HR0.out
   rcases l0 with _ | ⟨x, l⟩
   ·rfl
   ·obtain ⟨ad, c, e, _⟩ := Kd.C_get HR0.out 0 0 (by omega) (by simp)
    exact absurd e (by simp)
  go_enter Try.func62, Try.ntmps62
  go_wp2
  go_ret
  exact ⟨_, rfl, Kd.R_nil _ _ _ _ _, by repeat (first | exact Below.refl _ _ | apply baA_)⟩
 ·go_enter Try.func62, Try.ntmps62
  go_wp2_with (first | ((with_reducible refine gD_ (N := 5) rfl ?_); refine Kd.R_lit (Kd.int .i64) _ 3 ?hg (N := 5) ?hd (xs := ([] : List Int)) (inner := []) (ok := fun _ => True) (okp := fun _ => True) ?hr ?hp (fun _ hk => hk) trivial (Below.refl _ _) (Nat.le_refl _) (by simp) ?_; (case hd => rfl); (case hg => rfl); (case hr => first | (go_simp; done) | (go_simp; rfl)); (case hp => exact (Reps.none _ _)); intro v5 w1 ho2 hb hg_ hnew_; have HO := Az0.mk ho2; have HB1 := Az0.mk hb; clear ho2 hb hg_ hnew_) | ((with_reducible refine gD_ (N := 7) rfl ?_); refine Kd.R_append_rows (Kd.int .i64) (w0 := w) w.heap.size rfl (.tmp 5) (.tmp 6) 24 3 (.int .i64 0) 8 rfl Try.underlying24 info3 rfl (by decide) (by omega) v5 ([] : List Int) l0 _ _ _ (fun _ => True) (fun _ => False) rfl rfl ?aO ?aR (fun _ _ h => h) (fun _ h => h.elim) ?aF ?aB ?aS ?aL ?_; (case aR => exact Kd.C_below HR0.out HB1.out); (case aB => exact HB1.out); (case aF => exact (fun _ _ => trivial)); (case aO => exact HO.out); (case aS => exact HB1.out.size); (case aL => simp; omega); intro v7 w2 ho2 hb hg_ hat_; have HO2 := Az0.mk ho2; have HB2 := Az0.mk hb; clear ho2 hb hg_ hat_))
  go_ret
  exact ⟨_, rfl, by simpa using HO2.out, HB2.out⟩
end Go.Proofs.Ytjgbdicbdlollaa.B
namespace Go.Proofs.Ytjgbdicbdlollaa.B
open Go.RowKit Go.Proofs.YtjgbdicbdlollaaW.PrintWords Go.Proofs.YtjgbdicbdlollaaW.PrintLast Go.Proofs.YtjgbdicbdlollaaW.PrintMore
set_option linter.unusedVariables false
set_option linter.unusedSimpArgs false
/-- A place that is a street. -/
def kPl : Kd (List Int) where
  sz := 1
  E := []
  K := fun w xs cs => ∃ A c, cs = [.iface 118 (.slice A xs.length c)] ∧ xs.length ≤ c ∧ (Kd.int .i64).C w A xs.length xs
  M := fun _ _ _ _ _ => False
  K_len := fun h => by obtain ⟨_, _, rfl, _⟩ := h; rfl
  K_one := fun h u hu => by obtain ⟨_, _, rfl, _⟩ := h; rw [List.mem_singleton.1 hu]; rfl
  K_below := fun hb h => by obtain ⟨A, c, e, l, r⟩ := h; exact ⟨A, c, e, l, Kd.C_below r hb⟩
  K_of_M := fun h => h.elim
  M_mono := fun _ h => h
  M_bound := fun h => h
  M_move := fun _ h => h
  M_lower := fun _ h => h
theorem at_pl {w : World} {A : Option Addr} {n : Nat} {xs : List (List Int)} (h : Kd.C kPl w A n xs) (i : Int) (h0 : 0 ≤ i) (h1 : i < n) : ∃ ad A0 c0, A = some ad ∧ w.cell? (ad.add i.toNat) = some (.iface 118 (.slice A0 (rd_L12 xs i).length c0)) ∧ (rd_L12 xs i).length ≤ c0 ∧ (Kd.int .i64).C w A0 (rd_L12 xs i).length (rd_L12 xs i) := by
  obtain ⟨ad, c, e, _, hK, hc0⟩ := Kd.C_get h ([] : List Int) i h0 h1
  have hc : ∀ j u, c[j]? = some u → w.cell? (ad.add (i.toNat * 1 + j)) = some u := hc0
  obtain ⟨A0, c0, rfl, l0, g0⟩ := hK
  exact ⟨ad, A0, c0, e, by have hq := hc 0 _ rfl; rwa [Nat.mul_one, Nat.add_zero] at hq, l0, g0⟩
theorem kPl_op {w : World} {A : Option Addr} {n : Nat} {T : List (List Int)} (h : Kd.C kPl w A n T) : Kd.C kOp w A n (List.replicate T.length ()) := by
  refine ⟨by rw [List.length_replicate]; exact h.1, h.2.1, fun hn => ?_⟩
  obtain ⟨ad, e, hc⟩ := h.2.2 hn
  refine ⟨ad, e, fun j p hj => ?_⟩
  have hl : j < T.length := by
    rw [List.getElem?_eq_some_iff] at hj
    obtain ⟨hj, _⟩ := hj
    simpa using hj
  obtain ⟨c, hs, hr, hcell⟩ := hc j _ (List.getElem?_eq_getElem hl)
  refine ⟨c, hs, ?_, hcell⟩
  obtain ⟨A0, c0, rfl, _⟩ := hr
  exact ⟨_, rfl, rfl⟩
/-- What each of n drivers on place i pays. -/
def payF (T : List (List Int)) (i n : Int) : Option Int :=
  if 0 ≤ i then if i < (T.length : Int) then if 0 ≤ n - 1 then if n - 1 < ((rd_L12 T i).length : Int) then some (rd (rd_L12 T i) (n - 1)) else none else none else none else none
/-- The cells of a game: its routes, its places (the tolls), and the closure pays, which has a cell q of its own. -/
structure Gm (w : World) (g : Nat) (R T : List (List Int)) : Prop where
  ex : ∃ (Ar : Option Addr) (cr : Nat) (Ap : Option Addr) (cp : Nat) (q : Nat),
    w.heap[g]? = some (.cells #[.slice Ar R.length cr, .slice Ap T.length cp, .func (.func 90) #[] #[.pointer (some ⟨q, 0, none⟩)]] 97 (0, 0)) ∧
    R.length ≤ cr ∧ Kd.C (Kd.slice 3 (Kd.int .i64)) w Ar R.length R ∧ T.length ≤ cp ∧ Kd.C kPl w Ap T.length T ∧ (∀ x ∈ T, x.length ≤ 1000000) ∧
    w.heap[q]? = some (.cells #[.pointer (some ⟨g, 0, none⟩)] 82 (0, 0))
theorem Gm.below {w w' : World} {g : Nat} {R T : List (List Int)} (h : Gm w g R T) (hb : Below w.heap.size w w') : Gm w' g R T := by
  obtain ⟨Ar, cr, Ap, cp, q, h1, h2, h3, h4, h5, h6, h7⟩ := h.ex
  exact ⟨Ar, cr, Ap, cp, q, bB_ h1 hb, h2, Kd.C_below h3 hb, h4, Kd.C_below h5 hb, h6, bB_ h7 hb⟩
theorem Gm.lt {w : World} {g : Nat} {R T : List (List Int)} (h : Gm w g R T) : g < w.heap.size := by
  obtain ⟨Ar, cr, Ap, cp, q, h1, _⟩ := h.ex
  exact bL_ h1
set_option maxHeartbeats 800000 in
set_option maxRecDepth 100000 in
theorem street_calls (A : Option Addr) (c : Nat) (l : List Int) (n : Int) (w : World) (hr : Kd.C (Kd.int .i64) w A l.length l) (h0 : 0 ≤ n - 1) (h1 : n - 1 < (l.length : Int)) (hl : l.length ≤ 1000000) :
  Calls Try.prog 141 #[.slice A l.length c, .int .i64 n] w fun e w' => e = .returned (.int .i64 (rd l (n - 1))) ∧ Below w.heap.size w w' := by
 have hu := Try.underlying118
 obtain ⟨ad, e, hx⟩ := Kd.at_int hr (n - 1) h0 h1
 cases e
 have HB := Az0.mk (Below.refl w.heap.size w)
 clear hr
 go_enter Try.func141, Try.ntmps141
 rw [show (n - 1).toNat = n.toNat - 1 by omega] at hx
 go_wp2
 go_ret
 exact ⟨by first | rfl | (simp; done), by exact Ups.w HB.out⟩
set_option maxHeartbeats 800000 in
set_option maxRecDepth 100000 in
theorem pays_calls (g q : Nat) (R T : List (List Int)) (i n r : Int) (w : World) (hG : Gm w g R T) (hq : w.heap[q]? = some (.cells #[.pointer (some ⟨g, 0, none⟩)] 82 (0, 0))) (h : payF T i n = some r) :
  Calls Try.prog 90 #[.int .i64 i, .int .i64 n, .pointer (some ⟨q, 0, none⟩)] w fun e w' => e = .returned (.int .i64 r) ∧ Below w.heap.size w w' := by
 obtain ⟨Ar, cr, Ap, cp, q', h1, h2, h3, h4, h5, hT, h6⟩ := hG.ex
 unfold payF at h
 split at h
 case isFalse => exact absurd h (by simp)
 rename_i i0
 split at h
 case isFalse => exact absurd h (by simp)
 rename_i i1
 split at h
 case isFalse => exact absurd h (by simp)
 rename_i n0
 split at h
 case isFalse => exact absurd h (by simp)
 rename_i n1
 obtain rfl := Option.some.inj h
 obtain ⟨ad, A0, c0, e, hx, hc0, hC⟩ := at_pl h5 i i0 i1
 cases e
 obtain ⟨l, hl⟩ : ∃ l, rd_L12 T i = l := ⟨_, rfl⟩
 have hll : l.length ≤ 1000000 := by
  rw [← hl]
  unfold rd_L12
  rcases Nat.lt_or_ge i.toNat T.length with hj | hj
  ·rw [List.getD_eq_getElem?_getD, List.getElem?_eq_getElem hj]; exact hT _ (List.getElem_mem hj)
  ·rw [List.getD_eq_getElem?_getD, List.getElem?_eq_none hj]; simp
 rw [hl] at hx hC hc0 n1 ⊢
 have hq0 := (bkC hq 0).trans rfl
 have hp1 := (bkC h1 1).trans rfl
 have HC := Az0.mk hC
 have HB := Az0.mk (Below.refl w.heap.size w)
 have N0 := Az0.mk n0
 have N1 := Az0.mk n1
 have HLL := Az0.mk hll
 have hu := Try.underlying94
 have hm : ∀ (w : World) (A : Option Addr) (n c : Nat), (method 273 118 (.slice A n c) "trishaw/jam.cost").run Try.prog w = .ok (141, .slice A n c) w := fun _ _ _ _ => by kernel_rfl
 clear hG hT h2 h3 h4 h5 h6 h1 hq hC hc0 hl hll h n0 n1
 replace i0 := eq_true i0
 replace i1 := eq_true i1
 go_enter Try.func90, Try.ntmps90
 go_wp2_with (first | (go_at_call 141; (refine (street_calls A0 c0 l n _ (Kd.C_below HC.out HB.out) N0.out N1.out HLL.out).mono ?_); rintro e w2 ⟨rfl, hb⟩; have n0_ := Az0.mk (bP_ HB.out hb); clear HB; have HB := n0_; clear n0_ hb))
 go_ret
 exact ⟨by first | rfl | (simp; done), HB.out⟩
theorem Gm.open_ {w : World} {g : Nat} {R T : List (List Int)} (hG : Gm w g R T) : ∃ (Ar : Option Addr) (cr : Nat) (Ap : Option Addr) (cp : Nat) (vf : Value),
    w.heap[g]? = some (.cells #[.slice Ar R.length cr, .slice Ap (List.replicate T.length ()).length cp, vf] 97 (0, 0)) ∧
    R.length ≤ cr ∧ Kd.C (Kd.slice 3 (Kd.int .i64)) w Ar R.length R ∧ (List.replicate T.length ()).length ≤ cp ∧ Kd.C kOp w Ap (List.replicate T.length ()).length (List.replicate T.length ()) ∧ IsFn2 Try.prog w vf (payF T) := by
  obtain ⟨Ar, cr, Ap, cp, q, h1, h2, h3, h4, h5, hT, h6⟩ := hG.ex
  refine ⟨Ar, cr, Ap, cp, _, by rw [List.length_replicate]; exact h1, h2, h3, by rw [List.length_replicate]; exact h4, by rw [List.length_replicate]; exact kPl_op h5, 90, _, Try.f90, rfl, Try.func90, by kernel_rfl, rfl, fun W hW i n r h => ?_⟩
  exact pays_calls g q R T i n r W (hG.below hW) (bB_ h6 hW) h
theorem costs_g (k g : Nat) (R T : List (List Int)) (A : Option Addr) (c : Nat) (l r1 : List Int) (r2 : Int) (w : World) (hG : Gm w g R T) (hr : Kd.C (Kd.int .i64) w A l.length l) (hc : l.length ≤ c) (h : jam_game_costs.f k R (List.replicate T.length ()) (payF T) l = some (r1, r2)) :
    Calls Try.prog 61 #[.pointer (some ⟨g, 0, none⟩), .slice A l.length c] w fun e w' => ∃ v0_ : Value, e = .returned (.tuple #[v0_, .int .i64 r2]) ∧ Kd.R (Kd.int .i64) 3 w' w.heap.size (fun _ => True) v0_ r1 ∧ Below w.heap.size w w' := by
  obtain ⟨Ar, cr, Ap, cp, vf, h1, h2, h3, h4, h5, h6⟩ := hG.open_
  exact jam_game_costs.calls k g Ar cr R Ap cp _ vf (payF T) A c l r1 r2 w h1 h3 h2 h5 h4 h6 hr hc h
end Go.Proofs.Ytjgbdicbdlollaa.B
namespace Go.Proofs.Ytjgbdicbdlollaa.B
open Go.RowKit Go.Proofs.YtjgbdicbdlollaaW.PrintWords Go.Proofs.YtjgbdicbdlollaaW.PrintLast Go.Proofs.YtjgbdicbdlollaaW.PrintMore
attribute [local go_sem] max2_int min2_int max_two min_two
set_option linter.unusedVariables false
set_option linter.unusedSimpArgs false
theorem val_succ (i : Nat) (h : i < 1000000) : Value.int .i64 (wrap64 ((i : Int) + 1)) = Value.int .i64 ((i + 1 : Nat) : Int) := by rw [show wrap64 ((i : Int) + 1) = ((i + 1 : Nat) : Int) from by unfold wrap64; omega]
/-- The min of the first i + 1 numbers. -/
def minU (l : List Int) : Nat → Int
  | 0 => rd l 0
  | i + 1 => mn (minU l i) (rd l ((i + 1 : Nat) : Int))
set_option maxHeartbeats 800000 in
set_option maxRecDepth 100000 in
theorem min_calls (A : Option Addr) (c : Nat) (l : List Int) (w : World) (hr : Kd.C (Kd.int .i64) w A l.length l) (h0 : 0 < l.length) (h1 : l.length < 1000000) :
  Calls Try.prog 88 #[.slice A l.length c] w fun e w' => e = .returned (.int .i64 (minU l (l.length - 1))) ∧ Below w.heap.size w w' := by
 have HR := Az0.mk hr
 have H0 := Az0.mk h0
 have H1 := Az0.mk h1
 have c0 : decide ((l.length : Int) < 1) = false := decide_eq_false (by omega)
 have c0b : decide (l.length < 1) = false := decide_eq_false (by omega)
 have c0c : decide (l.length = 0) = false := decide_eq_false (by omega)
 obtain ⟨ad, e, hx⟩ := Kd.at_int hr 0 (by omega) (by omega)
 cases e
 simp only [Int.toNat_zero, Addr.add_zero'] at hx
 have hp : (0 < l.length) = True := eq_true h0
 have HB := Az0.mk (Below.refl w.heap.size w)
 clear hr h0 h1
 go_enter Try.func88, Try.ntmps88
 go_wp2
 go_loopg [3, 4] l.length (fun kq v3 v4 w' => ∃ i : Nat, v3 = .int .i64 (minU l i) ∧ v4 = .int .i64 ((i + 1 : Nat) : Int) ∧ Az0 (i + 1 + kq = l.length + 1) ∧ Az0 (i < l.length) ∧ Az0 (Below w.heap.size w w'))
 case atStart => exact ⟨0, rfl, rfl, ⟨by omega⟩, ⟨H0.out⟩, HB⟩
 case round =>
  clear HB hx
  obtain ⟨i, rfl, rfl, HI, HL, HB⟩ := hrel
  obtain ⟨m, hm⟩ : ∃ m, minU l i = m := ⟨_, rfl⟩
  have HM := Az0.mk hm
  rw [hm]
  clear hm
  by_cases hi : i + 1 < l.length
  ·obtain ⟨ad2, e, hx⟩ := Kd.at_int HR.out ((i + 1 : Nat) : Int) (by omega) (by omega)
   cases e
   simp only [Int.toNat_natCast] at hx
   replace hx := (HB.out.cell (World.block_lt_of_cell? w _ hx)).trans hx
   obtain ⟨x, hxx⟩ : ∃ x, rd l ((i + 1 : Nat) : Int) = x := ⟨_, rfl⟩
   rw [hxx] at hx
   have HX := Az0.mk hxx
   clear hxx
   have i0 : (0 : Int) ≤ ((i + 1 : Nat) : Int) := by omega
   have i1 : ((i + 1 : Nat) : Int) < (l.length : Int) := by omega
   have c1 : decide (((i + 1 : Nat) : Int) < (l.length : Int)) = true := decide_eq_true i1
   have c2 : decide (i + 1 < l.length) = true := decide_eq_true hi
   obtain ⟨gi, hgi⟩ : ∃ gi : Nat, gi = i + 1 := ⟨_, rfl⟩
   rw [← hgi] at hx i0 i1 c1 c2 ⊢
   have GI := Az0.mk hgi
   have hi2 := eq_true (hgi ▸ hi)
   clear hgi hi
   replace i0 := eq_true i0
   replace i1 := eq_true i1
   obtain ⟨k1, rfl⟩ : ∃ k1, gk = k1 + 1 := ⟨gk - 1, by have := HI.out; have := GI.out; have := of_decide_eq_true c2; omega⟩
   go_wp2
   all_goals
    go_roundg k1
    case measure => omega
    case rel => exact ⟨i + 1, congrArg _ (by rw [show minU l (i + 1) = mn m x from by show mn (minU l i) (rd l _) = _; rw [HM.out, HX.out]]; unfold mn; omega), by rw [val_succ gi (by have := of_decide_eq_true c2; have := H1.out; omega), GI.out], ⟨by have := HI.out; omega⟩, ⟨by have := of_decide_eq_true c2; have := GI.out; omega⟩, ⟨by exact Ups.w HB.out⟩⟩
  ·have c1 : decide (((i + 1 : Nat) : Int) < (l.length : Int)) = false := decide_eq_false (by omega)
   have c2 : decide (i + 1 < l.length) = false := decide_eq_false (by omega)
   have hil : i = l.length - 1 := by have := HL.out; omega
   have HIL := Az0.mk hil
   obtain ⟨gi, hgi⟩ : ∃ gi : Nat, gi = i + 1 := ⟨_, rfl⟩
   rw [← hgi] at c1 c2 ⊢
   clear hi hil hgi
   go_wp2
   go_ret
   exact ⟨by rw [← HIL.out]; rw [HM.out]; rfl, HB.out⟩
/-- The max of the first i + 1 numbers. -/
def maxU (l : List Int) : Nat → Int
  | 0 => rd l 0
  | i + 1 => mx (maxU l i) (rd l ((i + 1 : Nat) : Int))
set_option maxHeartbeats 800000 in
set_option maxRecDepth 100000 in
theorem max_calls (A : Option Addr) (c : Nat) (l : List Int) (w : World) (hr : Kd.C (Kd.int .i64) w A l.length l) (h0 : 0 < l.length) (h1 : l.length < 1000000) :
  Calls Try.prog 89 #[.slice A l.length c] w fun e w' => e = .returned (.int .i64 (maxU l (l.length - 1))) ∧ Below w.heap.size w w' := by
 have HR := Az0.mk hr
 have H0 := Az0.mk h0
 have H1 := Az0.mk h1
 have c0 : decide ((l.length : Int) < 1) = false := decide_eq_false (by omega)
 have c0b : decide (l.length < 1) = false := decide_eq_false (by omega)
 have c0c : decide (l.length = 0) = false := decide_eq_false (by omega)
 obtain ⟨ad, e, hx⟩ := Kd.at_int hr 0 (by omega) (by omega)
 cases e
 simp only [Int.toNat_zero, Addr.add_zero'] at hx
 have hp : (0 < l.length) = True := eq_true h0
 have HB := Az0.mk (Below.refl w.heap.size w)
 clear hr h0 h1
 go_enter Try.func89, Try.ntmps89
 go_wp2
 go_loopg [3, 4] l.length (fun kq v3 v4 w' => ∃ i : Nat, v3 = .int .i64 (maxU l i) ∧ v4 = .int .i64 ((i + 1 : Nat) : Int) ∧ Az0 (i + 1 + kq = l.length + 1) ∧ Az0 (i < l.length) ∧ Az0 (Below w.heap.size w w'))
 case atStart => exact ⟨0, rfl, rfl, ⟨by omega⟩, ⟨H0.out⟩, HB⟩
 case round =>
  clear HB hx
  obtain ⟨i, rfl, rfl, HI, HL, HB⟩ := hrel
  obtain ⟨m, hm⟩ : ∃ m, maxU l i = m := ⟨_, rfl⟩
  have HM := Az0.mk hm
  rw [hm]
  clear hm
  by_cases hi : i + 1 < l.length
  ·obtain ⟨ad2, e, hx⟩ := Kd.at_int HR.out ((i + 1 : Nat) : Int) (by omega) (by omega)
   cases e
   simp only [Int.toNat_natCast] at hx
   replace hx := (HB.out.cell (World.block_lt_of_cell? w _ hx)).trans hx
   obtain ⟨x, hxx⟩ : ∃ x, rd l ((i + 1 : Nat) : Int) = x := ⟨_, rfl⟩
   rw [hxx] at hx
   have HX := Az0.mk hxx
   clear hxx
   have i0 : (0 : Int) ≤ ((i + 1 : Nat) : Int) := by omega
   have i1 : ((i + 1 : Nat) : Int) < (l.length : Int) := by omega
   have c1 : decide (((i + 1 : Nat) : Int) < (l.length : Int)) = true := decide_eq_true i1
   have c2 : decide (i + 1 < l.length) = true := decide_eq_true hi
   obtain ⟨gi, hgi⟩ : ∃ gi : Nat, gi = i + 1 := ⟨_, rfl⟩
   rw [← hgi] at hx i0 i1 c1 c2 ⊢
   have GI := Az0.mk hgi
   have hi2 := eq_true (hgi ▸ hi)
   clear hgi hi
   replace i0 := eq_true i0
   replace i1 := eq_true i1
   obtain ⟨k1, rfl⟩ : ∃ k1, gk = k1 + 1 := ⟨gk - 1, by have := HI.out; have := GI.out; have := of_decide_eq_true c2; omega⟩
   go_wp2
   all_goals
    go_roundg k1
    case measure => omega
    case rel => exact ⟨i + 1, congrArg _ (by rw [show maxU l (i + 1) = mx m x from by show mx (maxU l i) (rd l _) = _; rw [HM.out, HX.out]]; unfold mx; omega), by rw [val_succ gi (by have := of_decide_eq_true c2; have := H1.out; omega), GI.out], ⟨by have := HI.out; omega⟩, ⟨by have := of_decide_eq_true c2; have := GI.out; omega⟩, ⟨by exact Ups.w HB.out⟩⟩
  ·have c1 : decide (((i + 1 : Nat) : Int) < (l.length : Int)) = false := decide_eq_false (by omega)
   have c2 : decide (i + 1 < l.length) = false := decide_eq_false (by omega)
   have hil : i = l.length - 1 := by have := HL.out; omega
   have HIL := Az0.mk hil
   obtain ⟨gi, hgi⟩ : ∃ gi : Nat, gi = i + 1 := ⟨_, rfl⟩
   rw [← hgi] at c1 c2 ⊢
   clear hi hil hgi
   go_wp2
   go_ret
   exact ⟨by rw [← HIL.out]; rw [HM.out]; rfl, HB.out⟩
end Go.Proofs.Ytjgbdicbdlollaa.B
