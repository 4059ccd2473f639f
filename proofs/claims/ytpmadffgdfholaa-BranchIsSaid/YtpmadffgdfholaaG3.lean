/- Texts behind the row of BranchIs, part 3: contracts of the functions it reaches, words that their walks use, and lemmas in plain Lean. -/
import Derived.Below
import Derived.Deep.Draws
import Derived.Deep.AppendLies
import Derived.Maps.AppendAt
import Derived.OwnWalk
import Derived.Laws.BytesArg
import Derived.Laws.MakeOwn
import Derived.Laws.OwnMore
import Derived.Deep.OwnRows
import Derived.Tactics
import Derived.Lib.ConvBytes
import Derived.Laws.Slices
import Derived.WalkKit
import Derived.KernelRfl
import Derived.RowKit3
import Derived.Deep.LoopGhost
import Derived.Deep.QuietTactic
import Derived.BigQuiet
import Derived.WideLaws
import Derived.Deep.DeepCutAuto
import Derived.Deep.CutBlock
import Derived.Deep.RegionHeld3
import Derived.Laws.Rows
import Derived.Lib.AppendStr
import Derived.ArgAppend
import Derived.Laws.IdiomCopy
import Derived.RowKit
import Derived.OrdersHeld
import Derived.Laws.BitsLemmas
import Derived.Test.YtpmadffgdfholaaProg
import Derived.Laws.StructEq
import Derived.MapKept
import Derived.WalkSpells
import Derived.Deep.DrawnRows
import Derived.Test.YtpmadffgdfholaaG1
import Derived.Test.YtpmadffgdfholaaG2
namespace Go.Proofs.Ytpmadffgdfholaa.B
open Go.RowKit Go.Proofs.YtpmadffgdfholaaW.PrintWords Go.Proofs.YtpmadffgdfholaaW.PrintLast Go.Proofs.YtpmadffgdfholaaW.PrintMore
attribute [local go_sem] max2_int min2_int max_two min_two max_three min_three max_four min_four   -- for this text's walks alone
set_option linter.unusedVariables false
set_option linter.unusedSimpArgs false
mutual
def trishawref03_Proves.l0 : Nat → Int → List (S30) → List (S41) → List Bool → Int → Option (Int × Bool × Int)
  | 0, _, _, _, _, _ => none
  | k + 1, x0, x1, x2, x10, x11 => if x11 < (x2.length : Int) then (if 0 ≤ x11 then ((trishawref03_IsSet.f x0 ((rd_T41 x2 x11).f0)).bind fun t169 => (if t169 = true then (if 0 ≤ ((rd_T41 x2 x11).f0) then (if ((rd_T41 x2 x11).f0) < (x10.length : Int) then (if rdOf false x10 ((rd_T41 x2 x11).f0) = true then (trishawref03_Proves.j1 k x0 x1 x2 x10 x11 true) else (if ((rd_T41 x2 x11).f1) < 1 then (trishawref03_Proves.j1 k x0 x1 x2 x10 x11 true) else (trishawref03_Proves.j1 k x0 x1 x2 x10 x11 (decide (((rd_T41 x2 x11).f1) > 1000))))) else (none)) else (none)) else (trishawref03_Proves.j1 k x0 x1 x2 x10 x11 true))) else (none)) else (trishawref03_Proves.l1 k x1 x2 0)
def trishawref03_Proves.j1 : Nat → Int → List (S30) → List (S41) → List Bool → Int → Bool → Option (Int × Bool × Int)
  | 0, _, _, _, _, _, _ => none
  | k + 1, x0, x1, x2, x10, x11, x65 => if x65 = true then (some (0, false, 0)) else (if 0 ≤ x11 then (if x11 < (x2.length : Int) then (if 0 ≤ ((rd_T41 x2 x11).f0) then (if ((rd_T41 x2 x11).f0) < (x10.length : Int) then (trishawref03_Proves.l0 k x0 x1 x2 (x10.set (((rd_T41 x2 x11).f0) : Int).toNat true) (wrap64 (x11 + 1))) else (none)) else (none)) else (none)) else (none))
def trishawref03_Proves.l1 : Nat → List (S30) → List (S41) → Int → Option (Int × Bool × Int)
  | 0, _, _, _ => none
  | k + 1, x1, x2, x12 => if x12 < (x1.length : Int) then (if 0 ≤ x12 then (trishawref03_Proves.l2 k x1 x2 x12 ((rd_T30 x1 x12).f2) 0) else (none)) else (trishawref03_Proves.l3 k x2 0 0)
def trishawref03_Proves.l2 : Nat → List (S30) → List (S41) → Int → Int → Int → Option (Int × Bool × Int)
  | 0, _, _, _, _, _ => none
  | k + 1, x1, x2, x12, x13, x14 => if x14 < (x2.length : Int) then (if 0 ≤ x12 then (if x12 < (x1.length : Int) then (if 0 ≤ x14 then ((trishawref03_Enters.f ((rd_T30 x1 x12).f0) ((rd_T30 x1 x12).f1) ((rd_T30 x1 x12).f2) ((rd_T41 x2 x14).f0)).bind fun t179 => (if t179 = true then (if ((rd_T41 x2 x14).f1) > x13 then (some (0, false, 0)) else (trishawref03_Proves.l2 k x1 x2 x12 (wrap64 (x13 - ((rd_T41 x2 x14).f1))) (wrap64 (x14 + 1)))) else (trishawref03_Proves.l2 k x1 x2 x12 x13 (wrap64 (x14 + 1))))) else (none)) else (none)) else (none)) else (trishawref03_Proves.l1 k x1 x2 (wrap64 (x12 + 1)))
def trishawref03_Proves.l3 : Nat → List (S41) → Int → Int → Option (Int × Bool × Int)
  | 0, _, _, _ => none
  | k + 1, x2, x15, x16 => if x16 < (x2.length : Int) then (if 0 ≤ x16 then (trishawref03_Proves.l3 k x2 (wrap64 (x15 + ((rd_T41 x2 x16).f1))) (wrap64 (x16 + 1))) else (none)) else (some (x15, true, 0))
end
def trishawref03_Proves.f (k : Nat) (a0 : Int) (l1 : List (S30)) (l2 : List (S41)) : Option (Int × Bool × Int) := (trishawref03_Town.f k a0 l1).bind fun t164 => (if t164 = 0 then (if 0 ≤ a0 then (if 0 ≤ (shl .i64 1 a0) then (if (shl .i64 1 a0 : Int).toNat ≤ 281474976710656 then (trishawref03_Proves.l0 k a0 l1 l2 (List.replicate (shl .i64 1 a0 : Int).toNat false) 0) else (none)) else (none)) else (none)) else (some (0, false, t164)))
def trishawref03_Proves.T18 : Bool × List (List Nat × List Nat) := (true, [([], []), ([], []), ([0, 1], [0, 1]), ([2], [2]), ([], []), ([], []), ([4, 5], [4, 5]), ([6], [6]), ([7], [7]), ([3, 8], [3, 8])])
def trishawref03_Proves.B18 : List Nat := [0, 0, 3, 7, 0, 0, 48, 112, 240, 511]
theorem trishawref03_Proves.tab18 : rtab .any (opsOf Try.f23 18) = trishawref03_Proves.T18 := by kernel_rfl
theorem trishawref03_Proves.bits18 : waitsOk trishawref03_Proves.T18.2 trishawref03_Proves.B18 = true := by kernel_rfl
set_option maxHeartbeats 8000000 in
set_option maxRecDepth 100000 in
theorem trishawref03_Proves.calls (k : Nat) (a0 : Int) (A1 : Option Addr) (c1 : Nat) (l1 : List (S30)) (A2 : Option Addr) (c2 : Nat) (l2 : List (S41)) (r1 : Int) (r2 : Bool) (r3 : Int) (w : World) (hr1 : Kd.C k30 w A1 l1.length l1) (hc1 : l1.length ≤ c1) (hr2 : Kd.C k41 w A2 l2.length l2) (hc2 : l2.length ≤ c2) (h : trishawref03_Proves.f k a0 l1 l2 = some (r1, r2, r3)) :
    Calls Try.prog 23 #[.int .i64 a0, .slice A1 l1.length c1, .slice A2 l2.length c2] w fun e w' => e = .returned (.tuple #[.int .i64 r1, .bool r2, .int .i64 r3]) ∧ Below w.heap.size w w' := by
  have hu30 := Try.underlying30
  have HR1 := Aside0.mk hr1
  have HC1 := Aside0.mk hc1
  clear hr1 hc1
  have HR2 := Aside0.mk hr2
  have HC2 := Aside0.mk hc2
  clear hr2 hc2
  have HB := Aside0.mk (Below.refl w.heap.size w)
  have H : ((trishawref03_Town.f k a0 l1).bind fun t164 => (if t164 = 0 then (if 0 ≤ a0 then (if 0 ≤ (shl .i64 1 a0) then (if (shl .i64 1 a0 : Int).toNat ≤ 281474976710656 then (trishawref03_Proves.l0 k a0 l1 l2 (List.replicate (shl .i64 1 a0 : Int).toNat false) 0) else (none)) else (none)) else (none)) else (some (0, false, t164)))) = some (r1, r2, r3) := h
  clear h
  replace H := Option.bind_eq_some_iff.mp H
  obtain ⟨t164, A40, H⟩ := H
  replace H : (if t164 = 0 then (if 0 ≤ a0 then (if 0 ≤ (shl .i64 1 a0) then (if (shl .i64 1 a0 : Int).toNat ≤ 281474976710656 then (trishawref03_Proves.l0 k a0 l1 l2 (List.replicate (shl .i64 1 a0 : Int).toNat false) 0) else (none)) else (none)) else (none)) else (some (0, false, t164))) = some (r1, r2, r3) := H
  have A4 := Aside0.mk A40
  clear A40
  by_cases c5 : t164 = 0
  · rw [if_pos c5] at H
    have c5b0 : (t164 == 0) = true := beq_iff_eq.mpr c5
    have c5b1 : (t164 != 0) = false := bne_eq_false_iff_eq.mpr c5
    clear c5
    by_cases c6 : 0 ≤ a0
    · rw [if_pos c6] at H
      have c6b0 := eq_true c6
      have c6b1 : decide (0 ≤ a0) = true := decide_eq_true c6
      clear c6
      obtain ⟨ji7, hji7⟩ : ∃ j_ : Int, (shl .i64 1 a0) = j_ := ⟨_, rfl⟩
      replace H : (if 0 ≤ (ji7) then (if (ji7 : Int).toNat ≤ 281474976710656 then (trishawref03_Proves.l0 k a0 l1 l2 (List.replicate (ji7 : Int).toNat false) 0) else (none)) else (none)) = some (r1, r2, r3) := by first | (rw [hji7] at H; exact H) | (simp only [hji7] at H ⊢; exact H)
      (try rw [hji7] at A4)
      have hji7_ : (IntKind.i64.wrap (1 * 2 ^ min a0.toNat 64)) = ji7 := hji7
      have hji7z : a0 ≤ 64 → (IntKind.i64.wrap (1 * 2 ^ a0.toNat)) = ji7 := shl_small hji7
      have hji7u : (IntKind.i64.wrap (2 ^ min a0.toNat 64)) = ji7 := by have h_ := hji7_; rw [Int.one_mul] at h_; exact h_
      have hji7v : a0 ≤ 64 → (IntKind.i64.wrap (2 ^ a0.toNat)) = ji7 := fun hle_ => by have h_ := hji7z hle_; rw [Int.one_mul] at h_; exact h_
      have hji7y : (wrap64 (1 * 2 ^ min a0.toNat 64)) = ji7 := (i64_w _).symm.trans hji7_
      have hji7x : a0 ≤ 64 → (wrap64 (1 * 2 ^ a0.toNat)) = ji7 := fun h_ => (i64_w _).symm.trans (hji7z h_)
      by_cases c8 : 0 ≤ (ji7)
      · rw [if_pos c8] at H
        have c8b0 := eq_true c8
        have c8b1 : decide (0 ≤ (ji7)) = true := decide_eq_true c8
        clear c8
        by_cases c9 : (ji7 : Int).toNat ≤ 281474976710656
        · rw [if_pos c9] at H
          have c9b0 := eq_true c9
          have c9b1 : decide ((ji7 : Int).toNat ≤ 281474976710656) = true := decide_eq_true c9
          clear c9
          obtain ⟨y165, hy165⟩ : ∃ y_ : List Bool, y_ = (List.replicate (ji7 : Int).toNat false) := ⟨_, rfl⟩
          replace H : (trishawref03_Proves.l0 k a0 l1 l2 y165 0) = some (r1, r2, r3) := by first | (rw [hy165]; with_reducible exact H) | (have H2_ := (Option.bind_some _ _).symm.trans H; rw [hy165]; with_reducible exact H2_) | (have H2_ := (Option.bind_some _ _).symm.trans H; with_reducible exact H2_) | with_reducible exact H | (rw [hy165]; exact H) | exact H
          have Ny165 := Aside0.mk hy165
          clear hy165
          have H' := Aside0.mk H
          clear H
          go_enter Try.func23, Try.ntmps23
          go_wp2_with (first | ((with_reducible refine gate_callee (f := 16) rfl ?_); refine goesL_ (some 19) rfl rfl Try.func16 (by kernel_rfl) rfl #[.int .i64 a0, .slice A1 l1.length c1] rfl (by (try simp only [List.map_toArray, List.map_cons, List.map_nil]); first | done | rfl | (simp only [List.length_drop, List.length_take]; rfl)) ?_; (with_reducible refine (trishawref03_Town.calls k a0 _ _ l1 t164 _ ?side1 ?side2 A4.out).mono ?_); (case side1 => repeat (first | exact HR1.out | (with_reducible refine Kd.C_alloc ?_ _) | (with_reducible refine Kd.C_drewN ?_ _) | (with_reducible refine Kd.C_drew ?_))); (case side2 => exact HC1.out); rintro e w10 ⟨rfl, hb⟩; refine ⟨_, rfl, ?_⟩; have n0_ := Aside0.mk (below_step (by repeat (first | (with_reducible first | exact HB.out | apply below_alloc | apply pw_below_drewN | apply below_drew1) | exact HB.out)) hb); clear HB; have HB := n0_; clear n0_; (try clear hb); (try clear hb2); (try clear hk); (try clear hi)) | ((with_reducible refine gate_dst (N := 25) rfl ?_); refine Kd.R_make Kd.bool _ 4 rfl (N := 25) rfl 62 _ _ rfl ji7 rfl rfl Try.underlying62 (.bool false) 1 info4 rfl (by decide) (by omega) false (ok := fun _ => True) (okp := fun _ => True) rfl (fun _ hk => hk) trivial (of_decide_eq_true (by first | (with_reducible assumption) | assumption)) (Nat.le_trans (Nat.mul_le_mul_right _ (of_decide_eq_true (by first | (with_reducible assumption) | assumption) : ji7.toNat ≤ 281474976710656)) (by omega)) (Below.refl _ _) (Nat.le_refl _) ?_; intro v166 w11 ho12 hb hg_ hnew_; clear hg_ hnew_; (first | rw [← Ny165.out] at ho12 | (simp only [Int.reduceToNat] at ho12; rw [← Ny165.out] at ho12)); have n0_ := Aside0.mk (Kd.R_lower ho12 (below_size (by repeat (first | (with_reducible first | exact HB.out | apply below_alloc | apply pw_below_drewN | apply below_drew1) | exact HB.out)))); have n1_ := Aside0.mk (below_step (by repeat (first | (with_reducible first | exact HB.out | apply below_alloc | apply pw_below_drewN | apply below_drew1) | exact HB.out)) hb); clear HB; have HO167 := n0_; have HB := n1_; clear n0_ n1_; clear hb ho12))
          go_loopg [11] k (fun kq v11 w' => ∃ (x10_1 : List Bool) (x11_1 : Int), v11 = .int .i64 x11_1 ∧ Aside0 (trishawref03_Proves.l0 kq a0 l1 l2 x10_1 x11_1 = some (r1, r2, r3)) ∧ Aside0 (kq ≤ k) ∧ Aside0 (Kd.R Kd.bool 4 w' w.heap.size (fun _ => True) v166 x10_1) ∧ Aside0 (Below w.heap.size w w'))
          case atStart => exact ⟨(y165), (0), (by first | rfl | (simp; done) | (simp [*]; done)), H', ⟨Nat.le_refl _⟩, ⟨by (with_reducible repeat (first | apply Kd.R_alloc | apply Kd.R_drewN | apply Kd.R_drew)); exact HO167.out⟩, ⟨by repeat (first | (with_reducible first | exact HB.out | apply below_alloc | apply pw_below_drewN | apply below_drew1) | exact HB.out)⟩⟩
          case round =>
            clear H'
            try clear c1
            try clear c2
            try clear p2
            try clear c5
            try clear c5b0
            try clear c5b1
            try clear c6
            try clear c6b0
            try clear c6b1
            try clear p6
            try clear c8
            try clear c8b0
            try clear c8b1
            try clear c9
            try clear c9b0
            try clear c9b1
            obtain ⟨x10_1, x11_1, rfl, HA, HK1, HO_10, HB⟩ := hrel
            cases gk with
            | zero => exact absurd HA.out (by simp [trishawref03_Proves.l0])
            | succ k1 =>
              have H := HA.out
              clear HA
              simp only [trishawref03_Proves.l0] at H
              by_cases c13 : x11_1 < (l2.length : Int)
              · rw [if_pos c13] at H
                have c13b0 : decide (x11_1 < (l2.length : Int)) = true := decide_eq_true c13
                clear c13
                have HC14 := Aside0.mk H
                clear H
                go_upto_region 8 with (fail)
                go_cut [65] (fun v65 wc => ∃ (kq : Nat) (x65_13 : Bool), v65 = .bool x65_13 ∧ Aside0 (trishawref03_Proves.j1 kq a0 l1 l2 x10_1 x11_1 x65_13 = some (r1, r2, r3)) ∧ Aside0 (kq ≤ k1) ∧ Aside0 (Kd.R Kd.bool 4 wc w.heap.size (fun _ => True) v166 x10_1) ∧ Aside0 (Below w.heap.size w wc))
                case first =>
                  have H := HC14.out
                  clear HC14
                  by_cases c15 : 0 ≤ x11_1
                  · rw [if_pos c15] at H
                    have c15b0 : decide (0 ≤ x11_1) = true := decide_eq_true c15
                    clear c15
                    (first | rw [c15b0] | (simp only [i64_w, i32_w]; rw [c15b0]) | skip)
                    replace H := Option.bind_eq_some_iff.mp H
                    obtain ⟨t169, A160, H⟩ := H
                    replace H : (if t169 = true then (if 0 ≤ ((rd_T41 l2 x11_1).f0) then (if ((rd_T41 l2 x11_1).f0) < (x10_1.length : Int) then (if rdOf false x10_1 ((rd_T41 l2 x11_1).f0) = true then (trishawref03_Proves.j1 k1 a0 l1 l2 x10_1 x11_1 true) else (if ((rd_T41 l2 x11_1).f1) < 1 then (trishawref03_Proves.j1 k1 a0 l1 l2 x10_1 x11_1 true) else (trishawref03_Proves.j1 k1 a0 l1 l2 x10_1 x11_1 (decide (((rd_T41 l2 x11_1).f1) > 1000))))) else (none)) else (none)) else (trishawref03_Proves.j1 k1 a0 l1 l2 x10_1 x11_1 true)) = some (r1, r2, r3) := H
                    have A16 := Aside0.mk A160
                    clear A160
                    by_cases c17 : t169 = true
                    · subst c17
                      have H1 : (if 0 ≤ ((rd_T41 l2 x11_1).f0) then (if ((rd_T41 l2 x11_1).f0) < (x10_1.length : Int) then (if rdOf false x10_1 ((rd_T41 l2 x11_1).f0) = true then (trishawref03_Proves.j1 k1 a0 l1 l2 x10_1 x11_1 true) else (if ((rd_T41 l2 x11_1).f1) < 1 then (trishawref03_Proves.j1 k1 a0 l1 l2 x10_1 x11_1 true) else (trishawref03_Proves.j1 k1 a0 l1 l2 x10_1 x11_1 (decide (((rd_T41 l2 x11_1).f1) > 1000))))) else (none)) else (none)) = some (r1, r2, r3) := by rw [if_pos rfl] at H; exact H
                      clear H
                      have H := H1
                      clear H1
                      by_cases c18 : 0 ≤ ((rd_T41 l2 x11_1).f0)
                      · rw [if_pos c18] at H
                        have c18b0 : decide (0 ≤ ((rd_T41 l2 x11_1).f0)) = true := decide_eq_true c18
                        clear c18
                        by_cases c19 : ((rd_T41 l2 x11_1).f0) < (x10_1.length : Int)
                        · rw [if_pos c19] at H
                          have c19b0 : decide (((rd_T41 l2 x11_1).f0) < (x10_1.length : Int)) = true := decide_eq_true c19
                          clear c19
                          obtain ⟨bq20, hbq20⟩ : ∃ b_ : Bool, b_ = (rdOf false x10_1 ((rd_T41 l2 x11_1).f0)) := ⟨_, rfl⟩
                          replace H : (if bq20 = true then (trishawref03_Proves.j1 k1 a0 l1 l2 x10_1 x11_1 true) else (if ((rd_T41 l2 x11_1).f1) < 1 then (trishawref03_Proves.j1 k1 a0 l1 l2 x10_1 x11_1 true) else (trishawref03_Proves.j1 k1 a0 l1 l2 x10_1 x11_1 (decide (((rd_T41 l2 x11_1).f1) > 1000))))) = some (r1, r2, r3) := by rw [← hbq20] at H; exact H
                          have Nbq20 := Aside0.mk hbq20
                          clear hbq20
                          by_cases c21 : bq20 = true
                          · subst c21
                            have H1 : (trishawref03_Proves.j1 k1 a0 l1 l2 x10_1 x11_1 true) = some (r1, r2, r3) := by rw [if_pos rfl] at H; exact H
                            clear H
                            have H := H1
                            clear H1
                            have H' := Aside0.mk H
                            clear H
                            have p168 : 0 ≤ (x11_1 : Int) := of_decide_eq_true (by first | (with_reducible assumption) | assumption)
                            have q168 : x11_1 < (l2.length : Int) := of_decide_eq_true (by first | (with_reducible assumption) | assumption)
                            obtain ⟨ad168, e168, hx168_0, hx168_1⟩ := at_T41 HR2.out x11_1 p168 q168
                            cases e168
                            replace hx168_0 := (HB.out.cell (World.block_lt_of_cell? w _ hx168_0)).trans hx168_0
                            replace hx168_1 := (HB.out.cell (World.block_lt_of_cell? w _ hx168_1)).trans hx168_1
                            replace p168 := eq_true p168
                            replace q168 := eq_true q168
                            go_wp2_with (first | ((with_reducible refine gate_callee (f := 42) rfl ?_); refine goesL_ (some 38) rfl rfl Try.func42 (by kernel_rfl) rfl #[.int .i64 a0, .int .i64 ((rd_T41 l2 x11_1).f0)] rfl (by (try simp only [List.map_toArray, List.map_cons, List.map_nil]); first | done | rfl | (simp only [List.length_drop, List.length_take]; rfl)) ?_; (with_reducible refine (trishawref03_IsSet.calls a0 ((rd_T41 l2 x11_1).f0) true _ A16.out).mono ?_); rintro e w' ⟨rfl, ⟨nd, rfl⟩⟩; refine ⟨_, rfl, ?_⟩; have p170 : 0 ≤ (x11_1 : Int) := of_decide_eq_true (by first | (with_reducible assumption) | assumption); have q170 : x11_1 < (l2.length : Int) := of_decide_eq_true (by first | (with_reducible assumption) | assumption); obtain ⟨ad170, e170, hx170_0, hx170_1⟩ := at_T41 HR2.out x11_1 p170 q170; obtain rfl : ad168 = ad170 := (by injection e170); replace hx170_0 := (HB.out.cell (World.block_lt_of_cell? w _ hx170_0)).trans hx170_0; replace hx170_1 := (HB.out.cell (World.block_lt_of_cell? w _ hx170_1)).trans hx170_1; replace p170 := eq_true p170; replace q170 := eq_true q170; obtain ⟨Ao22, co22, eo22⟩ := Kd.R_slice HO_10.out; subst eo22; have p171 : 0 ≤ (((rd_T41 l2 x11_1).f0) : Int) := of_decide_eq_true (by first | (with_reducible assumption) | assumption); have q171 : ((rd_T41 l2 x11_1).f0) < (x10_1.length : Int) := of_decide_eq_true (by first | (with_reducible assumption) | assumption); obtain ⟨ad171, e171, hx171_0⟩ := Kd.at_bool (Kd.R_reads' HO_10.out).2.2 ((rd_T41 l2 x11_1).f0) p171 q171; (try rw [← Nbq20.out] at hx171_0); cases e171; replace p171 := eq_true p171; replace q171 := eq_true q171))
                            go_meet
                            case rel => exact ⟨_, (true), (by first | rfl | (simp; done) | (simp [*]; done)), H', ⟨by have := HK1.out; first | omega | exact Nat.le_refl _⟩, ⟨by (with_reducible repeat (first | apply Kd.R_alloc | apply Kd.R_drewN | apply Kd.R_drew)); exact HO_10.out⟩, ⟨by repeat (first | (with_reducible first | exact HB.out | apply below_alloc | apply pw_below_drewN | apply below_drew1) | exact HB.out)⟩⟩
                          · replace c21 := Bool.eq_false_iff.mpr c21
                            subst c21
                            have H1 : (if ((rd_T41 l2 x11_1).f1) < 1 then (trishawref03_Proves.j1 k1 a0 l1 l2 x10_1 x11_1 true) else (trishawref03_Proves.j1 k1 a0 l1 l2 x10_1 x11_1 (decide (((rd_T41 l2 x11_1).f1) > 1000)))) = some (r1, r2, r3) := by rw [if_neg (show ¬ (false = true) by decide)] at H; exact H
                            clear H
                            have H := H1
                            clear H1
                            by_cases c23 : ((rd_T41 l2 x11_1).f1) < 1
                            · rw [if_pos c23] at H
                              have c23b0 : decide (((rd_T41 l2 x11_1).f1) < 1) = true := decide_eq_true c23
                              clear c23
                              have H' := Aside0.mk H
                              clear H
                              have p168 : 0 ≤ (x11_1 : Int) := of_decide_eq_true (by first | (with_reducible assumption) | assumption)
                              have q168 : x11_1 < (l2.length : Int) := of_decide_eq_true (by first | (with_reducible assumption) | assumption)
                              obtain ⟨ad168, e168, hx168_0, hx168_1⟩ := at_T41 HR2.out x11_1 p168 q168
                              cases e168
                              replace hx168_0 := (HB.out.cell (World.block_lt_of_cell? w _ hx168_0)).trans hx168_0
                              replace hx168_1 := (HB.out.cell (World.block_lt_of_cell? w _ hx168_1)).trans hx168_1
                              replace p168 := eq_true p168
                              replace q168 := eq_true q168
                              go_wp2_with (first | ((with_reducible refine gate_callee (f := 42) rfl ?_); refine goesL_ (some 38) rfl rfl Try.func42 (by kernel_rfl) rfl #[.int .i64 a0, .int .i64 ((rd_T41 l2 x11_1).f0)] rfl (by (try simp only [List.map_toArray, List.map_cons, List.map_nil]); first | done | rfl | (simp only [List.length_drop, List.length_take]; rfl)) ?_; (with_reducible refine (trishawref03_IsSet.calls a0 ((rd_T41 l2 x11_1).f0) true _ A16.out).mono ?_); rintro e w' ⟨rfl, ⟨nd, rfl⟩⟩; refine ⟨_, rfl, ?_⟩; have p170 : 0 ≤ (x11_1 : Int) := of_decide_eq_true (by first | (with_reducible assumption) | assumption); have q170 : x11_1 < (l2.length : Int) := of_decide_eq_true (by first | (with_reducible assumption) | assumption); obtain ⟨ad170, e170, hx170_0, hx170_1⟩ := at_T41 HR2.out x11_1 p170 q170; obtain rfl : ad168 = ad170 := (by injection e170); replace hx170_0 := (HB.out.cell (World.block_lt_of_cell? w _ hx170_0)).trans hx170_0; replace hx170_1 := (HB.out.cell (World.block_lt_of_cell? w _ hx170_1)).trans hx170_1; replace p170 := eq_true p170; replace q170 := eq_true q170; obtain ⟨Ao24, co24, eo24⟩ := Kd.R_slice HO_10.out; subst eo24; have p171 : 0 ≤ (((rd_T41 l2 x11_1).f0) : Int) := of_decide_eq_true (by first | (with_reducible assumption) | assumption); have q171 : ((rd_T41 l2 x11_1).f0) < (x10_1.length : Int) := of_decide_eq_true (by first | (with_reducible assumption) | assumption); obtain ⟨ad171, e171, hx171_0⟩ := Kd.at_bool (Kd.R_reads' HO_10.out).2.2 ((rd_T41 l2 x11_1).f0) p171 q171; (try rw [← Nbq20.out] at hx171_0); cases e171; replace p171 := eq_true p171; replace q171 := eq_true q171; have p172 : 0 ≤ (x11_1 : Int) := of_decide_eq_true (by first | (with_reducible assumption) | assumption); have q172 : x11_1 < (l2.length : Int) := of_decide_eq_true (by first | (with_reducible assumption) | assumption); obtain ⟨ad172, e172, hx172_0, hx172_1⟩ := at_T41 HR2.out x11_1 p172 q172; obtain rfl : ad168 = ad172 := (by injection e172); replace hx172_0 := (HB.out.cell (World.block_lt_of_cell? w _ hx172_0)).trans hx172_0; replace hx172_1 := (HB.out.cell (World.block_lt_of_cell? w _ hx172_1)).trans hx172_1; replace p172 := eq_true p172; replace q172 := eq_true q172))
                              go_meet
                              case rel => exact ⟨_, (true), (by first | rfl | (simp; done) | (simp [*]; done)), H', ⟨by have := HK1.out; first | omega | exact Nat.le_refl _⟩, ⟨by (with_reducible repeat (first | apply Kd.R_alloc | apply Kd.R_drewN | apply Kd.R_drew)); exact HO_10.out⟩, ⟨by repeat (first | (with_reducible first | exact HB.out | apply below_alloc | apply pw_below_drewN | apply below_drew1) | exact HB.out)⟩⟩
                            · rw [if_neg c23] at H
                              have c23b0 : decide (((rd_T41 l2 x11_1).f1) < 1) = false := decide_eq_false c23
                              clear c23
                              have H' := Aside0.mk H
                              clear H
                              have p168 : 0 ≤ (x11_1 : Int) := of_decide_eq_true (by first | (with_reducible assumption) | assumption)
                              have q168 : x11_1 < (l2.length : Int) := of_decide_eq_true (by first | (with_reducible assumption) | assumption)
                              obtain ⟨ad168, e168, hx168_0, hx168_1⟩ := at_T41 HR2.out x11_1 p168 q168
                              cases e168
                              replace hx168_0 := (HB.out.cell (World.block_lt_of_cell? w _ hx168_0)).trans hx168_0
                              replace hx168_1 := (HB.out.cell (World.block_lt_of_cell? w _ hx168_1)).trans hx168_1
                              replace p168 := eq_true p168
                              replace q168 := eq_true q168
                              go_wp2_with (first | ((with_reducible refine gate_callee (f := 42) rfl ?_); refine goesL_ (some 38) rfl rfl Try.func42 (by kernel_rfl) rfl #[.int .i64 a0, .int .i64 ((rd_T41 l2 x11_1).f0)] rfl (by (try simp only [List.map_toArray, List.map_cons, List.map_nil]); first | done | rfl | (simp only [List.length_drop, List.length_take]; rfl)) ?_; (with_reducible refine (trishawref03_IsSet.calls a0 ((rd_T41 l2 x11_1).f0) true _ A16.out).mono ?_); rintro e w' ⟨rfl, ⟨nd, rfl⟩⟩; refine ⟨_, rfl, ?_⟩; have p170 : 0 ≤ (x11_1 : Int) := of_decide_eq_true (by first | (with_reducible assumption) | assumption); have q170 : x11_1 < (l2.length : Int) := of_decide_eq_true (by first | (with_reducible assumption) | assumption); obtain ⟨ad170, e170, hx170_0, hx170_1⟩ := at_T41 HR2.out x11_1 p170 q170; obtain rfl : ad168 = ad170 := (by injection e170); replace hx170_0 := (HB.out.cell (World.block_lt_of_cell? w _ hx170_0)).trans hx170_0; replace hx170_1 := (HB.out.cell (World.block_lt_of_cell? w _ hx170_1)).trans hx170_1; replace p170 := eq_true p170; replace q170 := eq_true q170; obtain ⟨Ao25, co25, eo25⟩ := Kd.R_slice HO_10.out; subst eo25; have p171 : 0 ≤ (((rd_T41 l2 x11_1).f0) : Int) := of_decide_eq_true (by first | (with_reducible assumption) | assumption); have q171 : ((rd_T41 l2 x11_1).f0) < (x10_1.length : Int) := of_decide_eq_true (by first | (with_reducible assumption) | assumption); obtain ⟨ad171, e171, hx171_0⟩ := Kd.at_bool (Kd.R_reads' HO_10.out).2.2 ((rd_T41 l2 x11_1).f0) p171 q171; (try rw [← Nbq20.out] at hx171_0); cases e171; replace p171 := eq_true p171; replace q171 := eq_true q171; have p172 : 0 ≤ (x11_1 : Int) := of_decide_eq_true (by first | (with_reducible assumption) | assumption); have q172 : x11_1 < (l2.length : Int) := of_decide_eq_true (by first | (with_reducible assumption) | assumption); obtain ⟨ad172, e172, hx172_0, hx172_1⟩ := at_T41 HR2.out x11_1 p172 q172; obtain rfl : ad168 = ad172 := (by injection e172); replace hx172_0 := (HB.out.cell (World.block_lt_of_cell? w _ hx172_0)).trans hx172_0; replace hx172_1 := (HB.out.cell (World.block_lt_of_cell? w _ hx172_1)).trans hx172_1; replace p172 := eq_true p172; replace q172 := eq_true q172; have p173 : 0 ≤ (x11_1 : Int) := of_decide_eq_true (by first | (with_reducible assumption) | assumption); have q173 : x11_1 < (l2.length : Int) := of_decide_eq_true (by first | (with_reducible assumption) | assumption); obtain ⟨ad173, e173, hx173_0, hx173_1⟩ := at_T41 HR2.out x11_1 p173 q173; obtain rfl : ad168 = ad173 := (by injection e173); replace hx173_0 := (HB.out.cell (World.block_lt_of_cell? w _ hx173_0)).trans hx173_0; replace hx173_1 := (HB.out.cell (World.block_lt_of_cell? w _ hx173_1)).trans hx173_1; replace p173 := eq_true p173; replace q173 := eq_true q173))
                              go_meet
                              case rel => exact ⟨_, (decide (((rd_T41 l2 x11_1).f1) > 1000)), (by first | rfl | (simp; done) | (simp [*]; done)), H', ⟨by have := HK1.out; first | omega | exact Nat.le_refl _⟩, ⟨by (with_reducible repeat (first | apply Kd.R_alloc | apply Kd.R_drewN | apply Kd.R_drew)); exact HO_10.out⟩, ⟨by repeat (first | (with_reducible first | exact HB.out | apply below_alloc | apply pw_below_drewN | apply below_drew1) | exact HB.out)⟩⟩
                        · rw [if_neg c19] at H
                          exact absurd H (by simp)
                      · rw [if_neg c18] at H
                        exact absurd H (by simp)
                    · replace c17 := Bool.eq_false_iff.mpr c17
                      subst c17
                      have H1 : (trishawref03_Proves.j1 k1 a0 l1 l2 x10_1 x11_1 true) = some (r1, r2, r3) := by rw [if_neg (show ¬ (false = true) by decide)] at H; exact H
                      clear H
                      have H := H1
                      clear H1
                      have H' := Aside0.mk H
                      clear H
                      have p168 : 0 ≤ (x11_1 : Int) := of_decide_eq_true (by first | (with_reducible assumption) | assumption)
                      have q168 : x11_1 < (l2.length : Int) := of_decide_eq_true (by first | (with_reducible assumption) | assumption)
                      obtain ⟨ad168, e168, hx168_0, hx168_1⟩ := at_T41 HR2.out x11_1 p168 q168
                      cases e168
                      replace hx168_0 := (HB.out.cell (World.block_lt_of_cell? w _ hx168_0)).trans hx168_0
                      replace hx168_1 := (HB.out.cell (World.block_lt_of_cell? w _ hx168_1)).trans hx168_1
                      replace p168 := eq_true p168
                      replace q168 := eq_true q168
                      go_wp2_with (first | ((with_reducible refine gate_callee (f := 42) rfl ?_); refine goesL_ (some 38) rfl rfl Try.func42 (by kernel_rfl) rfl #[.int .i64 a0, .int .i64 ((rd_T41 l2 x11_1).f0)] rfl (by (try simp only [List.map_toArray, List.map_cons, List.map_nil]); first | done | rfl | (simp only [List.length_drop, List.length_take]; rfl)) ?_; (with_reducible refine (trishawref03_IsSet.calls a0 ((rd_T41 l2 x11_1).f0) false _ A16.out).mono ?_); rintro e w' ⟨rfl, ⟨nd, rfl⟩⟩; refine ⟨_, rfl, ?_⟩))
                      go_meet
                      case rel => exact ⟨_, (true), (by first | rfl | (simp; done) | (simp [*]; done)), H', ⟨by have := HK1.out; first | omega | exact Nat.le_refl _⟩, ⟨by (with_reducible repeat (first | apply Kd.R_alloc | apply Kd.R_drewN | apply Kd.R_drew)); exact HO_10.out⟩, ⟨by repeat (first | (with_reducible first | exact HB.out | apply below_alloc | apply pw_below_drewN | apply below_drew1) | exact HB.out)⟩⟩
                  · rw [if_neg c15] at H
                    exact absurd H (by simp)
                case rest =>
                  clear HC14
                  try clear c1
                  try clear p1
                  try clear q1
                  try clear hx1
                  try clear c2
                  try clear p2
                  try clear q2
                  try clear c4
                  try clear c5
                  try clear c5b0
                  try clear c5b1
                  try clear c6
                  try clear c6b0
                  try clear c6b1
                  try clear p6
                  try clear c8
                  try clear c8b0
                  try clear c8b1
                  try clear c9
                  try clear c9b0
                  try clear c9b1
                  try clear c13
                  try clear c13b0
                  try clear c15
                  try clear c15b0
                  try clear c16
                  try clear p16
                  try clear q16
                  try clear hx16
                  try clear c17
                  try clear p17
                  try clear q17
                  try clear hx17
                  try clear c18
                  try clear c18b0
                  try clear c19
                  try clear c19b0
                  try clear q20
                  try clear c21
                  try clear c23
                  try clear c23b0
                  try clear hx168_0
                  try clear hx168_1
                  try clear hx170_0
                  try clear hx170_1
                  try clear hx171_0
                  try clear hx172_0
                  try clear hx172_1
                  try clear hx173_0
                  try clear hx173_1
                  try clear p168
                  try clear p170
                  try clear p171
                  try clear p172
                  try clear p173
                  try clear p2
                  try clear p6
                  try clear q168
                  try clear q170
                  try clear q171
                  try clear q172
                  try clear q173
                  obtain ⟨kq, x65_13, rfl, HA, HJ13, HO_10, HB⟩ := hcut
                  cases kq with
                  | zero => exact absurd HA.out (by simp [trishawref03_Proves.j1])
                  | succ kj13 =>
                    have H := HA.out
                    clear HA
                    simp only [trishawref03_Proves.j1] at H
                    by_cases c26 : x65_13 = true
                    · subst c26
                      have H1 : (some (0, false, 0)) = some (r1, r2, r3) := by rw [if_pos rfl] at H; exact H
                      clear H
                      have H := H1
                      clear H1
                      simp only [Option.some.injEq, Prod.mk.injEq] at H
                      obtain ⟨rfl, rfl, rfl⟩ := H
                      go_wp2
                      go_ret3
                      exact ⟨by first | rfl | (simp [errW_none, errW_some] <;> rfl) | (simp only [← hji7]; first | rfl | (simp [errW_none, errW_some] <;> rfl)) | (simp [*, errW_none, errW_some] <;> rfl), by repeat (first | (with_reducible first | exact HB.out | apply below_alloc | apply pw_below_drewN | apply below_drew1) | exact HB.out)⟩
                    · replace c26 := Bool.eq_false_iff.mpr c26
                      subst c26
                      have H1 : (if 0 ≤ x11_1 then (if x11_1 < (l2.length : Int) then (if 0 ≤ ((rd_T41 l2 x11_1).f0) then (if ((rd_T41 l2 x11_1).f0) < (x10_1.length : Int) then (trishawref03_Proves.l0 kj13 a0 l1 l2 (x10_1.set (((rd_T41 l2 x11_1).f0) : Int).toNat true) (wrap64 (x11_1 + 1))) else (none)) else (none)) else (none)) else (none)) = some (r1, r2, r3) := by rw [if_neg (show ¬ (false = true) by decide)] at H; exact H
                      clear H
                      have H := H1
                      clear H1
                      by_cases c27 : 0 ≤ x11_1
                      · rw [if_pos c27] at H
                        have c27b0 : decide (0 ≤ x11_1) = true := decide_eq_true c27
                        clear c27
                        by_cases c28 : x11_1 < (l2.length : Int)
                        · rw [if_pos c28] at H
                          have c28b0 : decide (x11_1 < (l2.length : Int)) = true := decide_eq_true c28
                          clear c28
                          by_cases c29 : 0 ≤ ((rd_T41 l2 x11_1).f0)
                          · rw [if_pos c29] at H
                            have c29b0 : decide (0 ≤ ((rd_T41 l2 x11_1).f0)) = true := decide_eq_true c29
                            clear c29
                            by_cases c30 : ((rd_T41 l2 x11_1).f0) < (x10_1.length : Int)
                            · rw [if_pos c30] at H
                              have c30b0 : decide (((rd_T41 l2 x11_1).f0) < (x10_1.length : Int)) = true := decide_eq_true c30
                              clear c30
                              obtain ⟨y175, hy175⟩ : ∃ y_ : List Bool, y_ = (x10_1.set (((rd_T41 l2 x11_1).f0) : Int).toNat true) := ⟨_, rfl⟩
                              replace H : (trishawref03_Proves.l0 kj13 a0 l1 l2 y175 (wrap64 (x11_1 + 1))) = some (r1, r2, r3) := by first | (rw [hy175]; with_reducible exact H) | (have H2_ := (Option.bind_some _ _).symm.trans H; rw [hy175]; with_reducible exact H2_) | (have H2_ := (Option.bind_some _ _).symm.trans H; with_reducible exact H2_) | with_reducible exact H | (rw [hy175]; exact H) | exact H
                              have Ny175 := Aside0.mk hy175
                              clear hy175
                              have H' := Aside0.mk H
                              clear H
                              have p174 : 0 ≤ (x11_1 : Int) := of_decide_eq_true (by first | (with_reducible assumption) | assumption)
                              have q174 : x11_1 < (l2.length : Int) := of_decide_eq_true (by first | (with_reducible assumption) | assumption)
                              obtain ⟨ad174, e174, hx174_0, hx174_1⟩ := at_T41 HR2.out x11_1 p174 q174
                              cases e174
                              replace hx174_0 := (HB.out.cell (World.block_lt_of_cell? w _ hx174_0)).trans hx174_0
                              replace hx174_1 := (HB.out.cell (World.block_lt_of_cell? w _ hx174_1)).trans hx174_1
                              replace p174 := eq_true p174
                              replace q174 := eq_true q174
                              have p31 : 0 ≤ (((rd_T41 l2 x11_1).f0) : Int) := of_decide_eq_true (by first | (with_reducible assumption) | assumption)
                              have q31 : (((rd_T41 l2 x11_1).f0) : Int) < ((x10_1.length : Int) : Int) := of_decide_eq_true (by first | (with_reducible assumption) | assumption)
                              obtain ⟨go31, co31, eo31, gb31, gl31, cl31, HG31⟩ := Kd.R_form HO_10.out (by omega)
                              (first | cases eo31 | (injection eo31 with ea_ en_ ec_; (first | subst ea_ | (injection ea_ with ea_; subst ea_)); subst ec_; clear en_))
                              have GB31 := Aside0.mk gb31
                              have GG31 := Aside0.mk HG31
                              clear gb31 gl31 HG31
                              obtain ⟨hx31_0, hf31_0⟩ := Kd.R_celln false HO_10.out (((rd_T41 l2 x11_1).f0) : Int) p31 q31
                              replace p31 := eq_true p31
                              replace q31 := eq_true q31
                              have HP32 := Kd.R_putg HO_10.out (((rd_T41 l2 x11_1).f0) : Int) true
                              go_wp2_with (first | ((with_reducible refine gate_store (t := 4) (p := 72) rfl ?_); refine store_event (t := 4) (p := 72) (v := ?vo_w33) (w1 := (wc.setCell ⟨go31, (((rd_T41 l2 x11_1).f0) : Int).toNat, none⟩ (.bool true))) ?hg ?ho ?hn ?hr ?_; (case ho => rfl); (case hg => rfl); (case hn => rfl); (case hr => first | (go_simp; done) | (go_simp; rfl)); intro w33 hw; have hg : wc.grownBy w33 (some go31) := (by rw [hw]; exact HP32.2); have hp_ : Kd.R Kd.bool 4 w33 w.heap.size (fun _ => True) (.slice (some ⟨go31, 0, none⟩) x10_1.length co31) y175 := (by rw [hw, Ny175.out]; exact HP32.1); clear HP32; have n0_ := Aside0.mk (hp_); have n1_ := Aside0.mk ((by rw [hw]; exact below_set (HB.out) GB31.out : Below w.heap.size w w33)); clear HO_10; clear HB; have HO_10 := n0_; have HB := n1_; clear n0_ n1_; clear hg hw hp_))
                              go_roundg kj13
                              case measure => have := HK1.out; have := HJ13.out; omega
                              case rel => exact ⟨(y175), (wrap64 (x11_1 + 1)), (by first | rfl | (simp; done) | (simp [*]; done)), H', ⟨by have := HK1.out; have := HJ13.out; omega⟩, ⟨by (with_reducible repeat (first | apply Kd.R_alloc | apply Kd.R_drewN | apply Kd.R_drew)); exact HO_10.out⟩, ⟨by repeat (first | (with_reducible first | exact HB.out | apply below_alloc | apply pw_below_drewN | apply below_drew1) | exact HB.out)⟩⟩
                            · rw [if_neg c30] at H
                              exact absurd H (by simp)
                          · rw [if_neg c29] at H
                            exact absurd H (by simp)
                        · rw [if_neg c28] at H
                          exact absurd H (by simp)
                      · rw [if_neg c27] at H
                        exact absurd H (by simp)
              · rw [if_neg c13] at H
                have c13b0 : decide (x11_1 < (l2.length : Int)) = false := decide_eq_false c13
                clear c13
                have H' := Aside0.mk H
                clear H
                go_wp2
                go_loopg [12] k1 (fun kq v12 w' => ∃ (x12_2 : Int), v12 = .int .i64 x12_2 ∧ Aside0 (trishawref03_Proves.l1 kq l1 l2 x12_2 = some (r1, r2, r3)) ∧ Aside0 (kq ≤ k1) ∧ Aside0 (Below w.heap.size w w'))
                case atStart => exact ⟨(0), (by first | rfl | (simp; done) | (simp [*]; done)), H', ⟨Nat.le_refl _⟩, ⟨by repeat (first | (with_reducible first | exact HB.out | apply below_alloc | apply pw_below_drewN | apply below_drew1) | exact HB.out)⟩⟩
                case round =>
                  clear H'
                  try clear c1
                  try clear p1
                  try clear q1
                  try clear hx1
                  try clear c2
                  try clear p2
                  try clear q2
                  try clear c3
                  try clear p3
                  try clear q3
                  try clear hx3
                  try clear hf3
                  try clear c4
                  try clear c5
                  try clear c5b0
                  try clear c5b1
                  try clear c6
                  try clear c6b0
                  try clear c6b1
                  try clear p6
                  try clear c8
                  try clear c8b0
                  try clear c8b1
                  try clear c9
                  try clear c9b0
                  try clear c9b1
                  try clear c13
                  try clear c13b0
                  try clear c15
                  try clear c15b0
                  try clear c16
                  try clear p16
                  try clear q16
                  try clear hx16
                  try clear c17
                  try clear p17
                  try clear q17
                  try clear hx17
                  try clear c18
                  try clear c18b0
                  try clear c19
                  try clear c19b0
                  try clear q20
                  try clear c21
                  try clear c23
                  try clear c23b0
                  try clear c26
                  try clear c27
                  try clear c27b0
                  try clear c28
                  try clear c28b0
                  try clear c29
                  try clear c29b0
                  try clear c30
                  try clear c30b0
                  try clear p31
                  try clear q31
                  try clear hx31
                  try clear hf31
                  try clear hx168_0
                  try clear hx168_1
                  try clear hx170_0
                  try clear hx170_1
                  try clear hx171_0
                  try clear hx172_0
                  try clear hx172_1
                  try clear hx173_0
                  try clear hx173_1
                  try clear hx174_0
                  try clear hx174_1
                  try clear hx31_0
                  try clear p1
                  try clear p16
                  try clear p168
                  try clear p17
                  try clear p170
                  try clear p171
                  try clear p172
                  try clear p173
                  try clear p174
                  try clear p2
                  try clear p31
                  try clear p6
                  try clear q1
                  try clear q16
                  try clear q168
                  try clear q17
                  try clear q170
                  try clear q171
                  try clear q172
                  try clear q173
                  try clear q174
                  try clear q2
                  try clear q20
                  try clear q31
                  obtain ⟨x12_2, rfl, HA, HK2, HB⟩ := hrel
                  cases gk with
                  | zero => exact absurd HA.out (by simp [trishawref03_Proves.l1])
                  | succ k2 =>
                    have H := HA.out
                    clear HA
                    simp only [trishawref03_Proves.l1] at H
                    by_cases c34 : x12_2 < (l1.length : Int)
                    · rw [if_pos c34] at H
                      have c34b0 : decide (x12_2 < (l1.length : Int)) = true := decide_eq_true c34
                      clear c34
                      by_cases c35 : 0 ≤ x12_2
                      · rw [if_pos c35] at H
                        have c35b0 : decide (0 ≤ x12_2) = true := decide_eq_true c35
                        clear c35
                        have H' := Aside0.mk H
                        clear H
                        have p176 : 0 ≤ (x12_2 : Int) := of_decide_eq_true (by first | (with_reducible assumption) | assumption)
                        have q176 : x12_2 < (l1.length : Int) := of_decide_eq_true (by first | (with_reducible assumption) | assumption)
                        obtain ⟨ad176, e176, hx176_0, hx176_1, hx176_2⟩ := at_T30 HR1.out x12_2 p176 q176
                        cases e176
                        replace hx176_0 := (HB.out.cell (World.block_lt_of_cell? w _ hx176_0)).trans hx176_0
                        replace hx176_1 := (HB.out.cell (World.block_lt_of_cell? w _ hx176_1)).trans hx176_1
                        replace hx176_2 := (HB.out.cell (World.block_lt_of_cell? w _ hx176_2)).trans hx176_2
                        replace p176 := eq_true p176
                        replace q176 := eq_true q176
                        go_wp2
                        go_loopg [13, 14] k2 (fun kq v13 v14 w' => ∃ (x13_3 : Int) (x14_3 : Int), v13 = .int .i64 x13_3 ∧ v14 = .int .i64 x14_3 ∧ Aside0 (trishawref03_Proves.l2 kq l1 l2 x12_2 x13_3 x14_3 = some (r1, r2, r3)) ∧ Aside0 (kq ≤ k2) ∧ Aside0 (Below w.heap.size w w'))
                        case atStart => exact ⟨((rd_T30 l1 x12_2).f2), (0), (by first | rfl | (simp; done) | (simp [*]; done)), (by first | rfl | (simp; done) | (simp [*]; done)), H', ⟨Nat.le_refl _⟩, ⟨by repeat (first | (with_reducible first | exact HB.out | apply below_alloc | apply pw_below_drewN | apply below_drew1) | exact HB.out)⟩⟩
                        case round =>
                          clear H'
                          try clear c1
                          try clear p1
                          try clear q1
                          try clear hx1
                          try clear c2
                          try clear p2
                          try clear q2
                          try clear c3
                          try clear p3
                          try clear q3
                          try clear hx3
                          try clear hf3
                          try clear c4
                          try clear c5
                          try clear c5b0
                          try clear c5b1
                          try clear c6
                          try clear c6b0
                          try clear c6b1
                          try clear p6
                          try clear c8
                          try clear c8b0
                          try clear c8b1
                          try clear c9
                          try clear c9b0
                          try clear c9b1
                          try clear c13
                          try clear c13b0
                          try clear c15
                          try clear c15b0
                          try clear c16
                          try clear p16
                          try clear q16
                          try clear hx16
                          try clear c17
                          try clear p17
                          try clear q17
                          try clear hx17
                          try clear c18
                          try clear c18b0
                          try clear c19
                          try clear c19b0
                          try clear q20
                          try clear c21
                          try clear c23
                          try clear c23b0
                          try clear c26
                          try clear c27
                          try clear c27b0
                          try clear c28
                          try clear c28b0
                          try clear c29
                          try clear c29b0
                          try clear c30
                          try clear c30b0
                          try clear p31
                          try clear q31
                          try clear hx31
                          try clear hf31
                          try clear c34
                          try clear c34b0
                          try clear c35
                          try clear c35b0
                          try clear hx168_0
                          try clear hx168_1
                          try clear hx170_0
                          try clear hx170_1
                          try clear hx171_0
                          try clear hx172_0
                          try clear hx172_1
                          try clear hx173_0
                          try clear hx173_1
                          try clear hx174_0
                          try clear hx174_1
                          try clear hx176_0
                          try clear hx176_1
                          try clear hx176_2
                          try clear hx31_0
                          try clear p1
                          try clear p16
                          try clear p168
                          try clear p17
                          try clear p170
                          try clear p171
                          try clear p172
                          try clear p173
                          try clear p174
                          try clear p176
                          try clear p2
                          try clear p3
                          try clear p31
                          try clear p6
                          try clear q1
                          try clear q16
                          try clear q168
                          try clear q17
                          try clear q170
                          try clear q171
                          try clear q172
                          try clear q173
                          try clear q174
                          try clear q176
                          try clear q2
                          try clear q20
                          try clear q3
                          try clear q31
                          obtain ⟨x13_3, x14_3, rfl, rfl, HA, HK3, HB⟩ := hrel
                          cases gk with
                          | zero => exact absurd HA.out (by simp [trishawref03_Proves.l2])
                          | succ k3 =>
                            have H := HA.out
                            clear HA
                            simp only [trishawref03_Proves.l2] at H
                            by_cases c36 : x14_3 < (l2.length : Int)
                            · rw [if_pos c36] at H
                              have c36b0 : decide (x14_3 < (l2.length : Int)) = true := decide_eq_true c36
                              clear c36
                              by_cases c37 : 0 ≤ x12_2
                              · rw [if_pos c37] at H
                                have c37b0 : decide (0 ≤ x12_2) = true := decide_eq_true c37
                                clear c37
                                by_cases c38 : x12_2 < (l1.length : Int)
                                · rw [if_pos c38] at H
                                  have c38b0 : decide (x12_2 < (l1.length : Int)) = true := decide_eq_true c38
                                  clear c38
                                  by_cases c39 : 0 ≤ x14_3
                                  · rw [if_pos c39] at H
                                    have c39b0 : decide (0 ≤ x14_3) = true := decide_eq_true c39
                                    clear c39
                                    replace H := Option.bind_eq_some_iff.mp H
                                    obtain ⟨t179, A400, H⟩ := H
                                    replace H : (if t179 = true then (if ((rd_T41 l2 x14_3).f1) > x13_3 then (some (0, false, 0)) else (trishawref03_Proves.l2 k3 l1 l2 x12_2 (wrap64 (x13_3 - ((rd_T41 l2 x14_3).f1))) (wrap64 (x14_3 + 1)))) else (trishawref03_Proves.l2 k3 l1 l2 x12_2 x13_3 (wrap64 (x14_3 + 1)))) = some (r1, r2, r3) := H
                                    have A40 := Aside0.mk A400
                                    clear A400
                                    by_cases c41 : t179 = true
                                    · subst c41
                                      have H1 : (if ((rd_T41 l2 x14_3).f1) > x13_3 then (some (0, false, 0)) else (trishawref03_Proves.l2 k3 l1 l2 x12_2 (wrap64 (x13_3 - ((rd_T41 l2 x14_3).f1))) (wrap64 (x14_3 + 1)))) = some (r1, r2, r3) := by rw [if_pos rfl] at H; exact H
                                      clear H
                                      have H := H1
                                      clear H1
                                      by_cases c42 : ((rd_T41 l2 x14_3).f1) > x13_3
                                      · rw [if_pos c42] at H
                                        have c42b0 : decide (x13_3 < ((rd_T41 l2 x14_3).f1)) = true := decide_eq_true c42
                                        clear c42
                                        simp only [Option.some.injEq, Prod.mk.injEq] at H
                                        obtain ⟨rfl, rfl, rfl⟩ := H
                                        try go_wp2
                                        have n0_ := Aside0.mk (below_drew1 HB.out)
                                        clear HB
                                        have HB := n0_
                                        clear n0_
                                        have p177 : 0 ≤ (x12_2 : Int) := of_decide_eq_true (by first | (with_reducible assumption) | assumption)
                                        have q177 : x12_2 < (l1.length : Int) := of_decide_eq_true (by first | (with_reducible assumption) | assumption)
                                        obtain ⟨ad177, e177, hx177_0, hx177_1, hx177_2⟩ := at_T30 HR1.out x12_2 p177 q177
                                        have hw177_2 := hx177_2
                                        have hw177_1 := hx177_1
                                        have hw177_0 := hx177_0
                                        obtain rfl : ad176 = ad177 := (by injection e177)
                                        replace hx177_0 := (HB.out.cell (World.block_lt_of_cell? w _ hx177_0)).trans hx177_0
                                        replace hx177_1 := (HB.out.cell (World.block_lt_of_cell? w _ hx177_1)).trans hx177_1
                                        replace hx177_2 := (HB.out.cell (World.block_lt_of_cell? w _ hx177_2)).trans hx177_2
                                        replace p177 := eq_true p177
                                        replace q177 := eq_true q177
                                        have p178 : 0 ≤ (x14_3 : Int) := of_decide_eq_true (by first | (with_reducible assumption) | assumption)
                                        have q178 : x14_3 < (l2.length : Int) := of_decide_eq_true (by first | (with_reducible assumption) | assumption)
                                        obtain ⟨ad178, e178, hx178_0, hx178_1⟩ := at_T41 HR2.out x14_3 p178 q178
                                        have hw178_1 := hx178_1
                                        have hw178_0 := hx178_0
                                        cases e178
                                        replace hx178_0 := (HB.out.cell (World.block_lt_of_cell? w _ hx178_0)).trans hx178_0
                                        replace hx178_1 := (HB.out.cell (World.block_lt_of_cell? w _ hx178_1)).trans hx178_1
                                        replace p178 := eq_true p178
                                        replace q178 := eq_true q178
                                        refine start_ (n := 10) (S := fun w' => w'.cell? (ad176.add ((x12_2).toNat * 3)) = some (.int .i64 ((rd_T30 l1 x12_2).f0)) ∧ w'.cell? ⟨(ad176.add ((x12_2).toNat * 3)).block, (ad176.add ((x12_2).toNat * 3)).off + 1, none⟩ = some (.int .i64 ((rd_T30 l1 x12_2).f1)) ∧ w'.cell? ⟨(ad176.add ((x12_2).toNat * 3)).block, (ad176.add ((x12_2).toNat * 3)).off + 2, none⟩ = some (.int .i64 ((rd_T30 l1 x12_2).f2)) ∧ w'.cell? (ad178.add ((x14_3).toNat * 2)) = some (.int .i64 ((rd_T41 l2 x14_3).f0)) ∧ w'.cell? ⟨(ad178.add ((x14_3).toNat * 2)).block, (ad178.add ((x14_3).toNat * 2)).off + 1, none⟩ = some (.int .i64 ((rd_T41 l2 x14_3).f1))) (ds := []) #[false, false, false, false, false, false, false, false, false, false] (by kernel_rfl) rfl rfl ⟨((HB.out.cell (World.block_lt_of_cell? w _ hw177_0)).trans hw177_0), ((HB.out.cell (World.block_lt_of_cell? w _ hw177_1)).trans hw177_1), ((HB.out.cell (World.block_lt_of_cell? w _ hw177_2)).trans hw177_2), ((HB.out.cell (World.block_lt_of_cell? w _ hw178_0)).trans hw178_0), ((HB.out.cell (World.block_lt_of_cell? w _ hw178_1)).trans hw178_1)⟩ (fun hHeld => ?_); refine with_tabW trishawref03_Proves.tab18 trishawref03_Proves.bits18 (fun HT_ HW_ => ?_)
                                        generalize wr.drew = w43 at HB hx177_0 hx177_1 hx177_2 hx178_0 hx178_1 hHeld ⊢
                                        refine pure_ (i := 0) (N := some 90) (v := ?_) (a' := ?_) #[true, false, false, false, false, false, false, false, false, false] rfl rfl (any_of HT_.out (by kernel_rfl)) (fun _ _ _ h => h) (Or.inl ⟨by rfl, ?_⟩) ?_ ?_
                                        rotate_left
                                        · intro w'
                                          go_simp
                                          with_reducible rfl
                                        rotate_left
                                        · simp only [Act.put, List.setIfInBounds_toArray, List.set_cons_zero, List.set_cons_succ, i64_w, i32_w]
                                          rfl
                                        refine pure_ (i := 1) (N := some 91) (v := ?_) (a' := ?_) #[true, true, false, false, false, false, false, false, false, false] rfl rfl (any_of HT_.out (by kernel_rfl)) (fun _ _ _ h => h) (Or.inl ⟨by rfl, ?_⟩) ?_ ?_
                                        rotate_left
                                        · intro w'
                                          go_simp
                                          with_reducible rfl
                                        rotate_left
                                        · simp only [Act.put, List.setIfInBounds_toArray, List.set_cons_zero, List.set_cons_succ, i64_w, i32_w]
                                          rfl
                                        refine pure_ (i := 2) (N := some 92) (v := ?_) (a' := ?_) #[true, true, true, false, false, false, false, false, false, false] rfl rfl (any_of HT_.out (by kernel_rfl)) (fun _ _ _ h => h) (Or.inl ⟨by rfl, ?_⟩) ?_ ?_
                                        rotate_left
                                        · intro w'
                                          go_simp
                                          with_reducible rfl
                                        rotate_left
                                        · simp only [Act.put, List.setIfInBounds_toArray, List.set_cons_zero, List.set_cons_succ, i64_w, i32_w]
                                          rfl
                                        refine pure_ (i := 4) (N := some 94) (v := ?_) (a' := ?_) #[true, true, true, false, true, false, false, false, false, false] rfl rfl (any_of HT_.out (by kernel_rfl)) (fun _ _ _ h => h) (Or.inl ⟨by rfl, ?_⟩) ?_ ?_
                                        rotate_left
                                        · intro w'
                                          go_simp
                                          with_reducible rfl
                                        rotate_left
                                        · simp only [Act.put, List.setIfInBounds_toArray, List.set_cons_zero, List.set_cons_succ, i64_w, i32_w]
                                          rfl
                                        refine pure_ (i := 5) (N := some 95) (v := ?_) (a' := ?_) #[true, true, true, false, true, true, false, false, false, false] rfl rfl (any_of HT_.out (by kernel_rfl)) (fun _ _ _ h => h) (Or.inl ⟨by rfl, ?_⟩) ?_ ?_
                                        rotate_left
                                        · intro w'
                                          go_simp
                                          with_reducible rfl
                                        rotate_left
                                        · simp only [Act.put, List.setIfInBounds_toArray, List.set_cons_zero, List.set_cons_succ, i64_w, i32_w]
                                          rfl
                                        refine pure_ (i := 6) (N := some 96) (v := ?_) (a' := ?_) #[true, true, true, false, true, true, true, false, false, false] rfl rfl (any_of HT_.out (by kernel_rfl)) (fun _ _ _ h => h) (Or.inl ⟨by rfl, ?_⟩) ?_ ?_
                                        rotate_left
                                        · intro w'
                                          go_simp
                                          with_reducible rfl
                                        rotate_left
                                        · simp only [Act.put, List.setIfInBounds_toArray, List.set_cons_zero, List.set_cons_succ, i64_w, i32_w]
                                          rfl
                                        refine pure_ (i := 7) (N := some 97) (v := ?_) (a' := ?_) #[true, true, true, false, true, true, true, true, false, false] rfl rfl (any_of HT_.out (by kernel_rfl)) (fun _ _ _ h => h) (Or.inl ⟨by rfl, ?_⟩) ?_ ?_
                                        rotate_left
                                        · intro w'
                                          go_simp
                                          with_reducible rfl
                                        rotate_left
                                        · simp only [Act.put, List.setIfInBounds_toArray, List.set_cons_zero, List.set_cons_succ, i64_w, i32_w]
                                          rfl
                                        refine take_ (i := 3) (N := some 93) (v := ?_) (a' := ?_) #[true, true, true, true, true, true, true, true, false, false] rfl rfl (take_ofW HT_.out HW_.out (by kernel_rfl)) (fun _ _ _ h => h) (Or.inl ⟨by rfl, ?_⟩) hHeld ?_ ?_
                                        rotate_left
                                        · rintro w' ⟨s0, s1, s2, s3, s4⟩
                                          go_simp
                                          with_reducible rfl
                                        rotate_left
                                        · simp only [Act.put, List.setIfInBounds_toArray, List.set_cons_zero, List.set_cons_succ, i64_w, i32_w]
                                          rfl
                                        refine take_ (i := 8) (N := some 98) (v := ?_) (a' := ?_) #[true, true, true, true, true, true, true, true, true, false] rfl rfl (take_ofW HT_.out HW_.out (by kernel_rfl)) (fun _ _ _ h => h) (Or.inl ⟨by rfl, ?_⟩) hHeld ?_ ?_
                                        rotate_left
                                        · rintro w' ⟨s0, s1, s2, s3, s4⟩
                                          go_simp
                                          with_reducible rfl
                                        rotate_left
                                        · simp only [Act.put, List.setIfInBounds_toArray, List.set_cons_zero, List.set_cons_succ, i64_w, i32_w]
                                          rfl
                                        refine one_ (i := 9) (N := some 99) #[true, true, true, true, true, true, true, true, true, true] rfl rfl (one_of HT_.out (by kernel_rfl)) (by decide) (fun K hK => ?_)
                                        refine goes_ Try.func50 (by kernel_rfl) rfl #[.agg #[.int .i64 ((rd_T30 l1 x12_2).f0), .int .i64 ((rd_T30 l1 x12_2).f1), .int .i64 ((rd_T30 l1 x12_2).f2)], .int .i64 ((rd_T41 l2 x14_3).f0)] (by rfl) rfl rfl (by (try simp only [List.map_toArray, List.map_cons, List.map_nil]); first | done | rfl | (simp only [List.length_drop, List.length_take]; rfl)) ?_
                                        with_reducible refine (trishawref03_Enters.calls ((rd_T30 l1 x12_2).f0) ((rd_T30 l1 x12_2).f1) ((rd_T30 l1 x12_2).f2) ((rd_T41 l2 x14_3).f0) true _ A40.out).mono ?_
                                        rintro e w44 ⟨rfl, hb⟩
                                        refine ⟨_, rfl, ?_⟩
                                        have n0_ := Aside0.mk (below_step (by repeat (first | (with_reducible first | exact HB.out | apply below_alloc | apply pw_below_drewN | apply below_drew1) | exact HB.out)) hb)
                                        clear HB
                                        have HB := n0_
                                        clear n0_
                                        (try clear hb)
                                        (try clear hb2)
                                        (try clear hk)
                                        (try clear hi)
                                        refine hK.out _ _ ⟨((HB.out.cell (World.block_lt_of_cell? w _ hw177_0)).trans hw177_0), ((HB.out.cell (World.block_lt_of_cell? w _ hw177_1)).trans hw177_1), ((HB.out.cell (World.block_lt_of_cell? w _ hw177_2)).trans hw177_2), ((HB.out.cell (World.block_lt_of_cell? w _ hw178_0)).trans hw178_0), ((HB.out.cell (World.block_lt_of_cell? w _ hw178_1)).trans hw178_1)⟩ (fun hHeld => ?_)
                                        clear hK K
                                        refine norm_ (a' := ?_) ?_ ?_
                                        rotate_left
                                        · show Act.put _ (some 99) _ = _
                                          simp only [Act.put, List.setIfInBounds_toArray, List.set_cons_zero, List.set_cons_succ, i64_w, i32_w]
                                          rfl
                                        refine done_ (done_of HT_.out (by kernel_rfl)) ?_
                                        have p180 : 0 ≤ (x14_3 : Int) := of_decide_eq_true (by first | (with_reducible assumption) | assumption)
                                        have q180 : x14_3 < (l2.length : Int) := of_decide_eq_true (by first | (with_reducible assumption) | assumption)
                                        obtain ⟨ad180, e180, hx180_0, hx180_1⟩ := at_T41 HR2.out x14_3 p180 q180
                                        obtain rfl : ad178 = ad180 := (by injection e180)
                                        replace hx180_0 := (HB.out.cell (World.block_lt_of_cell? w _ hx180_0)).trans hx180_0
                                        replace hx180_1 := (HB.out.cell (World.block_lt_of_cell? w _ hx180_1)).trans hx180_1
                                        replace p180 := eq_true p180
                                        replace q180 := eq_true q180
                                        try go_wp2
                                        go_ret3
                                        exact ⟨by first | rfl | (simp [errW_none, errW_some] <;> rfl) | (simp only [← hji7]; first | rfl | (simp [errW_none, errW_some] <;> rfl)) | (simp [*, errW_none, errW_some] <;> rfl), by repeat (first | (with_reducible first | exact HB.out | apply below_alloc | apply pw_below_drewN | apply below_drew1) | exact HB.out)⟩
                                      · rw [if_neg c42] at H
                                        have c42b0 : decide (x13_3 < ((rd_T41 l2 x14_3).f1)) = false := decide_eq_false c42
                                        clear c42
                                        have H' := Aside0.mk H
                                        clear H
                                        try go_wp2
                                        have n0_ := Aside0.mk (below_drew1 HB.out)
                                        clear HB
                                        have HB := n0_
                                        clear n0_
                                        have p177 : 0 ≤ (x12_2 : Int) := of_decide_eq_true (by first | (with_reducible assumption) | assumption)
                                        have q177 : x12_2 < (l1.length : Int) := of_decide_eq_true (by first | (with_reducible assumption) | assumption)
                                        obtain ⟨ad177, e177, hx177_0, hx177_1, hx177_2⟩ := at_T30 HR1.out x12_2 p177 q177
                                        have hw177_2 := hx177_2
                                        have hw177_1 := hx177_1
                                        have hw177_0 := hx177_0
                                        obtain rfl : ad176 = ad177 := (by injection e177)
                                        replace hx177_0 := (HB.out.cell (World.block_lt_of_cell? w _ hx177_0)).trans hx177_0
                                        replace hx177_1 := (HB.out.cell (World.block_lt_of_cell? w _ hx177_1)).trans hx177_1
                                        replace hx177_2 := (HB.out.cell (World.block_lt_of_cell? w _ hx177_2)).trans hx177_2
                                        replace p177 := eq_true p177
                                        replace q177 := eq_true q177
                                        have p178 : 0 ≤ (x14_3 : Int) := of_decide_eq_true (by first | (with_reducible assumption) | assumption)
                                        have q178 : x14_3 < (l2.length : Int) := of_decide_eq_true (by first | (with_reducible assumption) | assumption)
                                        obtain ⟨ad178, e178, hx178_0, hx178_1⟩ := at_T41 HR2.out x14_3 p178 q178
                                        have hw178_1 := hx178_1
                                        have hw178_0 := hx178_0
                                        cases e178
                                        replace hx178_0 := (HB.out.cell (World.block_lt_of_cell? w _ hx178_0)).trans hx178_0
                                        replace hx178_1 := (HB.out.cell (World.block_lt_of_cell? w _ hx178_1)).trans hx178_1
                                        replace p178 := eq_true p178
                                        replace q178 := eq_true q178
                                        refine start_ (n := 10) (S := fun w' => w'.cell? (ad176.add ((x12_2).toNat * 3)) = some (.int .i64 ((rd_T30 l1 x12_2).f0)) ∧ w'.cell? ⟨(ad176.add ((x12_2).toNat * 3)).block, (ad176.add ((x12_2).toNat * 3)).off + 1, none⟩ = some (.int .i64 ((rd_T30 l1 x12_2).f1)) ∧ w'.cell? ⟨(ad176.add ((x12_2).toNat * 3)).block, (ad176.add ((x12_2).toNat * 3)).off + 2, none⟩ = some (.int .i64 ((rd_T30 l1 x12_2).f2)) ∧ w'.cell? (ad178.add ((x14_3).toNat * 2)) = some (.int .i64 ((rd_T41 l2 x14_3).f0)) ∧ w'.cell? ⟨(ad178.add ((x14_3).toNat * 2)).block, (ad178.add ((x14_3).toNat * 2)).off + 1, none⟩ = some (.int .i64 ((rd_T41 l2 x14_3).f1))) (ds := []) #[false, false, false, false, false, false, false, false, false, false] (by kernel_rfl) rfl rfl ⟨((HB.out.cell (World.block_lt_of_cell? w _ hw177_0)).trans hw177_0), ((HB.out.cell (World.block_lt_of_cell? w _ hw177_1)).trans hw177_1), ((HB.out.cell (World.block_lt_of_cell? w _ hw177_2)).trans hw177_2), ((HB.out.cell (World.block_lt_of_cell? w _ hw178_0)).trans hw178_0), ((HB.out.cell (World.block_lt_of_cell? w _ hw178_1)).trans hw178_1)⟩ (fun hHeld => ?_); refine with_tabW trishawref03_Proves.tab18 trishawref03_Proves.bits18 (fun HT_ HW_ => ?_)
                                        generalize wr.drew = w45 at HB hx177_0 hx177_1 hx177_2 hx178_0 hx178_1 hHeld ⊢
                                        refine pure_ (i := 0) (N := some 90) (v := ?_) (a' := ?_) #[true, false, false, false, false, false, false, false, false, false] rfl rfl (any_of HT_.out (by kernel_rfl)) (fun _ _ _ h => h) (Or.inl ⟨by rfl, ?_⟩) ?_ ?_
                                        rotate_left
                                        · intro w'
                                          go_simp
                                          with_reducible rfl
                                        rotate_left
                                        · simp only [Act.put, List.setIfInBounds_toArray, List.set_cons_zero, List.set_cons_succ, i64_w, i32_w]
                                          rfl
                                        refine pure_ (i := 1) (N := some 91) (v := ?_) (a' := ?_) #[true, true, false, false, false, false, false, false, false, false] rfl rfl (any_of HT_.out (by kernel_rfl)) (fun _ _ _ h => h) (Or.inl ⟨by rfl, ?_⟩) ?_ ?_
                                        rotate_left
                                        · intro w'
                                          go_simp
                                          with_reducible rfl
                                        rotate_left
                                        · simp only [Act.put, List.setIfInBounds_toArray, List.set_cons_zero, List.set_cons_succ, i64_w, i32_w]
                                          rfl
                                        refine pure_ (i := 2) (N := some 92) (v := ?_) (a' := ?_) #[true, true, true, false, false, false, false, false, false, false] rfl rfl (any_of HT_.out (by kernel_rfl)) (fun _ _ _ h => h) (Or.inl ⟨by rfl, ?_⟩) ?_ ?_
                                        rotate_left
                                        · intro w'
                                          go_simp
                                          with_reducible rfl
                                        rotate_left
                                        · simp only [Act.put, List.setIfInBounds_toArray, List.set_cons_zero, List.set_cons_succ, i64_w, i32_w]
                                          rfl
                                        refine pure_ (i := 4) (N := some 94) (v := ?_) (a' := ?_) #[true, true, true, false, true, false, false, false, false, false] rfl rfl (any_of HT_.out (by kernel_rfl)) (fun _ _ _ h => h) (Or.inl ⟨by rfl, ?_⟩) ?_ ?_
                                        rotate_left
                                        · intro w'
                                          go_simp
                                          with_reducible rfl
                                        rotate_left
                                        · simp only [Act.put, List.setIfInBounds_toArray, List.set_cons_zero, List.set_cons_succ, i64_w, i32_w]
                                          rfl
                                        refine pure_ (i := 5) (N := some 95) (v := ?_) (a' := ?_) #[true, true, true, false, true, true, false, false, false, false] rfl rfl (any_of HT_.out (by kernel_rfl)) (fun _ _ _ h => h) (Or.inl ⟨by rfl, ?_⟩) ?_ ?_
                                        rotate_left
                                        · intro w'
                                          go_simp
                                          with_reducible rfl
                                        rotate_left
                                        · simp only [Act.put, List.setIfInBounds_toArray, List.set_cons_zero, List.set_cons_succ, i64_w, i32_w]
                                          rfl
                                        refine pure_ (i := 6) (N := some 96) (v := ?_) (a' := ?_) #[true, true, true, false, true, true, true, false, false, false] rfl rfl (any_of HT_.out (by kernel_rfl)) (fun _ _ _ h => h) (Or.inl ⟨by rfl, ?_⟩) ?_ ?_
                                        rotate_left
                                        · intro w'
                                          go_simp
                                          with_reducible rfl
                                        rotate_left
                                        · simp only [Act.put, List.setIfInBounds_toArray, List.set_cons_zero, List.set_cons_succ, i64_w, i32_w]
                                          rfl
                                        refine pure_ (i := 7) (N := some 97) (v := ?_) (a' := ?_) #[true, true, true, false, true, true, true, true, false, false] rfl rfl (any_of HT_.out (by kernel_rfl)) (fun _ _ _ h => h) (Or.inl ⟨by rfl, ?_⟩) ?_ ?_
                                        rotate_left
                                        · intro w'
                                          go_simp
                                          with_reducible rfl
                                        rotate_left
                                        · simp only [Act.put, List.setIfInBounds_toArray, List.set_cons_zero, List.set_cons_succ, i64_w, i32_w]
                                          rfl
                                        refine take_ (i := 3) (N := some 93) (v := ?_) (a' := ?_) #[true, true, true, true, true, true, true, true, false, false] rfl rfl (take_ofW HT_.out HW_.out (by kernel_rfl)) (fun _ _ _ h => h) (Or.inl ⟨by rfl, ?_⟩) hHeld ?_ ?_
                                        rotate_left
                                        · rintro w' ⟨s0, s1, s2, s3, s4⟩
                                          go_simp
                                          with_reducible rfl
                                        rotate_left
                                        · simp only [Act.put, List.setIfInBounds_toArray, List.set_cons_zero, List.set_cons_succ, i64_w, i32_w]
                                          rfl
                                        refine take_ (i := 8) (N := some 98) (v := ?_) (a' := ?_) #[true, true, true, true, true, true, true, true, true, false] rfl rfl (take_ofW HT_.out HW_.out (by kernel_rfl)) (fun _ _ _ h => h) (Or.inl ⟨by rfl, ?_⟩) hHeld ?_ ?_
                                        rotate_left
                                        · rintro w' ⟨s0, s1, s2, s3, s4⟩
                                          go_simp
                                          with_reducible rfl
                                        rotate_left
                                        · simp only [Act.put, List.setIfInBounds_toArray, List.set_cons_zero, List.set_cons_succ, i64_w, i32_w]
                                          rfl
                                        refine one_ (i := 9) (N := some 99) #[true, true, true, true, true, true, true, true, true, true] rfl rfl (one_of HT_.out (by kernel_rfl)) (by decide) (fun K hK => ?_)
                                        refine goes_ Try.func50 (by kernel_rfl) rfl #[.agg #[.int .i64 ((rd_T30 l1 x12_2).f0), .int .i64 ((rd_T30 l1 x12_2).f1), .int .i64 ((rd_T30 l1 x12_2).f2)], .int .i64 ((rd_T41 l2 x14_3).f0)] (by rfl) rfl rfl (by (try simp only [List.map_toArray, List.map_cons, List.map_nil]); first | done | rfl | (simp only [List.length_drop, List.length_take]; rfl)) ?_
                                        with_reducible refine (trishawref03_Enters.calls ((rd_T30 l1 x12_2).f0) ((rd_T30 l1 x12_2).f1) ((rd_T30 l1 x12_2).f2) ((rd_T41 l2 x14_3).f0) true _ A40.out).mono ?_
                                        rintro e w46 ⟨rfl, hb⟩
                                        refine ⟨_, rfl, ?_⟩
                                        have n0_ := Aside0.mk (below_step (by repeat (first | (with_reducible first | exact HB.out | apply below_alloc | apply pw_below_drewN | apply below_drew1) | exact HB.out)) hb)
                                        clear HB
                                        have HB := n0_
                                        clear n0_
                                        (try clear hb)
                                        (try clear hb2)
                                        (try clear hk)
                                        (try clear hi)
                                        refine hK.out _ _ ⟨((HB.out.cell (World.block_lt_of_cell? w _ hw177_0)).trans hw177_0), ((HB.out.cell (World.block_lt_of_cell? w _ hw177_1)).trans hw177_1), ((HB.out.cell (World.block_lt_of_cell? w _ hw177_2)).trans hw177_2), ((HB.out.cell (World.block_lt_of_cell? w _ hw178_0)).trans hw178_0), ((HB.out.cell (World.block_lt_of_cell? w _ hw178_1)).trans hw178_1)⟩ (fun hHeld => ?_)
                                        clear hK K
                                        refine norm_ (a' := ?_) ?_ ?_
                                        rotate_left
                                        · show Act.put _ (some 99) _ = _
                                          simp only [Act.put, List.setIfInBounds_toArray, List.set_cons_zero, List.set_cons_succ, i64_w, i32_w]
                                          rfl
                                        refine done_ (done_of HT_.out (by kernel_rfl)) ?_
                                        have p180 : 0 ≤ (x14_3 : Int) := of_decide_eq_true (by first | (with_reducible assumption) | assumption)
                                        have q180 : x14_3 < (l2.length : Int) := of_decide_eq_true (by first | (with_reducible assumption) | assumption)
                                        obtain ⟨ad180, e180, hx180_0, hx180_1⟩ := at_T41 HR2.out x14_3 p180 q180
                                        obtain rfl : ad178 = ad180 := (by injection e180)
                                        replace hx180_0 := (HB.out.cell (World.block_lt_of_cell? w _ hx180_0)).trans hx180_0
                                        replace hx180_1 := (HB.out.cell (World.block_lt_of_cell? w _ hx180_1)).trans hx180_1
                                        replace p180 := eq_true p180
                                        replace q180 := eq_true q180
                                        have p181 : 0 ≤ (x14_3 : Int) := of_decide_eq_true (by first | (with_reducible assumption) | assumption)
                                        have q181 : x14_3 < (l2.length : Int) := of_decide_eq_true (by first | (with_reducible assumption) | assumption)
                                        obtain ⟨ad181, e181, hx181_0, hx181_1⟩ := at_T41 HR2.out x14_3 p181 q181
                                        obtain rfl : ad178 = ad181 := (by injection e181)
                                        replace hx181_0 := (HB.out.cell (World.block_lt_of_cell? w _ hx181_0)).trans hx181_0
                                        replace hx181_1 := (HB.out.cell (World.block_lt_of_cell? w _ hx181_1)).trans hx181_1
                                        replace p181 := eq_true p181
                                        replace q181 := eq_true q181
                                        try go_wp2
                                        go_roundg k3
                                        case measure => have := HK1.out; have := HK2.out; have := HK3.out; omega
                                        case rel => exact ⟨(wrap64 (x13_3 - ((rd_T41 l2 x14_3).f1))), (wrap64 (x14_3 + 1)), (by first | rfl | (simp; done) | (simp [*]; done)), (by first | rfl | (simp; done) | (simp [*]; done)), H', ⟨by have := HK1.out; have := HK2.out; have := HK3.out; omega⟩, ⟨by repeat (first | (with_reducible first | exact HB.out | apply below_alloc | apply pw_below_drewN | apply below_drew1) | exact HB.out)⟩⟩
                                    · replace c41 := Bool.eq_false_iff.mpr c41
                                      subst c41
                                      have H1 : (trishawref03_Proves.l2 k3 l1 l2 x12_2 x13_3 (wrap64 (x14_3 + 1))) = some (r1, r2, r3) := by rw [if_neg (show ¬ (false = true) by decide)] at H; exact H
                                      clear H
                                      have H := H1
                                      clear H1
                                      have H' := Aside0.mk H
                                      clear H
                                      try go_wp2
                                      have n0_ := Aside0.mk (below_drew1 HB.out)
                                      clear HB
                                      have HB := n0_
                                      clear n0_
                                      have p177 : 0 ≤ (x12_2 : Int) := of_decide_eq_true (by first | (with_reducible assumption) | assumption)
                                      have q177 : x12_2 < (l1.length : Int) := of_decide_eq_true (by first | (with_reducible assumption) | assumption)
                                      obtain ⟨ad177, e177, hx177_0, hx177_1, hx177_2⟩ := at_T30 HR1.out x12_2 p177 q177
                                      have hw177_2 := hx177_2
                                      have hw177_1 := hx177_1
                                      have hw177_0 := hx177_0
                                      obtain rfl : ad176 = ad177 := (by injection e177)
                                      replace hx177_0 := (HB.out.cell (World.block_lt_of_cell? w _ hx177_0)).trans hx177_0
                                      replace hx177_1 := (HB.out.cell (World.block_lt_of_cell? w _ hx177_1)).trans hx177_1
                                      replace hx177_2 := (HB.out.cell (World.block_lt_of_cell? w _ hx177_2)).trans hx177_2
                                      replace p177 := eq_true p177
                                      replace q177 := eq_true q177
                                      have p178 : 0 ≤ (x14_3 : Int) := of_decide_eq_true (by first | (with_reducible assumption) | assumption)
                                      have q178 : x14_3 < (l2.length : Int) := of_decide_eq_true (by first | (with_reducible assumption) | assumption)
                                      obtain ⟨ad178, e178, hx178_0, hx178_1⟩ := at_T41 HR2.out x14_3 p178 q178
                                      have hw178_1 := hx178_1
                                      have hw178_0 := hx178_0
                                      cases e178
                                      replace hx178_0 := (HB.out.cell (World.block_lt_of_cell? w _ hx178_0)).trans hx178_0
                                      replace hx178_1 := (HB.out.cell (World.block_lt_of_cell? w _ hx178_1)).trans hx178_1
                                      replace p178 := eq_true p178
                                      replace q178 := eq_true q178
                                      refine start_ (n := 10) (S := fun w' => w'.cell? (ad176.add ((x12_2).toNat * 3)) = some (.int .i64 ((rd_T30 l1 x12_2).f0)) ∧ w'.cell? ⟨(ad176.add ((x12_2).toNat * 3)).block, (ad176.add ((x12_2).toNat * 3)).off + 1, none⟩ = some (.int .i64 ((rd_T30 l1 x12_2).f1)) ∧ w'.cell? ⟨(ad176.add ((x12_2).toNat * 3)).block, (ad176.add ((x12_2).toNat * 3)).off + 2, none⟩ = some (.int .i64 ((rd_T30 l1 x12_2).f2)) ∧ w'.cell? (ad178.add ((x14_3).toNat * 2)) = some (.int .i64 ((rd_T41 l2 x14_3).f0)) ∧ w'.cell? ⟨(ad178.add ((x14_3).toNat * 2)).block, (ad178.add ((x14_3).toNat * 2)).off + 1, none⟩ = some (.int .i64 ((rd_T41 l2 x14_3).f1))) (ds := []) #[false, false, false, false, false, false, false, false, false, false] (by kernel_rfl) rfl rfl ⟨((HB.out.cell (World.block_lt_of_cell? w _ hw177_0)).trans hw177_0), ((HB.out.cell (World.block_lt_of_cell? w _ hw177_1)).trans hw177_1), ((HB.out.cell (World.block_lt_of_cell? w _ hw177_2)).trans hw177_2), ((HB.out.cell (World.block_lt_of_cell? w _ hw178_0)).trans hw178_0), ((HB.out.cell (World.block_lt_of_cell? w _ hw178_1)).trans hw178_1)⟩ (fun hHeld => ?_); refine with_tabW trishawref03_Proves.tab18 trishawref03_Proves.bits18 (fun HT_ HW_ => ?_)
                                      generalize wr.drew = w47 at HB hx177_0 hx177_1 hx177_2 hx178_0 hx178_1 hHeld ⊢
                                      refine pure_ (i := 0) (N := some 90) (v := ?_) (a' := ?_) #[true, false, false, false, false, false, false, false, false, false] rfl rfl (any_of HT_.out (by kernel_rfl)) (fun _ _ _ h => h) (Or.inl ⟨by rfl, ?_⟩) ?_ ?_
                                      rotate_left
                                      · intro w'
                                        go_simp
                                        with_reducible rfl
                                      rotate_left
                                      · simp only [Act.put, List.setIfInBounds_toArray, List.set_cons_zero, List.set_cons_succ, i64_w, i32_w]
                                        rfl
                                      refine pure_ (i := 1) (N := some 91) (v := ?_) (a' := ?_) #[true, true, false, false, false, false, false, false, false, false] rfl rfl (any_of HT_.out (by kernel_rfl)) (fun _ _ _ h => h) (Or.inl ⟨by rfl, ?_⟩) ?_ ?_
                                      rotate_left
                                      · intro w'
                                        go_simp
                                        with_reducible rfl
                                      rotate_left
                                      · simp only [Act.put, List.setIfInBounds_toArray, List.set_cons_zero, List.set_cons_succ, i64_w, i32_w]
                                        rfl
                                      refine pure_ (i := 2) (N := some 92) (v := ?_) (a' := ?_) #[true, true, true, false, false, false, false, false, false, false] rfl rfl (any_of HT_.out (by kernel_rfl)) (fun _ _ _ h => h) (Or.inl ⟨by rfl, ?_⟩) ?_ ?_
                                      rotate_left
                                      · intro w'
                                        go_simp
                                        with_reducible rfl
                                      rotate_left
                                      · simp only [Act.put, List.setIfInBounds_toArray, List.set_cons_zero, List.set_cons_succ, i64_w, i32_w]
                                        rfl
                                      refine pure_ (i := 4) (N := some 94) (v := ?_) (a' := ?_) #[true, true, true, false, true, false, false, false, false, false] rfl rfl (any_of HT_.out (by kernel_rfl)) (fun _ _ _ h => h) (Or.inl ⟨by rfl, ?_⟩) ?_ ?_
                                      rotate_left
                                      · intro w'
                                        go_simp
                                        with_reducible rfl
                                      rotate_left
                                      · simp only [Act.put, List.setIfInBounds_toArray, List.set_cons_zero, List.set_cons_succ, i64_w, i32_w]
                                        rfl
                                      refine pure_ (i := 5) (N := some 95) (v := ?_) (a' := ?_) #[true, true, true, false, true, true, false, false, false, false] rfl rfl (any_of HT_.out (by kernel_rfl)) (fun _ _ _ h => h) (Or.inl ⟨by rfl, ?_⟩) ?_ ?_
                                      rotate_left
                                      · intro w'
                                        go_simp
                                        with_reducible rfl
                                      rotate_left
                                      · simp only [Act.put, List.setIfInBounds_toArray, List.set_cons_zero, List.set_cons_succ, i64_w, i32_w]
                                        rfl
                                      refine pure_ (i := 6) (N := some 96) (v := ?_) (a' := ?_) #[true, true, true, false, true, true, true, false, false, false] rfl rfl (any_of HT_.out (by kernel_rfl)) (fun _ _ _ h => h) (Or.inl ⟨by rfl, ?_⟩) ?_ ?_
                                      rotate_left
                                      · intro w'
                                        go_simp
                                        with_reducible rfl
                                      rotate_left
                                      · simp only [Act.put, List.setIfInBounds_toArray, List.set_cons_zero, List.set_cons_succ, i64_w, i32_w]
                                        rfl
                                      refine pure_ (i := 7) (N := some 97) (v := ?_) (a' := ?_) #[true, true, true, false, true, true, true, true, false, false] rfl rfl (any_of HT_.out (by kernel_rfl)) (fun _ _ _ h => h) (Or.inl ⟨by rfl, ?_⟩) ?_ ?_
                                      rotate_left
                                      · intro w'
                                        go_simp
                                        with_reducible rfl
                                      rotate_left
                                      · simp only [Act.put, List.setIfInBounds_toArray, List.set_cons_zero, List.set_cons_succ, i64_w, i32_w]
                                        rfl
                                      refine take_ (i := 3) (N := some 93) (v := ?_) (a' := ?_) #[true, true, true, true, true, true, true, true, false, false] rfl rfl (take_ofW HT_.out HW_.out (by kernel_rfl)) (fun _ _ _ h => h) (Or.inl ⟨by rfl, ?_⟩) hHeld ?_ ?_
                                      rotate_left
                                      · rintro w' ⟨s0, s1, s2, s3, s4⟩
                                        go_simp
                                        with_reducible rfl
                                      rotate_left
                                      · simp only [Act.put, List.setIfInBounds_toArray, List.set_cons_zero, List.set_cons_succ, i64_w, i32_w]
                                        rfl
                                      refine take_ (i := 8) (N := some 98) (v := ?_) (a' := ?_) #[true, true, true, true, true, true, true, true, true, false] rfl rfl (take_ofW HT_.out HW_.out (by kernel_rfl)) (fun _ _ _ h => h) (Or.inl ⟨by rfl, ?_⟩) hHeld ?_ ?_
                                      rotate_left
                                      · rintro w' ⟨s0, s1, s2, s3, s4⟩
                                        go_simp
                                        with_reducible rfl
                                      rotate_left
                                      · simp only [Act.put, List.setIfInBounds_toArray, List.set_cons_zero, List.set_cons_succ, i64_w, i32_w]
                                        rfl
                                      refine one_ (i := 9) (N := some 99) #[true, true, true, true, true, true, true, true, true, true] rfl rfl (one_of HT_.out (by kernel_rfl)) (by decide) (fun K hK => ?_)
                                      refine goes_ Try.func50 (by kernel_rfl) rfl #[.agg #[.int .i64 ((rd_T30 l1 x12_2).f0), .int .i64 ((rd_T30 l1 x12_2).f1), .int .i64 ((rd_T30 l1 x12_2).f2)], .int .i64 ((rd_T41 l2 x14_3).f0)] (by rfl) rfl rfl (by (try simp only [List.map_toArray, List.map_cons, List.map_nil]); first | done | rfl | (simp only [List.length_drop, List.length_take]; rfl)) ?_
                                      with_reducible refine (trishawref03_Enters.calls ((rd_T30 l1 x12_2).f0) ((rd_T30 l1 x12_2).f1) ((rd_T30 l1 x12_2).f2) ((rd_T41 l2 x14_3).f0) false _ A40.out).mono ?_
                                      rintro e w48 ⟨rfl, hb⟩
                                      refine ⟨_, rfl, ?_⟩
                                      have n0_ := Aside0.mk (below_step (by repeat (first | (with_reducible first | exact HB.out | apply below_alloc | apply pw_below_drewN | apply below_drew1) | exact HB.out)) hb)
                                      clear HB
                                      have HB := n0_
                                      clear n0_
                                      (try clear hb)
                                      (try clear hb2)
                                      (try clear hk)
                                      (try clear hi)
                                      refine hK.out _ _ ⟨((HB.out.cell (World.block_lt_of_cell? w _ hw177_0)).trans hw177_0), ((HB.out.cell (World.block_lt_of_cell? w _ hw177_1)).trans hw177_1), ((HB.out.cell (World.block_lt_of_cell? w _ hw177_2)).trans hw177_2), ((HB.out.cell (World.block_lt_of_cell? w _ hw178_0)).trans hw178_0), ((HB.out.cell (World.block_lt_of_cell? w _ hw178_1)).trans hw178_1)⟩ (fun hHeld => ?_)
                                      clear hK K
                                      refine norm_ (a' := ?_) ?_ ?_
                                      rotate_left
                                      · show Act.put _ (some 99) _ = _
                                        simp only [Act.put, List.setIfInBounds_toArray, List.set_cons_zero, List.set_cons_succ, i64_w, i32_w]
                                        rfl
                                      refine done_ (done_of HT_.out (by kernel_rfl)) ?_
                                      try go_wp2
                                      go_roundg k3
                                      case measure => have := HK1.out; have := HK2.out; have := HK3.out; omega
                                      case rel => exact ⟨(x13_3), (wrap64 (x14_3 + 1)), (by first | rfl | (simp; done) | (simp [*]; done)), (by first | rfl | (simp; done) | (simp [*]; done)), H', ⟨by have := HK1.out; have := HK2.out; have := HK3.out; omega⟩, ⟨by repeat (first | (with_reducible first | exact HB.out | apply below_alloc | apply pw_below_drewN | apply below_drew1) | exact HB.out)⟩⟩
                                  · rw [if_neg c39] at H
                                    exact absurd H (by simp)
                                · rw [if_neg c38] at H
                                  exact absurd H (by simp)
                              · rw [if_neg c37] at H
                                exact absurd H (by simp)
                            · rw [if_neg c36] at H
                              have c36b0 : decide (x14_3 < (l2.length : Int)) = false := decide_eq_false c36
                              clear c36
                              have H' := Aside0.mk H
                              clear H
                              go_wp2
                              go_roundg k3
                              case measure => have := HK1.out; have := HK2.out; have := HK3.out; omega
                              case rel => exact ⟨(wrap64 (x12_2 + 1)), (by first | rfl | (simp; done) | (simp [*]; done)), H', ⟨by have := HK1.out; have := HK2.out; have := HK3.out; omega⟩, ⟨by repeat (first | (with_reducible first | exact HB.out | apply below_alloc | apply pw_below_drewN | apply below_drew1) | exact HB.out)⟩⟩
                      · rw [if_neg c35] at H
                        exact absurd H (by simp)
                    · rw [if_neg c34] at H
                      have c34b0 : decide (x12_2 < (l1.length : Int)) = false := decide_eq_false c34
                      clear c34
                      have H' := Aside0.mk H
                      clear H
                      go_wp2
                      go_loopg [15, 16] k2 (fun kq v15 v16 w' => ∃ (x15_3 : Int) (x16_3 : Int), v15 = .int .i64 x15_3 ∧ v16 = .int .i64 x16_3 ∧ Aside0 (trishawref03_Proves.l3 kq l2 x15_3 x16_3 = some (r1, r2, r3)) ∧ Aside0 (kq ≤ k2) ∧ Aside0 (Below w.heap.size w w'))
                      case atStart => exact ⟨(0), (0), (by first | rfl | (simp; done) | (simp [*]; done)), (by first | rfl | (simp; done) | (simp [*]; done)), H', ⟨Nat.le_refl _⟩, ⟨by repeat (first | (with_reducible first | exact HB.out | apply below_alloc | apply pw_below_drewN | apply below_drew1) | exact HB.out)⟩⟩
                      case round =>
                        clear H'
                        try clear c1
                        try clear p1
                        try clear q1
                        try clear hx1
                        try clear c2
                        try clear p2
                        try clear q2
                        try clear c3
                        try clear p3
                        try clear q3
                        try clear hx3
                        try clear hf3
                        try clear c4
                        try clear c5
                        try clear c5b0
                        try clear c5b1
                        try clear c6
                        try clear c6b0
                        try clear c6b1
                        try clear p6
                        try clear c8
                        try clear c8b0
                        try clear c8b1
                        try clear c9
                        try clear c9b0
                        try clear c9b1
                        try clear c13
                        try clear c13b0
                        try clear c15
                        try clear c15b0
                        try clear c16
                        try clear p16
                        try clear q16
                        try clear hx16
                        try clear c17
                        try clear p17
                        try clear q17
                        try clear hx17
                        try clear c18
                        try clear c18b0
                        try clear p18
                        try clear q18
                        try clear hx18
                        try clear c19
                        try clear c19b0
                        try clear q20
                        try clear c21
                        try clear c23
                        try clear c23b0
                        try clear c26
                        try clear c27
                        try clear c27b0
                        try clear c28
                        try clear c28b0
                        try clear c29
                        try clear c29b0
                        try clear c30
                        try clear c30b0
                        try clear p31
                        try clear q31
                        try clear hx31
                        try clear hf31
                        try clear c34
                        try clear c34b0
                        try clear c35
                        try clear c35b0
                        try clear c36
                        try clear c36b0
                        try clear c37
                        try clear c37b0
                        try clear c38
                        try clear c38b0
                        try clear c39
                        try clear c39b0
                        try clear c41
                        try clear c42
                        try clear c42b0
                        try clear hx168_0
                        try clear hx168_1
                        try clear hx170_0
                        try clear hx170_1
                        try clear hx171_0
                        try clear hx172_0
                        try clear hx172_1
                        try clear hx173_0
                        try clear hx173_1
                        try clear hx174_0
                        try clear hx174_1
                        try clear hx176_0
                        try clear hx176_1
                        try clear hx176_2
                        try clear hx177_0
                        try clear hx177_1
                        try clear hx177_2
                        try clear hx178_0
                        try clear hx178_1
                        try clear hx180_0
                        try clear hx180_1
                        try clear hx181_0
                        try clear hx181_1
                        try clear hx31_0
                        try clear p1
                        try clear p16
                        try clear p168
                        try clear p17
                        try clear p170
                        try clear p171
                        try clear p172
                        try clear p173
                        try clear p174
                        try clear p176
                        try clear p177
                        try clear p178
                        try clear p180
                        try clear p181
                        try clear p2
                        try clear p3
                        try clear p31
                        try clear p6
                        try clear q1
                        try clear q16
                        try clear q168
                        try clear q17
                        try clear q170
                        try clear q171
                        try clear q172
                        try clear q173
                        try clear q174
                        try clear q176
                        try clear q177
                        try clear q178
                        try clear q180
                        try clear q181
                        try clear q2
                        try clear q20
                        try clear q3
                        try clear q31
                        obtain ⟨x15_3, x16_3, rfl, rfl, HA, HK3, HB⟩ := hrel
                        cases gk with
                        | zero => exact absurd HA.out (by simp [trishawref03_Proves.l3])
                        | succ k3 =>
                          have H := HA.out
                          clear HA
                          simp only [trishawref03_Proves.l3] at H
                          by_cases c49 : x16_3 < (l2.length : Int)
                          · rw [if_pos c49] at H
                            have c49b0 : decide (x16_3 < (l2.length : Int)) = true := decide_eq_true c49
                            clear c49
                            by_cases c50 : 0 ≤ x16_3
                            · rw [if_pos c50] at H
                              have c50b0 : decide (0 ≤ x16_3) = true := decide_eq_true c50
                              clear c50
                              have H' := Aside0.mk H
                              clear H
                              have p182 : 0 ≤ (x16_3 : Int) := of_decide_eq_true (by first | (with_reducible assumption) | assumption)
                              have q182 : x16_3 < (l2.length : Int) := of_decide_eq_true (by first | (with_reducible assumption) | assumption)
                              obtain ⟨ad182, e182, hx182_0, hx182_1⟩ := at_T41 HR2.out x16_3 p182 q182
                              cases e182
                              replace hx182_0 := (HB.out.cell (World.block_lt_of_cell? w _ hx182_0)).trans hx182_0
                              replace hx182_1 := (HB.out.cell (World.block_lt_of_cell? w _ hx182_1)).trans hx182_1
                              replace p182 := eq_true p182
                              replace q182 := eq_true q182
                              go_wp2
                              go_roundg k3
                              case measure => have := HK1.out; have := HK2.out; have := HK3.out; omega
                              case rel => exact ⟨(wrap64 (x15_3 + ((rd_T41 l2 x16_3).f1))), (wrap64 (x16_3 + 1)), (by first | rfl | (simp; done) | (simp [*]; done)), (by first | rfl | (simp; done) | (simp [*]; done)), H', ⟨by have := HK1.out; have := HK2.out; have := HK3.out; omega⟩, ⟨by repeat (first | (with_reducible first | exact HB.out | apply below_alloc | apply pw_below_drewN | apply below_drew1) | exact HB.out)⟩⟩
                            · rw [if_neg c50] at H
                              exact absurd H (by simp)
                          · rw [if_neg c49] at H
                            have c49b0 : decide (x16_3 < (l2.length : Int)) = false := decide_eq_false c49
                            clear c49
                            simp only [Option.some.injEq, Prod.mk.injEq] at H
                            obtain ⟨rfl, rfl, rfl⟩ := H
                            go_wp2
                            go_ret3
                            exact ⟨by first | rfl | (simp [errW_none, errW_some] <;> rfl) | (simp only [← hji7]; first | rfl | (simp [errW_none, errW_some] <;> rfl)) | (simp [*, errW_none, errW_some] <;> rfl), by repeat (first | (with_reducible first | exact HB.out | apply below_alloc | apply pw_below_drewN | apply below_drew1) | exact HB.out)⟩
        · rw [if_neg c9] at H
          exact absurd H (by simp)
      · rw [if_neg c8] at H
        exact absurd H (by simp)
    · rw [if_neg c6] at H
      exact absurd H (by simp)
  · rw [if_neg c5] at H
    have c5b0 : (t164 == 0) = false := beq_eq_false_iff_ne.mpr c5
    have c5b1 : (t164 != 0) = true := bne_iff_ne.mpr c5
    simp only [Option.some.injEq, Prod.mk.injEq] at H
    obtain ⟨rfl, rfl, rfl⟩ := H
    go_enter Try.func23, Try.ntmps23
    go_wp2_with (first | ((with_reducible refine gate_callee (f := 16) rfl ?_); refine goesL_ (some 19) rfl rfl Try.func16 (by kernel_rfl) rfl #[.int .i64 a0, .slice A1 l1.length c1] rfl (by (try simp only [List.map_toArray, List.map_cons, List.map_nil]); first | done | rfl | (simp only [List.length_drop, List.length_take]; rfl)) ?_; (with_reducible refine (trishawref03_Town.calls k a0 _ _ l1 t164 _ ?side1 ?side2 A4.out).mono ?_); (case side1 => repeat (first | exact HR1.out | (with_reducible refine Kd.C_alloc ?_ _) | (with_reducible refine Kd.C_drewN ?_ _) | (with_reducible refine Kd.C_drew ?_))); (case side2 => exact HC1.out); rintro e w51 ⟨rfl, hb⟩; refine ⟨_, rfl, ?_⟩; have n0_ := Aside0.mk (below_step (by repeat (first | (with_reducible first | exact HB.out | apply below_alloc | apply pw_below_drewN | apply below_drew1) | exact HB.out)) hb); clear HB; have HB := n0_; clear n0_; (try clear hb); (try clear hb2); (try clear hk); (try clear hi)))
    go_ret3
    exact ⟨by first | rfl | (simp [errW_none, errW_some] <;> rfl) | (simp [*, errW_none, errW_some] <;> rfl), by repeat (first | (with_reducible first | exact HB.out | apply below_alloc | apply pw_below_drewN | apply below_drew1) | exact HB.out)⟩
end Go.Proofs.Ytpmadffgdfholaa.B
namespace Go.Proofs.Ytpmadffgdfholaa.B
open Go.RowKit Go.Proofs.YtpmadffgdfholaaW.PrintWords Go.Proofs.YtpmadffgdfholaaW.PrintLast Go.Proofs.YtpmadffgdfholaaW.PrintMore
attribute [local go_sem] max2_int min2_int max_two min_two max_three min_three max_four min_four   -- for this text's walks alone
set_option linter.unusedVariables false
set_option linter.unusedSimpArgs false
def trishawlaw03_three.f  : Option ((List (S30))) := some (([(⟨0, 1, 5⟩ : S30), (⟨0, 2, 1⟩ : S30), (⟨2, 1, 2⟩ : S30)] : List (S30)))
set_option maxHeartbeats 8000000 in
set_option maxRecDepth 100000 in
theorem trishawlaw03_three.calls  (r : List (S30)) (w : World) (h : trishawlaw03_three.f  = some r) :
    Calls Try.prog 43 #[] w fun e w' => ∃ v0_ : Value, e = .returned (v0_) ∧ Kd.R k30 30 w' w.heap.size (fun _ => True) v0_ r ∧ Below w.heap.size w w' := by
  have hu30 := Try.underlying30
  have HB := Aside0.mk (Below.refl w.heap.size w)
  have H : (some (([(⟨0, 1, 5⟩ : S30), (⟨0, 2, 1⟩ : S30), (⟨2, 1, 2⟩ : S30)] : List (S30)))) = some r := h
  clear h
  obtain ⟨y206, hy206⟩ : ∃ y_ : List (S30), y_ = (([(⟨0, 1, 5⟩ : S30), (⟨0, 2, 1⟩ : S30), (⟨2, 1, 2⟩ : S30)] : List (S30))) := ⟨_, rfl⟩
  replace H : (some y206) = some r := by first | (rw [hy206]; with_reducible exact H) | (have H2_ := (Option.bind_some _ _).symm.trans H; rw [hy206]; with_reducible exact H2_) | (have H2_ := (Option.bind_some _ _).symm.trans H; with_reducible exact H2_) | with_reducible exact H | (rw [hy206]; exact H) | exact H
  have Ny206 := Aside0.mk hy206
  clear hy206
  obtain rfl := Option.some.inj H
  go_enter Try.func43, Try.ntmps43
  go_wp2_with (first | ((with_reducible refine gate_dst (N := 4) rfl ?_); refine Kd.R_lit k30 _ 30 ?hg (N := 4) ?hd (xs := ([(⟨0, 1, 5⟩ : S30), (⟨0, 2, 1⟩ : S30), (⟨2, 1, 2⟩ : S30)] : List (S30))) (inner := [.int .i64 0, .int .i64 1, .int .i64 5, .int .i64 0, .int .i64 2, .int .i64 1, .int .i64 2, .int .i64 1, .int .i64 2]) (ok := fun _ => True) (okp := fun _ => True) ?hr ?hp (fun _ hk => hk) trivial (Below.refl _ _) (Nat.le_refl _) (by simp) ?_; (case hd => rfl); (case hg => rfl); (case hr => first | (go_simp; done) | (go_simp; rfl)); (case hp => exact (Reps.c3 (show Kd.M k30 _ _ _ (⟨0, 1, 5⟩ : S30) [.int .i64 0, .int .i64 1, .int .i64 5] from (k30_mkM _ _ _ (⟨0, 1, 5⟩ : S30) )) (Reps.c3 (show Kd.M k30 _ _ _ (⟨0, 2, 1⟩ : S30) [.int .i64 0, .int .i64 2, .int .i64 1] from (k30_mkM _ _ _ (⟨0, 2, 1⟩ : S30) )) (Reps.c3 (show Kd.M k30 _ _ _ (⟨2, 1, 2⟩ : S30) [.int .i64 2, .int .i64 1, .int .i64 2] from (k30_mkM _ _ _ (⟨2, 1, 2⟩ : S30) )) (Reps.none _ _))))); intro v207 w1 ho2 hb hg_ hnew_; clear hg_ hnew_; (first | rw [← Ny206.out] at ho2 | (simp only [Int.reduceToNat] at ho2; rw [← Ny206.out] at ho2)); have n0_ := Aside0.mk (Kd.R_lower ho2 (below_size (by repeat (first | (with_reducible first | exact HB.out | apply below_alloc | apply pw_below_drewN | apply below_drew1) | exact HB.out)))); have n1_ := Aside0.mk (below_step (by repeat (first | (with_reducible first | exact HB.out | apply below_alloc | apply pw_below_drewN | apply below_drew1) | exact HB.out)) hb); clear HB; have HO208 := n0_; have HB := n1_; clear n0_ n1_; clear hb ho2))
  go_ret
  exact ⟨_, by first | rfl | (simp [errW_none, errW_some] <;> rfl) | (simp [*, errW_none, errW_some] <;> rfl), by (with_reducible repeat (first | apply Kd.R_alloc | apply Kd.R_drewN | apply Kd.R_drew)); exact HO208.out, by repeat (first | (with_reducible first | exact HB.out | apply below_alloc | apply pw_below_drewN | apply below_drew1) | exact HB.out)⟩
def branch_town_costs.l0 : Nat → List Int → List (S30) → Int → Int → Option (List Int)
  | 0, _, _, _, _ => none
  | k + 1, x3, x9, x10, x11 => if x11 < x10 then (if 0 ≤ x11 then (if x11 < (x9.length : Int) then (if x3.length < 17592186044416 then (branch_town_costs.l0 k (x3 ++ [(rd_T30 x9 x11).f2]) x9 x10 (wrap64 (x11 + 1))) else (none)) else (none)) else (none)) else (some x3)
def branch_town_costs.f (k : Nat) (a0_0 : Int) (l0_1 : List (S30)) : Option (List Int) := branch_town_costs.l0 k ([] : List Int) l0_1 (l0_1.length : Int) 0
theorem branch_town_costs.mono_l : ∀ k, (∀ y0 y1 y2 y3, LeO (branch_town_costs.l0 k y0 y1 y2 y3) (branch_town_costs.l0 (k + 1) y0 y1 y2 y3))
  | 0 => fun _ _ _ _ r h => by simp [branch_town_costs.l0] at h
  | k + 1 => by
    have ih0 := branch_town_costs.mono_l k
    · intro y0 y1 y2 y3
      unfold branch_town_costs.l0
      repeat' first
      | (with_reducible exact ih0 _ _ _ _)
      | (with_reducible exact LeO.refl _)
      | (with_reducible exact LeO.none _)
      | (with_reducible refine LeO.ite ?_ ?_)
      | (with_reducible refine LeO.bind ?_ (fun _ => ?_))
      | exact ih0 _ _ _ _
      | exact LeO.none _
      | refine LeO.ite ?_ ?_
      | refine LeO.bind ?_ (fun _ => ?_)
theorem branch_town_costs.mono : ∀ a0 a1 k, LeO (branch_town_costs.f k a0 a1) (branch_town_costs.f (k + 1) a0 a1) := by
  intro a0 a1 k
  have ih0 := branch_town_costs.mono_l k
  unfold branch_town_costs.f
  repeat' first
      | (with_reducible exact ih0 _ _ _ _)
      | (with_reducible exact LeO.refl _)
      | (with_reducible exact LeO.none _)
      | (with_reducible refine LeO.ite ?_ ?_)
      | (with_reducible refine LeO.bind ?_ (fun _ => ?_))
      | exact ih0 _ _ _ _
      | exact LeO.none _
      | refine LeO.ite ?_ ?_
      | refine LeO.bind ?_ (fun _ => ?_)
set_option maxHeartbeats 8000000 in
set_option maxRecDepth 100000 in
theorem branch_town_costs.calls (k : Nat) (g0 : Nat) (a0_0 : Int) (A0_1 : Option Addr) (c0_1 : Nat) (l0_1 : List (S30)) (a0_2 : Option Nat) (r : List Int) (w : World) (hP0 : w.heap[g0]? = some (.cells #[.int .i64 a0_0, .slice A0_1 l0_1.length c0_1, .map a0_2] 70 (0, 0))) (hr0_1 : Kd.C k30 w A0_1 l0_1.length l0_1) (hc0_1 : l0_1.length ≤ c0_1) (h : branch_town_costs.f k a0_0 l0_1 = some r) :
    Calls Try.prog 47 #[.pointer (some ⟨g0, 0, none⟩)] w fun e w' => ∃ v0_ : Value, e = .returned (v0_) ∧ Kd.R (Kd.int .i64) 3 w' w.heap.size (fun _ => True) v0_ r ∧ Below w.heap.size w w' := by
  have hu30 := Try.underlying30
  have HP0 := Aside0.mk hP0
  clear hP0
  have HR0_1 := Aside0.mk hr0_1
  have HC0_1 := Aside0.mk hc0_1
  clear hr0_1 hc0_1
  have HB := Aside0.mk (Below.refl w.heap.size w)
  have H : (branch_town_costs.l0 k ([] : List Int) l0_1 (l0_1.length : Int) 0) = some r := h
  clear h
  have H' := Aside0.mk H
  clear H
  have hx209_0 := blk_cell HP0.out 0
  replace hx209_0 := hx209_0.trans rfl
  have hx209_1 := blk_cell HP0.out 1
  replace hx209_1 := hx209_1.trans rfl
  have hx209_2 := blk_cell HP0.out 2
  replace hx209_2 := hx209_2.trans rfl
  go_enter Try.func47, Try.ntmps47
  go_wp2
  go_loopg [3, 11] k (fun kq v3 v11 w' => ∃ (x3_1 : List Int) (x11_1 : Int), v11 = .int .i64 x11_1 ∧ Aside0 (branch_town_costs.l0 kq x3_1 l0_1 (l0_1.length : Int) x11_1 = some r) ∧ Aside0 (kq ≤ k) ∧ Aside0 (Kd.R (Kd.int .i64) 3 w' w.heap.size (fun _ => True) v3 x3_1) ∧ Aside0 (Below w.heap.size w w'))
  case atStart => exact ⟨(([] : List Int)), (0), (by first | rfl | (simp; done) | (simp [*]; done)), H', ⟨Nat.le_refl _⟩, ⟨by first | exact Kd.R_nil _ _ _ _ _ | exact Kd.N_nil _ _ _ _ _ | exact Kd.V_nil _ _ _ _ _ | exact Kd.Q_nil _ _ _ _ _ | exact Kd.S_nil _ _ _ _ _⟩, ⟨by repeat (first | (with_reducible first | exact HB.out | apply below_alloc | apply pw_below_drewN | apply below_drew1) | exact HB.out)⟩⟩
  case round =>
    clear H'
    try clear hx209_0
    try clear hx209_1
    try clear hx209_2
    obtain ⟨x3_1, x11_1, rfl, HA, HK1, HO_3, HB⟩ := hrel
    cases gk with
    | zero => exact absurd HA.out (by simp [branch_town_costs.l0])
    | succ k1 =>
      have H := HA.out
      clear HA
      simp only [branch_town_costs.l0] at H
      by_cases c2 : x11_1 < (l0_1.length : Int)
      · rw [if_pos c2] at H
        have c2b0 : decide (x11_1 < (l0_1.length : Int)) = true := decide_eq_true c2
        clear c2
        by_cases c3 : 0 ≤ x11_1
        · rw [if_pos c3] at H
          have c3b0 : decide (0 ≤ x11_1) = true := decide_eq_true c3
          clear c3
          by_cases c4 : x11_1 < (l0_1.length : Int)
          · rw [if_pos c4] at H
            have c4b0 : decide (x11_1 < (l0_1.length : Int)) = true := decide_eq_true c4
            clear c4
            by_cases c5 : x3_1.length < 17592186044416
            · rw [if_pos c5] at H
              have LMc5 := Aside0.mk c5
              clear c5
              obtain ⟨y212, hy212⟩ : ∃ y_ : List Int, y_ = (x3_1 ++ [(rd_T30 l0_1 x11_1).f2]) := ⟨_, rfl⟩
              replace H : (branch_town_costs.l0 k1 y212 l0_1 (l0_1.length : Int) (wrap64 (x11_1 + 1))) = some r := by first | (rw [hy212]; with_reducible exact H) | (have H2_ := (Option.bind_some _ _).symm.trans H; rw [hy212]; with_reducible exact H2_) | (have H2_ := (Option.bind_some _ _).symm.trans H; with_reducible exact H2_) | with_reducible exact H | (rw [hy212]; exact H) | exact H
              have Ny212 := Aside0.mk hy212
              clear hy212
              have H' := Aside0.mk H
              clear H
              have p210 : 0 ≤ (x11_1 : Int) := of_decide_eq_true (by first | (with_reducible assumption) | assumption)
              have q210 : x11_1 < (l0_1.length : Int) := of_decide_eq_true (by first | (with_reducible assumption) | assumption)
              obtain ⟨ad210, e210, hx210_0, hx210_1, hx210_2⟩ := at_T30 HR0_1.out x11_1 p210 q210
              cases e210
              replace hx210_0 := (HB.out.cell (World.block_lt_of_cell? w _ hx210_0)).trans hx210_0
              replace hx210_1 := (HB.out.cell (World.block_lt_of_cell? w _ hx210_1)).trans hx210_1
              replace hx210_2 := (HB.out.cell (World.block_lt_of_cell? w _ hx210_2)).trans hx210_2
              replace p210 := eq_true p210
              replace q210 := eq_true q210
              go_wp2_with (first | ((with_reducible refine gate_dst (N := 5) rfl ?_); refine box_event ?hg (N := 5) ?hd (cs := #[.int .i64 0, .int .i64 0, .int .i64 0]) (t := 30) ?hr ?_; (case hd => rfl); (case hg => rfl); (case hr => first | (go_simp; done) | (go_simp; rfl)); intro gb211 hg w6 hbox hb; have n0_ := Aside0.mk (Kd.R_below (by (with_reducible repeat (first | apply Kd.R_alloc | apply Kd.R_drewN | apply Kd.R_drew)); exact HO_3.out) hb); have n1_ := Aside0.mk (below_step (by repeat (first | (with_reducible first | exact HB.out | apply below_alloc | apply pw_below_drewN | apply below_drew1) | exact HB.out)) hb); have n2_ := Aside0.mk (hbox); have n3_ := Aside0.mk ((by rw [hg]; exact (below_size (by repeat (first | (with_reducible first | exact HB.out | apply below_alloc | apply pw_below_drewN | apply below_drew1) | exact HB.out))) : w.heap.size ≤ gb211)); have n4_ := Aside0.mk ((by rw [hg]; exact (below_size (by repeat (first | (with_reducible first | exact HB.out | apply below_alloc | apply pw_below_drewN | apply below_drew1) | exact HB.out))) : w.heap.size ≤ gb211)); clear HO_3; clear HB; have HO_3 := n0_; have HB := n1_; have BK211 := n2_; have GW211 := n3_; have GE211 := n4_; clear n0_ n1_ n2_ n3_ n4_; clear hb hbox hg; have hcz7_0 : w6.cell? ⟨gb211, 0, none⟩ = some (.int .i64 0) := (blk_cell BK211.out 0).trans rfl; have hcz7_1 : w6.cell? ⟨gb211, 1, none⟩ = some (.int .i64 0) := (blk_cell BK211.out 1).trans rfl; have hcz7_2 : w6.cell? ⟨gb211, 2, none⟩ = some (.int .i64 0) := (blk_cell BK211.out 2).trans rfl; have hfz7_0 := blk_frozen BK211.out 0; have hfz7_1 := blk_frozen BK211.out 1; have hfz7_2 := blk_frozen BK211.out 2) | ((with_reducible refine gate_builtin (b := .append) (xs := #[.tmp 15, .tmp 18]) rfl ?_); at_builtin; refine Kd.R_append (Kd.int .i64) (w0 := w) w.heap.size rfl (.tmp 15) (.tmp 18) 28 3 (.int .i64 0) 8 rfl Try.underlying28 info3 rfl (by decide) (by omega) u3 x3_1 ((rd_T30 l0_1 x11_1).f2) [.int .i64 ((rd_T30 l0_1 x11_1).f2)] (fun _ => True) (fun _ => False) rfl (by first | (go_simp; done) | (go_simp; rfl)) ?aP (fun _ hk => hk.elim) ?aF ?aO ?aB ?aS ?aL ?_; (case aP => exact rfl); (case aB => exact (by repeat (first | (with_reducible first | exact HB.out | apply below_alloc | apply pw_below_drewN | apply below_drew1 | refine below_set ?_ GE211.out) | exact HB.out))); (case aF => exact (fun _ _ => trivial)); (case aO => exact (by (with_reducible repeat (first | apply Kd.R_alloc | apply Kd.R_drewN | apply Kd.R_drew)); exact Kd.R_mono (Kd.R_far (p := ⟨gb211, 2, none⟩) (Kd.R_far (p := ⟨gb211, 1, none⟩) (Kd.R_far (p := ⟨gb211, 0, none⟩) (Kd.R_types HO_3.out BK211.out (by decide)) (fun _ hk => hk.2) (.int .i64 ((rd_T30 l0_1 x11_1).f0))) (fun _ hk => hk.2) (.int .i64 ((rd_T30 l0_1 x11_1).f1))) (fun _ hk => hk.2) (.int .i64 ((rd_T30 l0_1 x11_1).f2))) (fun _ hk => trivial))); (case aS => exact (below_size (by repeat (first | (with_reducible first | exact HB.out | apply below_alloc | apply pw_below_drewN | apply below_drew1 | refine below_set ?_ GE211.out) | exact HB.out)))); (case aL => have := LMc5.out; omega); intro v213 w8 ho hb hg hat; rw [← Ny212.out] at ho; have n0_ := Aside0.mk (blk_grown (g := gb211) (o := .cells #[.int .i64 ((rd_T30 l0_1 x11_1).f0), .int .i64 ((rd_T30 l0_1 x11_1).f1), .int .i64 ((rd_T30 l0_1 x11_1).f2)] 30 (0, 0)) (by (with_reducible repeat (first | refine blk_drewN ?_ _ | refine blk_drew ?_ | refine blk_alloc ?_ _)); refine blk_put (cs := #[.int .i64 ((rd_T30 l0_1 x11_1).f0), .int .i64 ((rd_T30 l0_1 x11_1).f1), .int .i64 0]) ?_ 2 _ rfl; (with_reducible repeat (first | refine blk_drewN ?_ _ | refine blk_drew ?_ | refine blk_alloc ?_ _)); refine blk_put (cs := #[.int .i64 ((rd_T30 l0_1 x11_1).f0), .int .i64 0, .int .i64 0]) ?_ 1 _ rfl; (with_reducible repeat (first | refine blk_drewN ?_ _ | refine blk_drew ?_ | refine blk_alloc ?_ _)); refine blk_put (cs := #[.int .i64 0, .int .i64 0, .int .i64 0]) ?_ 0 _ rfl; (with_reducible repeat (first | refine blk_drewN ?_ _ | refine blk_drew ?_ | refine blk_alloc ?_ _)); exact BK211.out) hg (Kd.R_ne HO_3.out BK211.out (by decide))); have n1_ := Aside0.mk (hb); have n2_ := Aside0.mk (ho); clear BK211; clear HB; clear HO_3; have BK211 := n0_; have HB := n1_; have HO214 := n2_; clear n0_ n1_ n2_; clear ho hb hg hat))
              go_roundg k1
              case measure => have := HK1.out; omega
              case rel => exact ⟨(y212), (wrap64 (x11_1 + 1)), (by first | rfl | (simp; done) | (simp [*]; done)), H', ⟨by have := HK1.out; omega⟩, ⟨by (with_reducible repeat (first | apply Kd.R_alloc | apply Kd.R_drewN | apply Kd.R_drew)); exact HO214.out⟩, ⟨by repeat (first | (with_reducible first | exact HB.out | apply below_alloc | apply pw_below_drewN | apply below_drew1 | refine below_set ?_ GE211.out) | exact HB.out)⟩⟩
            · rw [if_neg c5] at H
              exact absurd H (by simp)
          · rw [if_neg c4] at H
            exact absurd H (by simp)
        · rw [if_neg c3] at H
          exact absurd H (by simp)
      · rw [if_neg c2] at H
        have c2b0 : decide (x11_1 < (l0_1.length : Int)) = false := decide_eq_false c2
        clear c2
        obtain rfl := Option.some.inj H
        go_wp2
        go_ret
        exact ⟨_, by first | rfl | (simp [errW_none, errW_some] <;> rfl) | (simp [*, errW_none, errW_some] <;> rfl), by (with_reducible repeat (first | apply Kd.R_alloc | apply Kd.R_drewN | apply Kd.R_drew)); exact HO_3.out, by repeat (first | (with_reducible first | exact HB.out | apply below_alloc | apply pw_below_drewN | apply below_drew1) | exact HB.out)⟩
def branch_town_entering.l0 : Nat → Int → List Int → List (S30) → Int → Int → Option (List Int)
  | 0, _, _, _, _, _ => none
  | k + 1, x1, x5, x11, x12, x13 => if x13 < x12 then (if 0 ≤ x13 then (if x13 < (x11.length : Int) then (if 0 ≤ ((rd_T30 x11 x13).f0) then (if (Go.bits .and .i64 (shr .i64 x1 ((rd_T30 x11 x13).f0)) 1) = 0 then (if 0 ≤ ((rd_T30 x11 x13).f1) then (if (Go.bits .and .i64 (shr .i64 x1 ((rd_T30 x11 x13).f1)) 1) = 1 then (if x5.length < 17592186044416 then (branch_town_entering.l0 k x1 (x5 ++ [x13]) x11 x12 (wrap64 (x13 + 1))) else (none)) else (branch_town_entering.l0 k x1 x5 x11 x12 (wrap64 (x13 + 1)))) else (none)) else (branch_town_entering.l0 k x1 x5 x11 x12 (wrap64 (x13 + 1)))) else (none)) else (none)) else (none)) else (some x5)
def branch_town_entering.f (k : Nat) (a0_0 : Int) (l0_1 : List (S30)) (a1 : Int) : Option (List Int) := branch_town_entering.l0 k a1 ([] : List Int) l0_1 (l0_1.length : Int) 0
theorem branch_town_entering.mono_l : ∀ k, (∀ y0 y1 y2 y3 y4, LeO (branch_town_entering.l0 k y0 y1 y2 y3 y4) (branch_town_entering.l0 (k + 1) y0 y1 y2 y3 y4))
  | 0 => fun _ _ _ _ _ r h => by simp [branch_town_entering.l0] at h
  | k + 1 => by
    have ih0 := branch_town_entering.mono_l k
    · intro y0 y1 y2 y3 y4
      unfold branch_town_entering.l0
      repeat' first
      | (with_reducible exact ih0 _ _ _ _ _)
      | (with_reducible exact LeO.refl _)
      | (with_reducible exact LeO.none _)
      | (with_reducible refine LeO.ite ?_ ?_)
      | (with_reducible refine LeO.bind ?_ (fun _ => ?_))
      | exact ih0 _ _ _ _ _
      | exact LeO.none _
      | refine LeO.ite ?_ ?_
      | refine LeO.bind ?_ (fun _ => ?_)
theorem branch_town_entering.mono : ∀ a0 a1 a2 k, LeO (branch_town_entering.f k a0 a1 a2) (branch_town_entering.f (k + 1) a0 a1 a2) := by
  intro a0 a1 a2 k
  have ih0 := branch_town_entering.mono_l k
  unfold branch_town_entering.f
  repeat' first
      | (with_reducible exact ih0 _ _ _ _ _)
      | (with_reducible exact LeO.refl _)
      | (with_reducible exact LeO.none _)
      | (with_reducible refine LeO.ite ?_ ?_)
      | (with_reducible refine LeO.bind ?_ (fun _ => ?_))
      | exact ih0 _ _ _ _ _
      | exact LeO.none _
      | refine LeO.ite ?_ ?_
      | refine LeO.bind ?_ (fun _ => ?_)
set_option maxHeartbeats 8000000 in
set_option maxRecDepth 100000 in
theorem branch_town_entering.calls (k : Nat) (g0 : Nat) (a0_0 : Int) (A0_1 : Option Addr) (c0_1 : Nat) (l0_1 : List (S30)) (a0_2 : Option Nat) (a1 : Int) (r : List Int) (w : World) (hP0 : w.heap[g0]? = some (.cells #[.int .i64 a0_0, .slice A0_1 l0_1.length c0_1, .map a0_2] 70 (0, 0))) (hr0_1 : Kd.C k30 w A0_1 l0_1.length l0_1) (hc0_1 : l0_1.length ≤ c0_1) (h : branch_town_entering.f k a0_0 l0_1 a1 = some r) :
    Calls Try.prog 59 #[.pointer (some ⟨g0, 0, none⟩), .int .i64 a1] w fun e w' => ∃ v0_ : Value, e = .returned (v0_) ∧ Kd.R (Kd.int .i64) 3 w' w.heap.size (fun _ => True) v0_ r ∧ Below w.heap.size w w' := by
  have hu30 := Try.underlying30
  have HP0 := Aside0.mk hP0
  clear hP0
  have HR0_1 := Aside0.mk hr0_1
  have HC0_1 := Aside0.mk hc0_1
  clear hr0_1 hc0_1
  have HB := Aside0.mk (Below.refl w.heap.size w)
  have H : (branch_town_entering.l0 k a1 ([] : List Int) l0_1 (l0_1.length : Int) 0) = some r := h
  clear h
  have H' := Aside0.mk H
  clear H
  have hx215_0 := blk_cell HP0.out 0
  replace hx215_0 := hx215_0.trans rfl
  have hx215_1 := blk_cell HP0.out 1
  replace hx215_1 := hx215_1.trans rfl
  have hx215_2 := blk_cell HP0.out 2
  replace hx215_2 := hx215_2.trans rfl
  go_enter Try.func59, Try.ntmps59
  go_wp2
  go_loopg [5, 13] k (fun kq v5 v13 w' => ∃ (x5_1 : List Int) (x13_1 : Int), v13 = .int .i64 x13_1 ∧ Aside0 (branch_town_entering.l0 kq a1 x5_1 l0_1 (l0_1.length : Int) x13_1 = some r) ∧ Aside0 (kq ≤ k) ∧ Aside0 (Kd.R (Kd.int .i64) 3 w' w.heap.size (fun _ => True) v5 x5_1) ∧ Aside0 (Below w.heap.size w w'))
  case atStart => exact ⟨(([] : List Int)), (0), (by first | rfl | (simp; done) | (simp [*]; done)), H', ⟨Nat.le_refl _⟩, ⟨by first | exact Kd.R_nil _ _ _ _ _ | exact Kd.N_nil _ _ _ _ _ | exact Kd.V_nil _ _ _ _ _ | exact Kd.Q_nil _ _ _ _ _ | exact Kd.S_nil _ _ _ _ _⟩, ⟨by repeat (first | (with_reducible first | exact HB.out | apply below_alloc | apply pw_below_drewN | apply below_drew1) | exact HB.out)⟩⟩
  case round =>
    clear H'
    try clear p2
    try clear hx2
    try clear hx215_0
    try clear hx215_1
    try clear hx215_2
    obtain ⟨x5_1, x13_1, rfl, HA, HK1, HO_5, HB⟩ := hrel
    cases gk with
    | zero => exact absurd HA.out (by simp [branch_town_entering.l0])
    | succ k1 =>
      have H := HA.out
      clear HA
      simp only [branch_town_entering.l0] at H
      by_cases c3 : x13_1 < (l0_1.length : Int)
      · rw [if_pos c3] at H
        have c3b0 : decide (x13_1 < (l0_1.length : Int)) = true := decide_eq_true c3
        clear c3
        by_cases c4 : 0 ≤ x13_1
        · rw [if_pos c4] at H
          have c4b0 : decide (0 ≤ x13_1) = true := decide_eq_true c4
          clear c4
          by_cases c5 : x13_1 < (l0_1.length : Int)
          · rw [if_pos c5] at H
            have c5b0 : decide (x13_1 < (l0_1.length : Int)) = true := decide_eq_true c5
            clear c5
            by_cases c6 : 0 ≤ ((rd_T30 l0_1 x13_1).f0)
            · rw [if_pos c6] at H
              have c6b0 := eq_true c6
              have c6b1 : decide (0 ≤ ((rd_T30 l0_1 x13_1).f0)) = true := decide_eq_true c6
              clear c6
              obtain ⟨ji7, hji7⟩ : ∃ j_ : Int, (shr .i64 a1 ((rd_T30 l0_1 x13_1).f0)) = j_ := ⟨_, rfl⟩
              replace H : (if (Go.bits .and .i64 (ji7) 1) = 0 then (if 0 ≤ ((rd_T30 l0_1 x13_1).f1) then (if (Go.bits .and .i64 (shr .i64 a1 ((rd_T30 l0_1 x13_1).f1)) 1) = 1 then (if x5_1.length < 17592186044416 then (branch_town_entering.l0 k1 a1 (x5_1 ++ [x13_1]) l0_1 (l0_1.length : Int) (wrap64 (x13_1 + 1))) else (none)) else (branch_town_entering.l0 k1 a1 x5_1 l0_1 (l0_1.length : Int) (wrap64 (x13_1 + 1)))) else (none)) else (branch_town_entering.l0 k1 a1 x5_1 l0_1 (l0_1.length : Int) (wrap64 (x13_1 + 1)))) = some r := by first | (rw [hji7] at H; exact H) | (simp only [hji7] at H ⊢; exact H)
              have hji7_ : (a1 / 2 ^ min ((rd_T30 l0_1 x13_1).f0).toNat 64) = ji7 := hji7
              have hji7z : ((rd_T30 l0_1 x13_1).f0) ≤ 64 → (a1 / 2 ^ ((rd_T30 l0_1 x13_1).f0).toNat) = ji7 := shr_small hji7
              by_cases c8 : (Go.bits .and .i64 (ji7) 1) = 0
              · rw [if_pos c8] at H
                have c8b0 : ((Go.bits .and .i64 (ji7) 1) == 0) = true := beq_iff_eq.mpr c8
                have c8b1 : ((Go.bits .and .i64 (ji7) 1) != 0) = false := bne_eq_false_iff_eq.mpr c8
                clear c8
                by_cases c9 : 0 ≤ ((rd_T30 l0_1 x13_1).f1)
                · rw [if_pos c9] at H
                  have c9b0 := eq_true c9
                  have c9b1 : decide (0 ≤ ((rd_T30 l0_1 x13_1).f1)) = true := decide_eq_true c9
                  clear c9
                  obtain ⟨ji10, hji10⟩ : ∃ j_ : Int, (shr .i64 a1 ((rd_T30 l0_1 x13_1).f1)) = j_ := ⟨_, rfl⟩
                  replace H : (if (Go.bits .and .i64 (ji10) 1) = 1 then (if x5_1.length < 17592186044416 then (branch_town_entering.l0 k1 a1 (x5_1 ++ [x13_1]) l0_1 (l0_1.length : Int) (wrap64 (x13_1 + 1))) else (none)) else (branch_town_entering.l0 k1 a1 x5_1 l0_1 (l0_1.length : Int) (wrap64 (x13_1 + 1)))) = some r := by first | (rw [hji10] at H; exact H) | (simp only [hji10] at H ⊢; exact H)
                  have hji10_ : (a1 / 2 ^ min ((rd_T30 l0_1 x13_1).f1).toNat 64) = ji10 := hji10
                  have hji10z : ((rd_T30 l0_1 x13_1).f1) ≤ 64 → (a1 / 2 ^ ((rd_T30 l0_1 x13_1).f1).toNat) = ji10 := shr_small hji10
                  by_cases c11 : (Go.bits .and .i64 (ji10) 1) = 1
                  · rw [if_pos c11] at H
                    have c11b0 : ((Go.bits .and .i64 (ji10) 1) == 1) = true := beq_iff_eq.mpr c11
                    have c11b1 : ((Go.bits .and .i64 (ji10) 1) != 1) = false := bne_eq_false_iff_eq.mpr c11
                    clear c11
                    by_cases c12 : x5_1.length < 17592186044416
                    · rw [if_pos c12] at H
                      have LMc12 := Aside0.mk c12
                      clear c12
                      obtain ⟨y218, hy218⟩ : ∃ y_ : List Int, y_ = (x5_1 ++ [x13_1]) := ⟨_, rfl⟩
                      replace H : (branch_town_entering.l0 k1 a1 y218 l0_1 (l0_1.length : Int) (wrap64 (x13_1 + 1))) = some r := by first | (rw [hy218]; with_reducible exact H) | (have H2_ := (Option.bind_some _ _).symm.trans H; rw [hy218]; with_reducible exact H2_) | (have H2_ := (Option.bind_some _ _).symm.trans H; with_reducible exact H2_) | with_reducible exact H | (rw [hy218]; exact H) | exact H
                      have Ny218 := Aside0.mk hy218
                      clear hy218
                      have H' := Aside0.mk H
                      clear H
                      have p216 : 0 ≤ (x13_1 : Int) := of_decide_eq_true (by first | (with_reducible assumption) | assumption)
                      have q216 : x13_1 < (l0_1.length : Int) := of_decide_eq_true (by first | (with_reducible assumption) | assumption)
                      obtain ⟨ad216, e216, hx216_0, hx216_1, hx216_2⟩ := at_T30 HR0_1.out x13_1 p216 q216
                      cases e216
                      replace hx216_0 := (HB.out.cell (World.block_lt_of_cell? w _ hx216_0)).trans hx216_0
                      replace hx216_1 := (HB.out.cell (World.block_lt_of_cell? w _ hx216_1)).trans hx216_1
                      replace hx216_2 := (HB.out.cell (World.block_lt_of_cell? w _ hx216_2)).trans hx216_2
                      replace p216 := eq_true p216
                      replace q216 := eq_true q216
                      go_wp2_with (first | ((with_reducible refine gate_dst (N := 7) rfl ?_); refine box_event ?hg (N := 7) ?hd (cs := #[.int .i64 0, .int .i64 0, .int .i64 0]) (t := 30) ?hr ?_; (case hd => rfl); (case hg => rfl); (case hr => first | (go_simp; done) | (go_simp; rfl)); intro gb217 hg w13 hbox hb; have n0_ := Aside0.mk (Kd.R_below (by (with_reducible repeat (first | apply Kd.R_alloc | apply Kd.R_drewN | apply Kd.R_drew)); exact HO_5.out) hb); have n1_ := Aside0.mk (below_step (by repeat (first | (with_reducible first | exact HB.out | apply below_alloc | apply pw_below_drewN | apply below_drew1) | exact HB.out)) hb); have n2_ := Aside0.mk (hbox); have n3_ := Aside0.mk ((by rw [hg]; exact (below_size (by repeat (first | (with_reducible first | exact HB.out | apply below_alloc | apply pw_below_drewN | apply below_drew1) | exact HB.out))) : w.heap.size ≤ gb217)); have n4_ := Aside0.mk ((by rw [hg]; exact (below_size (by repeat (first | (with_reducible first | exact HB.out | apply below_alloc | apply pw_below_drewN | apply below_drew1) | exact HB.out))) : w.heap.size ≤ gb217)); clear HO_5; clear HB; have HO_5 := n0_; have HB := n1_; have BK217 := n2_; have GW217 := n3_; have GE217 := n4_; clear n0_ n1_ n2_ n3_ n4_; clear hb hbox hg; have hcz14_0 : w13.cell? ⟨gb217, 0, none⟩ = some (.int .i64 0) := (blk_cell BK217.out 0).trans rfl; have hcz14_1 : w13.cell? ⟨gb217, 1, none⟩ = some (.int .i64 0) := (blk_cell BK217.out 1).trans rfl; have hcz14_2 : w13.cell? ⟨gb217, 2, none⟩ = some (.int .i64 0) := (blk_cell BK217.out 2).trans rfl; have hfz14_0 := blk_frozen BK217.out 0; have hfz14_1 := blk_frozen BK217.out 1; have hfz14_2 := blk_frozen BK217.out 2) | ((with_reducible refine gate_builtin (b := .append) (xs := #[.tmp 32, .tmp 34]) rfl ?_); at_builtin; refine Kd.R_append (Kd.int .i64) (w0 := w) w.heap.size rfl (.tmp 32) (.tmp 34) 28 3 (.int .i64 0) 8 rfl Try.underlying28 info3 rfl (by decide) (by omega) u5 x5_1 x13_1 [.int .i64 x13_1] (fun _ => True) (fun _ => False) rfl (by first | (go_simp; done) | (go_simp; rfl)) ?aP (fun _ hk => hk.elim) ?aF ?aO ?aB ?aS ?aL ?_; (case aP => exact rfl); (case aB => exact (by repeat (first | (with_reducible first | exact HB.out | apply below_alloc | apply pw_below_drewN | apply below_drew1 | refine below_set ?_ GE217.out) | exact HB.out))); (case aF => exact (fun _ _ => trivial)); (case aO => exact (by (with_reducible repeat (first | apply Kd.R_alloc | apply Kd.R_drewN | apply Kd.R_drew)); exact Kd.R_mono (Kd.R_far (p := ⟨gb217, 2, none⟩) (Kd.R_far (p := ⟨gb217, 1, none⟩) (Kd.R_far (p := ⟨gb217, 0, none⟩) (Kd.R_types HO_5.out BK217.out (by decide)) (fun _ hk => hk.2) (.int .i64 ((rd_T30 l0_1 x13_1).f0))) (fun _ hk => hk.2) (.int .i64 ((rd_T30 l0_1 x13_1).f1))) (fun _ hk => hk.2) (.int .i64 ((rd_T30 l0_1 x13_1).f2))) (fun _ hk => trivial))); (case aS => exact (below_size (by repeat (first | (with_reducible first | exact HB.out | apply below_alloc | apply pw_below_drewN | apply below_drew1 | refine below_set ?_ GE217.out) | exact HB.out)))); (case aL => have := LMc12.out; omega); intro v219 w15 ho hb hg hat; rw [← Ny218.out] at ho; have n0_ := Aside0.mk (blk_grown (g := gb217) (o := .cells #[.int .i64 ((rd_T30 l0_1 x13_1).f0), .int .i64 ((rd_T30 l0_1 x13_1).f1), .int .i64 ((rd_T30 l0_1 x13_1).f2)] 30 (0, 0)) (by (with_reducible repeat (first | refine blk_drewN ?_ _ | refine blk_drew ?_ | refine blk_alloc ?_ _)); refine blk_put (cs := #[.int .i64 ((rd_T30 l0_1 x13_1).f0), .int .i64 ((rd_T30 l0_1 x13_1).f1), .int .i64 0]) ?_ 2 _ rfl; (with_reducible repeat (first | refine blk_drewN ?_ _ | refine blk_drew ?_ | refine blk_alloc ?_ _)); refine blk_put (cs := #[.int .i64 ((rd_T30 l0_1 x13_1).f0), .int .i64 0, .int .i64 0]) ?_ 1 _ rfl; (with_reducible repeat (first | refine blk_drewN ?_ _ | refine blk_drew ?_ | refine blk_alloc ?_ _)); refine blk_put (cs := #[.int .i64 0, .int .i64 0, .int .i64 0]) ?_ 0 _ rfl; (with_reducible repeat (first | refine blk_drewN ?_ _ | refine blk_drew ?_ | refine blk_alloc ?_ _)); exact BK217.out) hg (Kd.R_ne HO_5.out BK217.out (by decide))); have n1_ := Aside0.mk (hb); have n2_ := Aside0.mk (ho); clear BK217; clear HB; clear HO_5; have BK217 := n0_; have HB := n1_; have HO220 := n2_; clear n0_ n1_ n2_; clear ho hb hg hat))
                      go_roundg k1
                      case measure => have := HK1.out; omega
                      case rel => exact ⟨(y218), (wrap64 (x13_1 + 1)), (by first | rfl | (simp; done) | (simp [*]; done)), H', ⟨by have := HK1.out; omega⟩, ⟨by (with_reducible repeat (first | apply Kd.R_alloc | apply Kd.R_drewN | apply Kd.R_drew)); exact HO220.out⟩, ⟨by repeat (first | (with_reducible first | exact HB.out | apply below_alloc | apply pw_below_drewN | apply below_drew1 | refine below_set ?_ GE217.out) | exact HB.out)⟩⟩
                    · rw [if_neg c12] at H
                      exact absurd H (by simp)
                  · rw [if_neg c11] at H
                    have c11b0 : ((Go.bits .and .i64 (ji10) 1) == 1) = false := beq_eq_false_iff_ne.mpr c11
                    have c11b1 : ((Go.bits .and .i64 (ji10) 1) != 1) = true := bne_iff_ne.mpr c11
                    have H' := Aside0.mk H
                    clear H
                    have p216 : 0 ≤ (x13_1 : Int) := of_decide_eq_true (by first | (with_reducible assumption) | assumption)
                    have q216 : x13_1 < (l0_1.length : Int) := of_decide_eq_true (by first | (with_reducible assumption) | assumption)
                    obtain ⟨ad216, e216, hx216_0, hx216_1, hx216_2⟩ := at_T30 HR0_1.out x13_1 p216 q216
                    cases e216
                    replace hx216_0 := (HB.out.cell (World.block_lt_of_cell? w _ hx216_0)).trans hx216_0
                    replace hx216_1 := (HB.out.cell (World.block_lt_of_cell? w _ hx216_1)).trans hx216_1
                    replace hx216_2 := (HB.out.cell (World.block_lt_of_cell? w _ hx216_2)).trans hx216_2
                    replace p216 := eq_true p216
                    replace q216 := eq_true q216
                    go_wp2_with (first | ((with_reducible refine gate_dst (N := 7) rfl ?_); refine box_event ?hg (N := 7) ?hd (cs := #[.int .i64 0, .int .i64 0, .int .i64 0]) (t := 30) ?hr ?_; (case hd => rfl); (case hg => rfl); (case hr => first | (go_simp; done) | (go_simp; rfl)); intro gb217 hg w16 hbox hb; have n0_ := Aside0.mk (Kd.R_below (by (with_reducible repeat (first | apply Kd.R_alloc | apply Kd.R_drewN | apply Kd.R_drew)); exact HO_5.out) hb); have n1_ := Aside0.mk (below_step (by repeat (first | (with_reducible first | exact HB.out | apply below_alloc | apply pw_below_drewN | apply below_drew1) | exact HB.out)) hb); have n2_ := Aside0.mk (hbox); have n3_ := Aside0.mk ((by rw [hg]; exact (below_size (by repeat (first | (with_reducible first | exact HB.out | apply below_alloc | apply pw_below_drewN | apply below_drew1) | exact HB.out))) : w.heap.size ≤ gb217)); have n4_ := Aside0.mk ((by rw [hg]; exact (below_size (by repeat (first | (with_reducible first | exact HB.out | apply below_alloc | apply pw_below_drewN | apply below_drew1) | exact HB.out))) : w.heap.size ≤ gb217)); clear HO_5; clear HB; have HO_5 := n0_; have HB := n1_; have BK217 := n2_; have GW217 := n3_; have GE217 := n4_; clear n0_ n1_ n2_ n3_ n4_; clear hb hbox hg; have hcz17_0 : w16.cell? ⟨gb217, 0, none⟩ = some (.int .i64 0) := (blk_cell BK217.out 0).trans rfl; have hcz17_1 : w16.cell? ⟨gb217, 1, none⟩ = some (.int .i64 0) := (blk_cell BK217.out 1).trans rfl; have hcz17_2 : w16.cell? ⟨gb217, 2, none⟩ = some (.int .i64 0) := (blk_cell BK217.out 2).trans rfl; have hfz17_0 := blk_frozen BK217.out 0; have hfz17_1 := blk_frozen BK217.out 1; have hfz17_2 := blk_frozen BK217.out 2))
                    go_roundg k1
                    case measure => have := HK1.out; omega
                    case rel => exact ⟨(x5_1), (wrap64 (x13_1 + 1)), (by first | rfl | (simp; done) | (simp [*]; done)), H', ⟨by have := HK1.out; omega⟩, ⟨by (with_reducible repeat (first | apply Kd.R_alloc | apply Kd.R_drewN | apply Kd.R_drew)); exact Kd.R_mono (Kd.R_far (p := ⟨gb217, 2, none⟩) (Kd.R_far (p := ⟨gb217, 1, none⟩) (Kd.R_far (p := ⟨gb217, 0, none⟩) (Kd.R_types HO_5.out BK217.out (by decide)) (fun _ hk => hk.2) (.int .i64 ((rd_T30 l0_1 x13_1).f0))) (fun _ hk => hk.2) (.int .i64 ((rd_T30 l0_1 x13_1).f1))) (fun _ hk => hk.2) (.int .i64 ((rd_T30 l0_1 x13_1).f2))) (fun _ hk => trivial)⟩, ⟨by repeat (first | (with_reducible first | exact HB.out | apply below_alloc | apply pw_below_drewN | apply below_drew1 | refine below_set ?_ GE217.out) | exact HB.out)⟩⟩
                · rw [if_neg c9] at H
                  exact absurd H (by simp)
              · rw [if_neg c8] at H
                have c8b0 : ((Go.bits .and .i64 (ji7) 1) == 0) = false := beq_eq_false_iff_ne.mpr c8
                have c8b1 : ((Go.bits .and .i64 (ji7) 1) != 0) = true := bne_iff_ne.mpr c8
                have H' := Aside0.mk H
                clear H
                have p216 : 0 ≤ (x13_1 : Int) := of_decide_eq_true (by first | (with_reducible assumption) | assumption)
                have q216 : x13_1 < (l0_1.length : Int) := of_decide_eq_true (by first | (with_reducible assumption) | assumption)
                obtain ⟨ad216, e216, hx216_0, hx216_1, hx216_2⟩ := at_T30 HR0_1.out x13_1 p216 q216
                cases e216
                replace hx216_0 := (HB.out.cell (World.block_lt_of_cell? w _ hx216_0)).trans hx216_0
                replace hx216_1 := (HB.out.cell (World.block_lt_of_cell? w _ hx216_1)).trans hx216_1
                replace hx216_2 := (HB.out.cell (World.block_lt_of_cell? w _ hx216_2)).trans hx216_2
                replace p216 := eq_true p216
                replace q216 := eq_true q216
                go_wp2_with (first | ((with_reducible refine gate_dst (N := 7) rfl ?_); refine box_event ?hg (N := 7) ?hd (cs := #[.int .i64 0, .int .i64 0, .int .i64 0]) (t := 30) ?hr ?_; (case hd => rfl); (case hg => rfl); (case hr => first | (go_simp; done) | (go_simp; rfl)); intro gb217 hg w18 hbox hb; have n0_ := Aside0.mk (Kd.R_below (by (with_reducible repeat (first | apply Kd.R_alloc | apply Kd.R_drewN | apply Kd.R_drew)); exact HO_5.out) hb); have n1_ := Aside0.mk (below_step (by repeat (first | (with_reducible first | exact HB.out | apply below_alloc | apply pw_below_drewN | apply below_drew1) | exact HB.out)) hb); have n2_ := Aside0.mk (hbox); have n3_ := Aside0.mk ((by rw [hg]; exact (below_size (by repeat (first | (with_reducible first | exact HB.out | apply below_alloc | apply pw_below_drewN | apply below_drew1) | exact HB.out))) : w.heap.size ≤ gb217)); have n4_ := Aside0.mk ((by rw [hg]; exact (below_size (by repeat (first | (with_reducible first | exact HB.out | apply below_alloc | apply pw_below_drewN | apply below_drew1) | exact HB.out))) : w.heap.size ≤ gb217)); clear HO_5; clear HB; have HO_5 := n0_; have HB := n1_; have BK217 := n2_; have GW217 := n3_; have GE217 := n4_; clear n0_ n1_ n2_ n3_ n4_; clear hb hbox hg; have hcz19_0 : w18.cell? ⟨gb217, 0, none⟩ = some (.int .i64 0) := (blk_cell BK217.out 0).trans rfl; have hcz19_1 : w18.cell? ⟨gb217, 1, none⟩ = some (.int .i64 0) := (blk_cell BK217.out 1).trans rfl; have hcz19_2 : w18.cell? ⟨gb217, 2, none⟩ = some (.int .i64 0) := (blk_cell BK217.out 2).trans rfl; have hfz19_0 := blk_frozen BK217.out 0; have hfz19_1 := blk_frozen BK217.out 1; have hfz19_2 := blk_frozen BK217.out 2))
                go_roundg k1
                case measure => have := HK1.out; omega
                case rel => exact ⟨(x5_1), (wrap64 (x13_1 + 1)), (by first | rfl | (simp; done) | (simp [*]; done)), H', ⟨by have := HK1.out; omega⟩, ⟨by (with_reducible repeat (first | apply Kd.R_alloc | apply Kd.R_drewN | apply Kd.R_drew)); exact Kd.R_mono (Kd.R_far (p := ⟨gb217, 2, none⟩) (Kd.R_far (p := ⟨gb217, 1, none⟩) (Kd.R_far (p := ⟨gb217, 0, none⟩) (Kd.R_types HO_5.out BK217.out (by decide)) (fun _ hk => hk.2) (.int .i64 ((rd_T30 l0_1 x13_1).f0))) (fun _ hk => hk.2) (.int .i64 ((rd_T30 l0_1 x13_1).f1))) (fun _ hk => hk.2) (.int .i64 ((rd_T30 l0_1 x13_1).f2))) (fun _ hk => trivial)⟩, ⟨by repeat (first | (with_reducible first | exact HB.out | apply below_alloc | apply pw_below_drewN | apply below_drew1 | refine below_set ?_ GE217.out) | exact HB.out)⟩⟩
            · rw [if_neg c6] at H
              exact absurd H (by simp)
          · rw [if_neg c5] at H
            exact absurd H (by simp)
        · rw [if_neg c4] at H
          exact absurd H (by simp)
      · rw [if_neg c3] at H
        have c3b0 : decide (x13_1 < (l0_1.length : Int)) = false := decide_eq_false c3
        clear c3
        obtain rfl := Option.some.inj H
        go_wp2
        go_ret
        exact ⟨_, by first | rfl | (simp [errW_none, errW_some] <;> rfl) | (simp [*, errW_none, errW_some] <;> rfl), by (with_reducible repeat (first | apply Kd.R_alloc | apply Kd.R_drewN | apply Kd.R_drew)); exact HO_5.out, by repeat (first | (with_reducible first | exact HB.out | apply below_alloc | apply pw_below_drewN | apply below_drew1) | exact HB.out)⟩
def branch_town_all.l0 : Nat → List Int → Int → Int → Option (List Int)
  | 0, _, _, _ => none
  | k + 1, x3, x9, x10 => if x10 < x9 then (if x3.length < 17592186044416 then (branch_town_all.l0 k (x3 ++ [x10]) x9 (wrap64 (x10 + 1))) else (none)) else (some x3)
def branch_town_all.f (k : Nat) (a0_0 : Int) (l0_1 : List (S30)) : Option (List Int) := branch_town_all.l0 k ([] : List Int) (l0_1.length : Int) 0
mutual
def branch_town_reach.l0 : Nat → List Int → Int → Int → Int → Int → List (S30) → Option (Int)
  | 0, _, _, _, _, _, _ => none
  | k + 1, x1, x5, x12, x13, x1000, x1001 => if x13 < x12 then (branch_town_reach.l1 k x1 x5 x12 x13 x1 (x1.length : Int) 0 x1000 x1001) else (some x5)
def branch_town_reach.l1 : Nat → List Int → Int → Int → Int → List Int → Int → Int → Int → List (S30) → Option (Int)
  | 0, _, _, _, _, _, _, _, _, _ => none
  | k + 1, x1, x5, x12, x13, x15, x16, x17, x1000, x1001 => if x17 < x16 then (if 0 ≤ x17 then (if x17 < (x15.length : Int) then (if 0 ≤ (rd x15 x17) then (if (rd x15 x17) < (x1001.length : Int) then (if 0 ≤ ((rd_T30 x1001 (rd x15 x17)).f0) then (if (Go.bits .and .i64 (shr .i64 x5 ((rd_T30 x1001 (rd x15 x17)).f0)) 1) = 1 then (if 0 ≤ ((rd_T30 x1001 (rd x15 x17)).f1) then (branch_town_reach.l1 k x1 (Go.bits .or .i64 x5 (shl .i64 1 ((rd_T30 x1001 (rd x15 x17)).f1))) x12 x13 x15 x16 (wrap64 (x17 + 1)) x1000 x1001) else (none)) else (branch_town_reach.l1 k x1 x5 x12 x13 x15 x16 (wrap64 (x17 + 1)) x1000 x1001)) else (none)) else (none)) else (none)) else (none)) else (none)) else (branch_town_reach.l0 k x1 x5 x12 (wrap64 (x13 + 1)) x1000 x1001)
end
def branch_town_reach.f (k : Nat) (a0_0 : Int) (l0_1 : List (S30)) (l1 : List Int) : Option (Int) := branch_town_reach.l0 k l1 1 a0_0 0 a0_0 l0_1
set_option maxHeartbeats 8000000 in
set_option maxRecDepth 100000 in
theorem branch_town_reach.calls (k : Nat) (g0 : Nat) (a0_0 : Int) (A0_1 : Option Addr) (c0_1 : Nat) (l0_1 : List (S30)) (a0_2 : Option Nat) (A1 : Option Addr) (c1 : Nat) (l1 : List Int) (r : Int) (w : World) (hP0 : w.heap[g0]? = some (.cells #[.int .i64 a0_0, .slice A0_1 l0_1.length c0_1, .map a0_2] 70 (0, 0))) (hr0_1 : Kd.C k30 w A0_1 l0_1.length l0_1) (hc0_1 : l0_1.length ≤ c0_1) (hr1 : Kd.C (Kd.int .i64) w A1 l1.length l1) (hc1 : l1.length ≤ c1) (h : branch_town_reach.f k a0_0 l0_1 l1 = some r) :
    Calls Try.prog 54 #[.pointer (some ⟨g0, 0, none⟩), .slice A1 l1.length c1] w fun e w' => e = .returned (.int .i64 r) ∧ Below w.heap.size w w' := by
  have hu30 := Try.underlying30
  have HP0 := Aside0.mk hP0
  clear hP0
  have HR0_1 := Aside0.mk hr0_1
  have HC0_1 := Aside0.mk hc0_1
  clear hr0_1 hc0_1
  have HR1 := Aside0.mk hr1
  have HC1 := Aside0.mk hc1
  clear hr1 hc1
  have HB := Aside0.mk (Below.refl w.heap.size w)
  have H : (branch_town_reach.l0 k l1 1 a0_0 0 a0_0 l0_1) = some r := h
  clear h
  have H' := Aside0.mk H
  clear H
  have hx225_0 := blk_cell HP0.out 0
  replace hx225_0 := hx225_0.trans rfl
  have hx225_1 := blk_cell HP0.out 1
  replace hx225_1 := hx225_1.trans rfl
  have hx225_2 := blk_cell HP0.out 2
  replace hx225_2 := hx225_2.trans rfl
  go_enter Try.func54, Try.ntmps54
  go_wp2
  go_loopg [5, 13] k (fun kq v5 v13 w' => ∃ (x5_1 : Int) (x13_1 : Int), v5 = .int .i64 x5_1 ∧ v13 = .int .i64 x13_1 ∧ Aside0 (branch_town_reach.l0 kq l1 x5_1 a0_0 x13_1 a0_0 l0_1 = some r) ∧ Aside0 (kq ≤ k) ∧ Aside0 (Below w.heap.size w w'))
  case atStart => exact ⟨(1), (0), (by first | rfl | (simp; done) | (simp [*]; done)), (by first | rfl | (simp; done) | (simp [*]; done)), H', ⟨Nat.le_refl _⟩, ⟨by repeat (first | (with_reducible first | exact HB.out | apply below_alloc | apply pw_below_drewN | apply below_drew1) | exact HB.out)⟩⟩
  case round =>
    clear H'
    try clear c1
    try clear p2
    try clear hx2
    try clear hx225_0
    try clear hx225_1
    try clear hx225_2
    obtain ⟨x5_1, x13_1, rfl, rfl, HA, HK1, HB⟩ := hrel
    cases gk with
    | zero => exact absurd HA.out (by simp [branch_town_reach.l0])
    | succ k1 =>
      have H := HA.out
      clear HA
      simp only [branch_town_reach.l0] at H
      by_cases c3 : x13_1 < a0_0
      · rw [if_pos c3] at H
        have c3b0 : decide (x13_1 < a0_0) = true := decide_eq_true c3
        clear c3
        have H' := Aside0.mk H
        clear H
        go_wp2
        go_loopg [5, 17] k1 (fun kq v5 v17 w' => ∃ (x5_2 : Int) (x17_2 : Int), v5 = .int .i64 x5_2 ∧ v17 = .int .i64 x17_2 ∧ Aside0 (branch_town_reach.l1 kq l1 x5_2 a0_0 x13_1 l1 (l1.length : Int) x17_2 a0_0 l0_1 = some r) ∧ Aside0 (kq ≤ k1) ∧ Aside0 (Below w.heap.size w w'))
        case atStart => exact ⟨(x5_1), (0), (by first | rfl | (simp; done) | (simp [*]; done)), (by first | rfl | (simp; done) | (simp [*]; done)), H', ⟨Nat.le_refl _⟩, ⟨by repeat (first | (with_reducible first | exact HB.out | apply below_alloc | apply pw_below_drewN | apply below_drew1) | exact HB.out)⟩⟩
        case round =>
          clear H'
          try clear c1
          try clear p2
          try clear hx2
          try clear c3
          try clear c3b0
          try clear hx225_0
          try clear hx225_1
          try clear hx225_2
          try clear p2
          obtain ⟨x5_2, x17_2, rfl, rfl, HA, HK2, HB⟩ := hrel
          cases gk with
          | zero => exact absurd HA.out (by simp [branch_town_reach.l1])
          | succ k2 =>
            have H := HA.out
            clear HA
            simp only [branch_town_reach.l1] at H
            by_cases c4 : x17_2 < (l1.length : Int)
            · rw [if_pos c4] at H
              have c4b0 : decide (x17_2 < (l1.length : Int)) = true := decide_eq_true c4
              clear c4
              by_cases c5 : 0 ≤ x17_2
              · rw [if_pos c5] at H
                have c5b0 : decide (0 ≤ x17_2) = true := decide_eq_true c5
                clear c5
                by_cases c6 : x17_2 < (l1.length : Int)
                · rw [if_pos c6] at H
                  have c6b0 : decide (x17_2 < (l1.length : Int)) = true := decide_eq_true c6
                  clear c6
                  by_cases c7 : 0 ≤ (rd l1 x17_2)
                  · rw [if_pos c7] at H
                    have c7b0 : decide (0 ≤ (rd l1 x17_2)) = true := decide_eq_true c7
                    clear c7
                    by_cases c8 : (rd l1 x17_2) < (l0_1.length : Int)
                    · rw [if_pos c8] at H
                      have c8b0 : decide ((rd l1 x17_2) < (l0_1.length : Int)) = true := decide_eq_true c8
                      clear c8
                      by_cases c9 : 0 ≤ ((rd_T30 l0_1 (rd l1 x17_2)).f0)
                      · rw [if_pos c9] at H
                        have c9b0 := eq_true c9
                        have c9b1 : decide (0 ≤ ((rd_T30 l0_1 (rd l1 x17_2)).f0)) = true := decide_eq_true c9
                        clear c9
                        obtain ⟨ji10, hji10⟩ : ∃ j_ : Int, (shr .i64 x5_2 ((rd_T30 l0_1 (rd l1 x17_2)).f0)) = j_ := ⟨_, rfl⟩
                        replace H : (if (Go.bits .and .i64 (ji10) 1) = 1 then (if 0 ≤ ((rd_T30 l0_1 (rd l1 x17_2)).f1) then (branch_town_reach.l1 k2 l1 (Go.bits .or .i64 x5_2 (shl .i64 1 ((rd_T30 l0_1 (rd l1 x17_2)).f1))) a0_0 x13_1 l1 (l1.length : Int) (wrap64 (x17_2 + 1)) a0_0 l0_1) else (none)) else (branch_town_reach.l1 k2 l1 x5_2 a0_0 x13_1 l1 (l1.length : Int) (wrap64 (x17_2 + 1)) a0_0 l0_1)) = some r := by first | (rw [hji10] at H; exact H) | (simp only [hji10] at H ⊢; exact H)
                        have hji10_ : (x5_2 / 2 ^ min ((rd_T30 l0_1 (rd l1 x17_2)).f0).toNat 64) = ji10 := hji10
                        have hji10z : ((rd_T30 l0_1 (rd l1 x17_2)).f0) ≤ 64 → (x5_2 / 2 ^ ((rd_T30 l0_1 (rd l1 x17_2)).f0).toNat) = ji10 := shr_small hji10
                        by_cases c11 : (Go.bits .and .i64 (ji10) 1) = 1
                        · rw [if_pos c11] at H
                          have c11b0 : ((Go.bits .and .i64 (ji10) 1) == 1) = true := beq_iff_eq.mpr c11
                          have c11b1 : ((Go.bits .and .i64 (ji10) 1) != 1) = false := bne_eq_false_iff_eq.mpr c11
                          clear c11
                          by_cases c12 : 0 ≤ ((rd_T30 l0_1 (rd l1 x17_2)).f1)
                          · rw [if_pos c12] at H
                            have c12b0 := eq_true c12
                            have c12b1 : decide (0 ≤ ((rd_T30 l0_1 (rd l1 x17_2)).f1)) = true := decide_eq_true c12
                            clear c12
                            obtain ⟨ji13, hji13⟩ : ∃ j_ : Int, (shl .i64 1 ((rd_T30 l0_1 (rd l1 x17_2)).f1)) = j_ := ⟨_, rfl⟩
                            replace H : (branch_town_reach.l1 k2 l1 (Go.bits .or .i64 x5_2 (ji13)) a0_0 x13_1 l1 (l1.length : Int) (wrap64 (x17_2 + 1)) a0_0 l0_1) = some r := by first | (rw [hji13] at H; exact H) | (simp only [hji13] at H ⊢; exact H)
                            have hji13_ : (IntKind.i64.wrap (1 * 2 ^ min ((rd_T30 l0_1 (rd l1 x17_2)).f1).toNat 64)) = ji13 := hji13
                            have hji13z : ((rd_T30 l0_1 (rd l1 x17_2)).f1) ≤ 64 → (IntKind.i64.wrap (1 * 2 ^ ((rd_T30 l0_1 (rd l1 x17_2)).f1).toNat)) = ji13 := shl_small hji13
                            have hji13u : (IntKind.i64.wrap (2 ^ min ((rd_T30 l0_1 (rd l1 x17_2)).f1).toNat 64)) = ji13 := by have h_ := hji13_; rw [Int.one_mul] at h_; exact h_
                            have hji13v : ((rd_T30 l0_1 (rd l1 x17_2)).f1) ≤ 64 → (IntKind.i64.wrap (2 ^ ((rd_T30 l0_1 (rd l1 x17_2)).f1).toNat)) = ji13 := fun hle_ => by have h_ := hji13z hle_; rw [Int.one_mul] at h_; exact h_
                            have hji13y : (wrap64 (1 * 2 ^ min ((rd_T30 l0_1 (rd l1 x17_2)).f1).toNat 64)) = ji13 := (i64_w _).symm.trans hji13_
                            have hji13x : ((rd_T30 l0_1 (rd l1 x17_2)).f1) ≤ 64 → (wrap64 (1 * 2 ^ ((rd_T30 l0_1 (rd l1 x17_2)).f1).toNat)) = ji13 := fun h_ => (i64_w _).symm.trans (hji13z h_)
                            have H' := Aside0.mk H
                            clear H
                            have p226 : 0 ≤ (x17_2 : Int) := of_decide_eq_true (by first | (with_reducible assumption) | assumption)
                            have q226 : x17_2 < (l1.length : Int) := of_decide_eq_true (by first | (with_reducible assumption) | assumption)
                            obtain ⟨ad226, e226, hx226_0⟩ := Kd.at_int HR1.out x17_2 p226 q226
                            cases e226
                            replace hx226_0 := (HB.out.cell (World.block_lt_of_cell? w _ hx226_0)).trans hx226_0
                            replace p226 := eq_true p226
                            replace q226 := eq_true q226
                            have hx227_0 := blk_cell HP0.out 0
                            replace hx227_0 := hx227_0.trans rfl
                            replace hx227_0 := (HB.out.cell (World.block_lt_of_cell? w _ hx227_0)).trans hx227_0
                            have hx227_1 := blk_cell HP0.out 1
                            replace hx227_1 := hx227_1.trans rfl
                            replace hx227_1 := (HB.out.cell (World.block_lt_of_cell? w _ hx227_1)).trans hx227_1
                            have hx227_2 := blk_cell HP0.out 2
                            replace hx227_2 := hx227_2.trans rfl
                            replace hx227_2 := (HB.out.cell (World.block_lt_of_cell? w _ hx227_2)).trans hx227_2
                            have p228 : 0 ≤ ((rd l1 x17_2) : Int) := of_decide_eq_true (by first | (with_reducible assumption) | assumption)
                            have q228 : (rd l1 x17_2) < (l0_1.length : Int) := of_decide_eq_true (by first | (with_reducible assumption) | assumption)
                            obtain ⟨ad228, e228, hx228_0, hx228_1, hx228_2⟩ := at_T30 HR0_1.out (rd l1 x17_2) p228 q228
                            cases e228
                            replace hx228_0 := (HB.out.cell (World.block_lt_of_cell? w _ hx228_0)).trans hx228_0
                            replace hx228_1 := (HB.out.cell (World.block_lt_of_cell? w _ hx228_1)).trans hx228_1
                            replace hx228_2 := (HB.out.cell (World.block_lt_of_cell? w _ hx228_2)).trans hx228_2
                            replace p228 := eq_true p228
                            replace q228 := eq_true q228
                            go_wp2_with (first | ((with_reducible refine gate_dst (N := 8) rfl ?_); refine box_event ?hg (N := 8) ?hd (cs := #[.int .i64 0, .int .i64 0, .int .i64 0]) (t := 30) ?hr ?_; (case hd => rfl); (case hg => rfl); (case hr => first | (go_simp; done) | (go_simp; rfl)); intro gb229 hg w14 hbox hb; have n0_ := Aside0.mk (below_step (by repeat (first | (with_reducible first | exact HB.out | apply below_alloc | apply pw_below_drewN | apply below_drew1) | exact HB.out)) hb); have n1_ := Aside0.mk (hbox); have n2_ := Aside0.mk ((by rw [hg]; exact (below_size (by repeat (first | (with_reducible first | exact HB.out | apply below_alloc | apply pw_below_drewN | apply below_drew1) | exact HB.out))) : w.heap.size ≤ gb229)); have n3_ := Aside0.mk ((by rw [hg]; exact (below_size (by repeat (first | (with_reducible first | exact HB.out | apply below_alloc | apply pw_below_drewN | apply below_drew1) | exact HB.out))) : w.heap.size ≤ gb229)); clear HB; have HB := n0_; have BK229 := n1_; have GW229 := n2_; have GE229 := n3_; clear n0_ n1_ n2_ n3_; clear hb hbox hg; have hcz15_0 : w14.cell? ⟨gb229, 0, none⟩ = some (.int .i64 0) := (blk_cell BK229.out 0).trans rfl; have hcz15_1 : w14.cell? ⟨gb229, 1, none⟩ = some (.int .i64 0) := (blk_cell BK229.out 1).trans rfl; have hcz15_2 : w14.cell? ⟨gb229, 2, none⟩ = some (.int .i64 0) := (blk_cell BK229.out 2).trans rfl; have hfz15_0 := blk_frozen BK229.out 0; have hfz15_1 := blk_frozen BK229.out 1; have hfz15_2 := blk_frozen BK229.out 2))
                            go_roundg k2
                            case measure => have := HK1.out; have := HK2.out; omega
                            case rel => exact ⟨(Go.bits .or .i64 x5_2 (ji13)), (wrap64 (x17_2 + 1)), (by first | rfl | (simp; done) | (simp only [← hji13] <;> (first | rfl | simp)) | (simp [*]; done)), (by first | rfl | (simp; done) | (simp [*]; done)), H', ⟨by have := HK1.out; have := HK2.out; omega⟩, ⟨by repeat (first | (with_reducible first | exact HB.out | apply below_alloc | apply pw_below_drewN | apply below_drew1 | refine below_set ?_ GE229.out) | exact HB.out)⟩⟩
                          · rw [if_neg c12] at H
                            exact absurd H (by simp)
                        · rw [if_neg c11] at H
                          have c11b0 : ((Go.bits .and .i64 (ji10) 1) == 1) = false := beq_eq_false_iff_ne.mpr c11
                          have c11b1 : ((Go.bits .and .i64 (ji10) 1) != 1) = true := bne_iff_ne.mpr c11
                          have H' := Aside0.mk H
                          clear H
                          have p226 : 0 ≤ (x17_2 : Int) := of_decide_eq_true (by first | (with_reducible assumption) | assumption)
                          have q226 : x17_2 < (l1.length : Int) := of_decide_eq_true (by first | (with_reducible assumption) | assumption)
                          obtain ⟨ad226, e226, hx226_0⟩ := Kd.at_int HR1.out x17_2 p226 q226
                          cases e226
                          replace hx226_0 := (HB.out.cell (World.block_lt_of_cell? w _ hx226_0)).trans hx226_0
                          replace p226 := eq_true p226
                          replace q226 := eq_true q226
                          have hx227_0 := blk_cell HP0.out 0
                          replace hx227_0 := hx227_0.trans rfl
                          replace hx227_0 := (HB.out.cell (World.block_lt_of_cell? w _ hx227_0)).trans hx227_0
                          have hx227_1 := blk_cell HP0.out 1
                          replace hx227_1 := hx227_1.trans rfl
                          replace hx227_1 := (HB.out.cell (World.block_lt_of_cell? w _ hx227_1)).trans hx227_1
                          have hx227_2 := blk_cell HP0.out 2
                          replace hx227_2 := hx227_2.trans rfl
                          replace hx227_2 := (HB.out.cell (World.block_lt_of_cell? w _ hx227_2)).trans hx227_2
                          have p228 : 0 ≤ ((rd l1 x17_2) : Int) := of_decide_eq_true (by first | (with_reducible assumption) | assumption)
                          have q228 : (rd l1 x17_2) < (l0_1.length : Int) := of_decide_eq_true (by first | (with_reducible assumption) | assumption)
                          obtain ⟨ad228, e228, hx228_0, hx228_1, hx228_2⟩ := at_T30 HR0_1.out (rd l1 x17_2) p228 q228
                          cases e228
                          replace hx228_0 := (HB.out.cell (World.block_lt_of_cell? w _ hx228_0)).trans hx228_0
                          replace hx228_1 := (HB.out.cell (World.block_lt_of_cell? w _ hx228_1)).trans hx228_1
                          replace hx228_2 := (HB.out.cell (World.block_lt_of_cell? w _ hx228_2)).trans hx228_2
                          replace p228 := eq_true p228
                          replace q228 := eq_true q228
                          go_wp2_with (first | ((with_reducible refine gate_dst (N := 8) rfl ?_); refine box_event ?hg (N := 8) ?hd (cs := #[.int .i64 0, .int .i64 0, .int .i64 0]) (t := 30) ?hr ?_; (case hd => rfl); (case hg => rfl); (case hr => first | (go_simp; done) | (go_simp; rfl)); intro gb229 hg w16 hbox hb; have n0_ := Aside0.mk (below_step (by repeat (first | (with_reducible first | exact HB.out | apply below_alloc | apply pw_below_drewN | apply below_drew1) | exact HB.out)) hb); have n1_ := Aside0.mk (hbox); have n2_ := Aside0.mk ((by rw [hg]; exact (below_size (by repeat (first | (with_reducible first | exact HB.out | apply below_alloc | apply pw_below_drewN | apply below_drew1) | exact HB.out))) : w.heap.size ≤ gb229)); have n3_ := Aside0.mk ((by rw [hg]; exact (below_size (by repeat (first | (with_reducible first | exact HB.out | apply below_alloc | apply pw_below_drewN | apply below_drew1) | exact HB.out))) : w.heap.size ≤ gb229)); clear HB; have HB := n0_; have BK229 := n1_; have GW229 := n2_; have GE229 := n3_; clear n0_ n1_ n2_ n3_; clear hb hbox hg; have hcz17_0 : w16.cell? ⟨gb229, 0, none⟩ = some (.int .i64 0) := (blk_cell BK229.out 0).trans rfl; have hcz17_1 : w16.cell? ⟨gb229, 1, none⟩ = some (.int .i64 0) := (blk_cell BK229.out 1).trans rfl; have hcz17_2 : w16.cell? ⟨gb229, 2, none⟩ = some (.int .i64 0) := (blk_cell BK229.out 2).trans rfl; have hfz17_0 := blk_frozen BK229.out 0; have hfz17_1 := blk_frozen BK229.out 1; have hfz17_2 := blk_frozen BK229.out 2))
                          go_roundg k2
                          case measure => have := HK1.out; have := HK2.out; omega
                          case rel => exact ⟨(x5_2), (wrap64 (x17_2 + 1)), (by first | rfl | (simp; done) | (simp [*]; done)), (by first | rfl | (simp; done) | (simp [*]; done)), H', ⟨by have := HK1.out; have := HK2.out; omega⟩, ⟨by repeat (first | (with_reducible first | exact HB.out | apply below_alloc | apply pw_below_drewN | apply below_drew1 | refine below_set ?_ GE229.out) | exact HB.out)⟩⟩
                      · rw [if_neg c9] at H
                        exact absurd H (by simp)
                    · rw [if_neg c8] at H
                      exact absurd H (by simp)
                  · rw [if_neg c7] at H
                    exact absurd H (by simp)
                · rw [if_neg c6] at H
                  exact absurd H (by simp)
              · rw [if_neg c5] at H
                exact absurd H (by simp)
            · rw [if_neg c4] at H
              have c4b0 : decide (x17_2 < (l1.length : Int)) = false := decide_eq_false c4
              clear c4
              have H' := Aside0.mk H
              clear H
              go_wp2
              go_roundg k2
              case measure => have := HK1.out; have := HK2.out; omega
              case rel => exact ⟨(x5_2), (wrap64 (x13_1 + 1)), (by first | rfl | (simp; done) | (simp [*]; done)), (by first | rfl | (simp; done) | (simp [*]; done)), H', ⟨by have := HK1.out; have := HK2.out; omega⟩, ⟨by repeat (first | (with_reducible first | exact HB.out | apply below_alloc | apply pw_below_drewN | apply below_drew1) | exact HB.out)⟩⟩
      · rw [if_neg c3] at H
        have c3b0 : decide (x13_1 < a0_0) = false := decide_eq_false c3
        clear c3
        obtain rfl := Option.some.inj H
        go_wp2
        go_ret
        exact ⟨by first | rfl | (simp [errW_none, errW_some] <;> rfl) | (simp [*, errW_none, errW_some] <;> rfl), by repeat (first | (with_reducible first | exact HB.out | apply below_alloc | apply pw_below_drewN | apply below_drew1) | exact HB.out)⟩
def branch_town_everybody.f (a0_0 : Int) (l0_1 : List (S30)) : Option (Int) := if 0 ≤ a0_0 then (some (wrap64 ((shl .i64 1 a0_0) - 1))) else (none)
set_option maxHeartbeats 8000000 in
set_option maxRecDepth 100000 in
theorem branch_town_everybody.calls (g0 : Nat) (a0_0 : Int) (A0_1 : Option Addr) (c0_1 : Nat) (l0_1 : List (S30)) (a0_2 : Option Nat) (r : Int) (w : World) (hP0 : w.heap[g0]? = some (.cells #[.int .i64 a0_0, .slice A0_1 l0_1.length c0_1, .map a0_2] 70 (0, 0))) (hr0_1 : Kd.C k30 w A0_1 l0_1.length l0_1) (hc0_1 : l0_1.length ≤ c0_1) (h : branch_town_everybody.f a0_0 l0_1 = some r) :
    Calls Try.prog 74 #[.pointer (some ⟨g0, 0, none⟩)] w fun e w' => e = .returned (.int .i64 r) ∧ Drawn0 w w' := by
  have HP0 := Aside0.mk hP0
  clear hP0
  have HR0_1 := Aside0.mk hr0_1
  have HC0_1 := Aside0.mk hc0_1
  clear hr0_1 hc0_1
  have H : (if 0 ≤ a0_0 then (some (wrap64 ((shl .i64 1 a0_0) - 1))) else (none)) = some r := h
  clear h
  by_cases c2 : 0 ≤ a0_0
  · rw [if_pos c2] at H
    have c2b0 := eq_true c2
    have c2b1 : decide (0 ≤ a0_0) = true := decide_eq_true c2
    clear c2
    obtain ⟨ji3, hji3⟩ : ∃ j_ : Int, (shl .i64 1 a0_0) = j_ := ⟨_, rfl⟩
    replace H : (some (wrap64 ((ji3) - 1))) = some r := by first | (rw [hji3] at H; exact H) | (simp only [hji3] at H ⊢; exact H)
    have hji3_ : (IntKind.i64.wrap (1 * 2 ^ min a0_0.toNat 64)) = ji3 := hji3
    have hji3z : a0_0 ≤ 64 → (IntKind.i64.wrap (1 * 2 ^ a0_0.toNat)) = ji3 := shl_small hji3
    have hji3u : (IntKind.i64.wrap (2 ^ min a0_0.toNat 64)) = ji3 := by have h_ := hji3_; rw [Int.one_mul] at h_; exact h_
    have hji3v : a0_0 ≤ 64 → (IntKind.i64.wrap (2 ^ a0_0.toNat)) = ji3 := fun hle_ => by have h_ := hji3z hle_; rw [Int.one_mul] at h_; exact h_
    have hji3y : (wrap64 (1 * 2 ^ min a0_0.toNat 64)) = ji3 := (i64_w _).symm.trans hji3_
    have hji3x : a0_0 ≤ 64 → (wrap64 (1 * 2 ^ a0_0.toNat)) = ji3 := fun h_ => (i64_w _).symm.trans (hji3z h_)
    obtain rfl := Option.some.inj H
    have hx230_0 := blk_cell HP0.out 0
    replace hx230_0 := hx230_0.trans rfl
    have hx230_1 := blk_cell HP0.out 1
    replace hx230_1 := hx230_1.trans rfl
    have hx230_2 := blk_cell HP0.out 2
    replace hx230_2 := hx230_2.trans rfl
    go_enter Try.func74, Try.ntmps74
    go_wp2
    go_ret
    exact ⟨by first | rfl | (simp; done) | (simp only [← hji3] <;> (first | rfl | simp)) | (simp [*]; done), by repeat (first | exact Drawn0.refl _ | apply Drawn0.step)⟩
  · rw [if_neg c2] at H
    exact absurd H (by simp)
end Go.Proofs.Ytpmadffgdfholaa.B
namespace Go.Proofs.Ytpmadffgdfholaa.B
open Go.RowKit Go.Proofs.YtpmadffgdfholaaW.PrintWords Go.Proofs.YtpmadffgdfholaaW.PrintLast Go.Proofs.YtpmadffgdfholaaW.PrintMore
attribute [local go_sem] max2_int min2_int max_two min_two max_three min_three max_four min_four   -- for this text's walks alone
set_option linter.unusedVariables false
set_option linter.unusedSimpArgs false
mutual
def branch_town_is.l0 : Nat → List Int → Int → Int → List Int → Int → Int → Int → List (S30) → Option (Int × Bool)
  | 0, _, _, _, _, _, _, _, _ => none
  | k + 1, x1, x6, x7, x18, x19, x20, x1000, x1001 => if x20 < x19 then (if 0 ≤ x20 then (if x20 < (x18.length : Int) then (if (rd x18 x20) < 0 then (branch_town_is.j1 k x1 x6 x7 (rd x18 x20) x18 x19 x20 true x1000 x1001) else (if (rd x18 x20) ≥ (x1001.length : Int) then (branch_town_is.j1 k x1 x6 x7 (rd x18 x20) x18 x19 x20 true x1000 x1001) else (if x20 > 0 then (if 0 ≤ (wrap64 (x20 - 1)) then (if (wrap64 (x20 - 1)) < (x1.length : Int) then (if (rd x18 x20) ≤ (rd x1 (wrap64 (x20 - 1))) then (branch_town_is.j1 k x1 x6 x7 (rd x18 x20) x18 x19 x20 true x1000 x1001) else (if 0 ≤ (rd x18 x20) then (if (rd x18 x20) < (x1001.length : Int) then (if 0 ≤ ((rd_T30 x1001 (rd x18 x20)).f1) then (branch_town_is.j1 k x1 x6 x7 (rd x18 x20) x18 x19 x20 ((Go.bits .and .i64 (shr .i64 x7 ((rd_T30 x1001 (rd x18 x20)).f1)) 1) == 1) x1000 x1001) else (none)) else (none)) else (none))) else (none)) else (none)) else (if 0 ≤ (rd x18 x20) then (if (rd x18 x20) < (x1001.length : Int) then (if 0 ≤ ((rd_T30 x1001 (rd x18 x20)).f1) then (branch_town_is.j1 k x1 x6 x7 (rd x18 x20) x18 x19 x20 ((Go.bits .and .i64 (shr .i64 x7 ((rd_T30 x1001 (rd x18 x20)).f1)) 1) == 1) x1000 x1001) else (none)) else (none)) else (none))))) else (none)) else (none)) else ((branch_town_reach.f k x1000 x1001 x1).bind fun t243 => ((branch_town_everybody.f x1000 x1001).bind fun t244 => (if t243 = t244 then (some (x6, true)) else (some (0, false)))))
def branch_town_is.j1 : Nat → List Int → Int → Int → Int → List Int → Int → Int → Bool → Int → List (S30) → Option (Int × Bool)
  | 0, _, _, _, _, _, _, _, _, _, _ => none
  | k + 1, x1, x6, x7, x9, x18, x19, x20, x62, x1000, x1001 => if x62 = true then (some (0, false)) else (if 0 ≤ x9 then (if x9 < (x1001.length : Int) then (if 0 ≤ ((rd_T30 x1001 x9).f1) then (branch_town_is.l0 k x1 (wrap64 (x6 + ((rd_T30 x1001 x9).f2))) (Go.bits .or .i64 x7 (shl .i64 1 ((rd_T30 x1001 x9).f1))) x18 x19 (wrap64 (x20 + 1)) x1000 x1001) else (none)) else (none)) else (none))
end
def branch_town_is.f (k : Nat) (a0_0 : Int) (l0_1 : List (S30)) (l1 : List Int) : Option (Int × Bool) := if (l1.length : Int) = (wrap64 (a0_0 - 1)) then (branch_town_is.l0 k l1 0 1 l1 (l1.length : Int) 0 a0_0 l0_1) else (some (0, false))
set_option maxHeartbeats 8000000 in
set_option maxRecDepth 100000 in
theorem branch_town_is.calls (k : Nat) (g0 : Nat) (a0_0 : Int) (A0_1 : Option Addr) (c0_1 : Nat) (l0_1 : List (S30)) (a0_2 : Option Nat) (A1 : Option Addr) (c1 : Nat) (l1 : List Int) (r1 : Int) (r2 : Bool) (w : World) (hP0 : w.heap[g0]? = some (.cells #[.int .i64 a0_0, .slice A0_1 l0_1.length c0_1, .map a0_2] 70 (0, 0))) (hr0_1 : Kd.C k30 w A0_1 l0_1.length l0_1) (hc0_1 : l0_1.length ≤ c0_1) (hr1 : Kd.C (Kd.int .i64) w A1 l1.length l1) (hc1 : l1.length ≤ c1) (h : branch_town_is.f k a0_0 l0_1 l1 = some (r1, r2)) :
    Calls Try.prog 61 #[.pointer (some ⟨g0, 0, none⟩), .slice A1 l1.length c1] w fun e w' => e = .returned (.tuple #[.int .i64 r1, .bool r2]) ∧ Below w.heap.size w w' := by
  have HP0 := Aside0.mk hP0
  clear hP0
  have HR0_1 := Aside0.mk hr0_1
  have HC0_1 := Aside0.mk hc0_1
  clear hr0_1 hc0_1
  have HR1 := Aside0.mk hr1
  have HC1 := Aside0.mk hc1
  clear hr1 hc1
  have HB := Aside0.mk (Below.refl w.heap.size w)
  have H : (if (l1.length : Int) = (wrap64 (a0_0 - 1)) then (branch_town_is.l0 k l1 0 1 l1 (l1.length : Int) 0 a0_0 l0_1) else (some (0, false))) = some (r1, r2) := h
  clear h
  by_cases c3 : (l1.length : Int) = (wrap64 (a0_0 - 1))
  · rw [if_pos c3] at H
    have c3b0 : ((l1.length : Int) == (wrap64 (a0_0 - 1))) = true := beq_iff_eq.mpr c3
    have c3b1 : ((l1.length : Int) != (wrap64 (a0_0 - 1))) = false := bne_eq_false_iff_eq.mpr c3
    clear c3
    have H' := Aside0.mk H
    clear H
    have hx231_0 := blk_cell HP0.out 0
    replace hx231_0 := hx231_0.trans rfl
    have hx231_1 := blk_cell HP0.out 1
    replace hx231_1 := hx231_1.trans rfl
    have hx231_2 := blk_cell HP0.out 2
    replace hx231_2 := hx231_2.trans rfl
    go_enter Try.func61, Try.ntmps61
    go_wp2
    go_loopg [6, 7, 20] k (fun kq v6 v7 v20 w' => ∃ (x6_1 : Int) (x7_1 : Int) (x20_1 : Int), v6 = .int .i64 x6_1 ∧ v7 = .int .i64 x7_1 ∧ v20 = .int .i64 x20_1 ∧ Aside0 (branch_town_is.l0 kq l1 x6_1 x7_1 l1 (l1.length : Int) x20_1 a0_0 l0_1 = some (r1, r2)) ∧ Aside0 (kq ≤ k) ∧ Aside0 (Below w.heap.size w w'))
    case atStart => exact ⟨(0), (1), (0), (by first | rfl | (simp; done) | (simp [*]; done)), (by first | rfl | (simp; done) | (simp [*]; done)), (by first | rfl | (simp; done) | (simp [*]; done)), H', ⟨Nat.le_refl _⟩, ⟨by repeat (first | (with_reducible first | exact HB.out | apply below_alloc | apply pw_below_drewN | apply below_drew1) | exact HB.out)⟩⟩
    case round =>
      clear H'
      try clear c1
      try clear p2
      try clear hx2
      try clear c3
      try clear c3b0
      try clear c3b1
      try clear hx231_0
      try clear hx231_1
      try clear hx231_2
      obtain ⟨x6_1, x7_1, x20_1, rfl, rfl, rfl, HA, HK1, HB⟩ := hrel
      cases gk with
      | zero => exact absurd HA.out (by simp [branch_town_is.l0])
      | succ k1 =>
        have H := HA.out
        clear HA
        simp only [branch_town_is.l0] at H
        by_cases c4 : x20_1 < (l1.length : Int)
        · rw [if_pos c4] at H
          have c4b0 : decide (x20_1 < (l1.length : Int)) = true := decide_eq_true c4
          clear c4
          by_cases c5 : 0 ≤ x20_1
          · rw [if_pos c5] at H
            have c5b0 : decide (0 ≤ x20_1) = true := decide_eq_true c5
            clear c5
            by_cases c6 : x20_1 < (l1.length : Int)
            · rw [if_pos c6] at H
              have c6b0 : decide (x20_1 < (l1.length : Int)) = true := decide_eq_true c6
              clear c6
              have HC7 := Aside0.mk H
              clear H
              have p232 : 0 ≤ (x20_1 : Int) := of_decide_eq_true (by first | (with_reducible assumption) | assumption)
              have q232 : x20_1 < (l1.length : Int) := of_decide_eq_true (by first | (with_reducible assumption) | assumption)
              obtain ⟨ad232, e232, hx232_0⟩ := Kd.at_int HR1.out x20_1 p232 q232
              cases e232
              replace hx232_0 := (HB.out.cell (World.block_lt_of_cell? w _ hx232_0)).trans hx232_0
              replace p232 := eq_true p232
              replace q232 := eq_true q232
              go_upto_region 7 with (fail)
              go_cut [62] (fun v62 wc => ∃ (kq : Nat) (x62_6 : Bool), v62 = .bool x62_6 ∧ Aside0 (branch_town_is.j1 kq l1 x6_1 x7_1 (rd l1 x20_1) l1 (l1.length : Int) x20_1 x62_6 a0_0 l0_1 = some (r1, r2)) ∧ Aside0 (kq ≤ k1) ∧ Aside0 (Below w.heap.size w wc))
              case first =>
                have H := HC7.out
                clear HC7
                by_cases c8 : (rd l1 x20_1) < 0
                · rw [if_pos c8] at H
                  have c8b0 : decide ((rd l1 x20_1) < 0) = true := decide_eq_true c8
                  clear c8
                  (first | rw [c8b0] | (simp only [i64_w, i32_w]; rw [c8b0]) | skip)
                  have H' := Aside0.mk H
                  clear H
                  go_wp2
                  go_meet
                  case rel => exact ⟨_, (true), (by first | rfl | (simp; done) | (simp [*]; done)), H', ⟨by have := HK1.out; first | omega | exact Nat.le_refl _⟩, ⟨by repeat (first | (with_reducible first | exact HB.out | apply below_alloc | apply pw_below_drewN | apply below_drew1) | exact HB.out)⟩⟩
                · rw [if_neg c8] at H
                  have c8b0 : decide ((rd l1 x20_1) < 0) = false := decide_eq_false c8
                  clear c8
                  (first | rw [c8b0] | (simp only [i64_w, i32_w]; rw [c8b0]) | skip)
                  by_cases c9 : (rd l1 x20_1) ≥ (l0_1.length : Int)
                  · rw [if_pos c9] at H
                    have c9b0 : decide ((l0_1.length : Int) ≤ (rd l1 x20_1)) = true := decide_eq_true c9
                    clear c9
                    have H' := Aside0.mk H
                    clear H
                    have hx233_0 := blk_cell HP0.out 0
                    replace hx233_0 := hx233_0.trans rfl
                    replace hx233_0 := (HB.out.cell (World.block_lt_of_cell? w _ hx233_0)).trans hx233_0
                    have hx233_1 := blk_cell HP0.out 1
                    replace hx233_1 := hx233_1.trans rfl
                    replace hx233_1 := (HB.out.cell (World.block_lt_of_cell? w _ hx233_1)).trans hx233_1
                    have hx233_2 := blk_cell HP0.out 2
                    replace hx233_2 := hx233_2.trans rfl
                    replace hx233_2 := (HB.out.cell (World.block_lt_of_cell? w _ hx233_2)).trans hx233_2
                    go_wp2
                    go_meet
                    case rel => exact ⟨_, (true), (by first | rfl | (simp; done) | (simp [*]; done)), H', ⟨by have := HK1.out; first | omega | exact Nat.le_refl _⟩, ⟨by repeat (first | (with_reducible first | exact HB.out | apply below_alloc | apply pw_below_drewN | apply below_drew1) | exact HB.out)⟩⟩
                  · rw [if_neg c9] at H
                    have c9b0 : decide ((l0_1.length : Int) ≤ (rd l1 x20_1)) = false := decide_eq_false c9
                    clear c9
                    by_cases c10 : x20_1 > 0
                    · rw [if_pos c10] at H
                      have c10b0 : decide (0 < x20_1) = true := decide_eq_true c10
                      clear c10
                      obtain ⟨ji11, hji11⟩ : ∃ j_ : Int, (wrap64 (x20_1 - 1)) = j_ := ⟨_, rfl⟩
                      replace H : (if 0 ≤ (ji11) then (if (ji11) < (l1.length : Int) then (if (rd l1 x20_1) ≤ (rd l1 (ji11)) then (branch_town_is.j1 k1 l1 x6_1 x7_1 (rd l1 x20_1) l1 (l1.length : Int) x20_1 true a0_0 l0_1) else (if 0 ≤ (rd l1 x20_1) then (if (rd l1 x20_1) < (l0_1.length : Int) then (if 0 ≤ ((rd_T30 l0_1 (rd l1 x20_1)).f1) then (branch_town_is.j1 k1 l1 x6_1 x7_1 (rd l1 x20_1) l1 (l1.length : Int) x20_1 ((Go.bits .and .i64 (shr .i64 x7_1 ((rd_T30 l0_1 (rd l1 x20_1)).f1)) 1) == 1) a0_0 l0_1) else (none)) else (none)) else (none))) else (none)) else (none)) = some (r1, r2) := by first | (rw [hji11] at H; exact H) | (simp only [hji11] at H ⊢; exact H)
                      have hji11w : (IntKind.i64.wrap (x20_1 - 1)) = ji11 := (i64_w _).trans hji11
                      by_cases c12 : 0 ≤ (ji11)
                      · rw [if_pos c12] at H
                        have c12b0 : decide (0 ≤ (ji11)) = true := decide_eq_true c12
                        clear c12
                        by_cases c13 : (ji11) < (l1.length : Int)
                        · rw [if_pos c13] at H
                          have c13b0 : decide ((ji11) < (l1.length : Int)) = true := decide_eq_true c13
                          clear c13
                          by_cases c14 : (rd l1 x20_1) ≤ (rd l1 (ji11))
                          · rw [if_pos c14] at H
                            have c14b0 : decide ((rd l1 x20_1) ≤ (rd l1 (ji11))) = true := decide_eq_true c14
                            clear c14
                            have H' := Aside0.mk H
                            clear H
                            have hx233_0 := blk_cell HP0.out 0
                            replace hx233_0 := hx233_0.trans rfl
                            replace hx233_0 := (HB.out.cell (World.block_lt_of_cell? w _ hx233_0)).trans hx233_0
                            have hx233_1 := blk_cell HP0.out 1
                            replace hx233_1 := hx233_1.trans rfl
                            replace hx233_1 := (HB.out.cell (World.block_lt_of_cell? w _ hx233_1)).trans hx233_1
                            have hx233_2 := blk_cell HP0.out 2
                            replace hx233_2 := hx233_2.trans rfl
                            replace hx233_2 := (HB.out.cell (World.block_lt_of_cell? w _ hx233_2)).trans hx233_2
                            have p234 : 0 ≤ ((ji11) : Int) := of_decide_eq_true (by first | (with_reducible assumption) | assumption)
                            have q234 : (ji11) < (l1.length : Int) := of_decide_eq_true (by first | (with_reducible assumption) | assumption)
                            obtain ⟨ad234, e234, hx234_0⟩ := Kd.at_int HR1.out (ji11) p234 q234
                            obtain rfl : ad232 = ad234 := (by injection e234)
                            replace hx234_0 := (HB.out.cell (World.block_lt_of_cell? w _ hx234_0)).trans hx234_0
                            replace p234 := eq_true p234
                            replace q234 := eq_true q234
                            go_wp2
                            go_meet
                            case rel => exact ⟨_, (true), (by first | rfl | (simp; done) | (simp [*]; done)), H', ⟨by have := HK1.out; first | omega | exact Nat.le_refl _⟩, ⟨by repeat (first | (with_reducible first | exact HB.out | apply below_alloc | apply pw_below_drewN | apply below_drew1) | exact HB.out)⟩⟩
                          · rw [if_neg c14] at H
                            have c14b0 : decide ((rd l1 x20_1) ≤ (rd l1 (ji11))) = false := decide_eq_false c14
                            clear c14
                            by_cases c15 : 0 ≤ (rd l1 x20_1)
                            · rw [if_pos c15] at H
                              have c15b0 : decide (0 ≤ (rd l1 x20_1)) = true := decide_eq_true c15
                              clear c15
                              by_cases c16 : (rd l1 x20_1) < (l0_1.length : Int)
                              · rw [if_pos c16] at H
                                have c16b0 : decide ((rd l1 x20_1) < (l0_1.length : Int)) = true := decide_eq_true c16
                                clear c16
                                by_cases c17 : 0 ≤ ((rd_T30 l0_1 (rd l1 x20_1)).f1)
                                · rw [if_pos c17] at H
                                  have c17b0 := eq_true c17
                                  have c17b1 : decide (0 ≤ ((rd_T30 l0_1 (rd l1 x20_1)).f1)) = true := decide_eq_true c17
                                  clear c17
                                  obtain ⟨ji18, hji18⟩ : ∃ j_ : Int, (shr .i64 x7_1 ((rd_T30 l0_1 (rd l1 x20_1)).f1)) = j_ := ⟨_, rfl⟩
                                  replace H : (branch_town_is.j1 k1 l1 x6_1 x7_1 (rd l1 x20_1) l1 (l1.length : Int) x20_1 ((Go.bits .and .i64 (ji18) 1) == 1) a0_0 l0_1) = some (r1, r2) := by first | (rw [hji18] at H; exact H) | (simp only [hji18] at H ⊢; exact H)
                                  have hji18_ : (x7_1 / 2 ^ min ((rd_T30 l0_1 (rd l1 x20_1)).f1).toNat 64) = ji18 := hji18
                                  have hji18z : ((rd_T30 l0_1 (rd l1 x20_1)).f1) ≤ 64 → (x7_1 / 2 ^ ((rd_T30 l0_1 (rd l1 x20_1)).f1).toNat) = ji18 := shr_small hji18
                                  have H' := Aside0.mk H
                                  clear H
                                  have hx233_0 := blk_cell HP0.out 0
                                  replace hx233_0 := hx233_0.trans rfl
                                  replace hx233_0 := (HB.out.cell (World.block_lt_of_cell? w _ hx233_0)).trans hx233_0
                                  have hx233_1 := blk_cell HP0.out 1
                                  replace hx233_1 := hx233_1.trans rfl
                                  replace hx233_1 := (HB.out.cell (World.block_lt_of_cell? w _ hx233_1)).trans hx233_1
                                  have hx233_2 := blk_cell HP0.out 2
                                  replace hx233_2 := hx233_2.trans rfl
                                  replace hx233_2 := (HB.out.cell (World.block_lt_of_cell? w _ hx233_2)).trans hx233_2
                                  have p234 : 0 ≤ ((ji11) : Int) := of_decide_eq_true (by first | (with_reducible assumption) | assumption)
                                  have q234 : (ji11) < (l1.length : Int) := of_decide_eq_true (by first | (with_reducible assumption) | assumption)
                                  obtain ⟨ad234, e234, hx234_0⟩ := Kd.at_int HR1.out (ji11) p234 q234
                                  obtain rfl : ad232 = ad234 := (by injection e234)
                                  replace hx234_0 := (HB.out.cell (World.block_lt_of_cell? w _ hx234_0)).trans hx234_0
                                  replace p234 := eq_true p234
                                  replace q234 := eq_true q234
                                  have hx235_0 := blk_cell HP0.out 0
                                  replace hx235_0 := hx235_0.trans rfl
                                  replace hx235_0 := (HB.out.cell (World.block_lt_of_cell? w _ hx235_0)).trans hx235_0
                                  have hx235_1 := blk_cell HP0.out 1
                                  replace hx235_1 := hx235_1.trans rfl
                                  replace hx235_1 := (HB.out.cell (World.block_lt_of_cell? w _ hx235_1)).trans hx235_1
                                  have hx235_2 := blk_cell HP0.out 2
                                  replace hx235_2 := hx235_2.trans rfl
                                  replace hx235_2 := (HB.out.cell (World.block_lt_of_cell? w _ hx235_2)).trans hx235_2
                                  have p236 : 0 ≤ ((rd l1 x20_1) : Int) := of_decide_eq_true (by first | (with_reducible assumption) | assumption)
                                  have q236 : (rd l1 x20_1) < (l0_1.length : Int) := of_decide_eq_true (by first | (with_reducible assumption) | assumption)
                                  obtain ⟨ad236, e236, hx236_0, hx236_1, hx236_2⟩ := at_T30 HR0_1.out (rd l1 x20_1) p236 q236
                                  cases e236
                                  replace hx236_0 := (HB.out.cell (World.block_lt_of_cell? w _ hx236_0)).trans hx236_0
                                  replace hx236_1 := (HB.out.cell (World.block_lt_of_cell? w _ hx236_1)).trans hx236_1
                                  replace hx236_2 := (HB.out.cell (World.block_lt_of_cell? w _ hx236_2)).trans hx236_2
                                  replace p236 := eq_true p236
                                  replace q236 := eq_true q236
                                  go_wp2
                                  go_meet
                                  case rel => exact ⟨_, (((Go.bits .and .i64 (ji18) 1) == 1)), (by first | rfl | (simp; done) | (simp only [← hji18] <;> (first | rfl | simp)) | (simp [*]; done)), H', ⟨by have := HK1.out; first | omega | exact Nat.le_refl _⟩, ⟨by repeat (first | (with_reducible first | exact HB.out | apply below_alloc | apply pw_below_drewN | apply below_drew1) | exact HB.out)⟩⟩
                                · rw [if_neg c17] at H
                                  exact absurd H (by simp)
                              · rw [if_neg c16] at H
                                exact absurd H (by simp)
                            · rw [if_neg c15] at H
                              exact absurd H (by simp)
                        · rw [if_neg c13] at H
                          exact absurd H (by simp)
                      · rw [if_neg c12] at H
                        exact absurd H (by simp)
                    · rw [if_neg c10] at H
                      have c10b0 : decide (0 < x20_1) = false := decide_eq_false c10
                      clear c10
                      by_cases c19 : 0 ≤ (rd l1 x20_1)
                      · rw [if_pos c19] at H
                        have c19b0 : decide (0 ≤ (rd l1 x20_1)) = true := decide_eq_true c19
                        clear c19
                        by_cases c20 : (rd l1 x20_1) < (l0_1.length : Int)
                        · rw [if_pos c20] at H
                          have c20b0 : decide ((rd l1 x20_1) < (l0_1.length : Int)) = true := decide_eq_true c20
                          clear c20
                          by_cases c21 : 0 ≤ ((rd_T30 l0_1 (rd l1 x20_1)).f1)
                          · rw [if_pos c21] at H
                            have c21b0 := eq_true c21
                            have c21b1 : decide (0 ≤ ((rd_T30 l0_1 (rd l1 x20_1)).f1)) = true := decide_eq_true c21
                            clear c21
                            obtain ⟨ji22, hji22⟩ : ∃ j_ : Int, (shr .i64 x7_1 ((rd_T30 l0_1 (rd l1 x20_1)).f1)) = j_ := ⟨_, rfl⟩
                            replace H : (branch_town_is.j1 k1 l1 x6_1 x7_1 (rd l1 x20_1) l1 (l1.length : Int) x20_1 ((Go.bits .and .i64 (ji22) 1) == 1) a0_0 l0_1) = some (r1, r2) := by first | (rw [hji22] at H; exact H) | (simp only [hji22] at H ⊢; exact H)
                            have hji22_ : (x7_1 / 2 ^ min ((rd_T30 l0_1 (rd l1 x20_1)).f1).toNat 64) = ji22 := hji22
                            have hji22z : ((rd_T30 l0_1 (rd l1 x20_1)).f1) ≤ 64 → (x7_1 / 2 ^ ((rd_T30 l0_1 (rd l1 x20_1)).f1).toNat) = ji22 := shr_small hji22
                            have H' := Aside0.mk H
                            clear H
                            have hx233_0 := blk_cell HP0.out 0
                            replace hx233_0 := hx233_0.trans rfl
                            replace hx233_0 := (HB.out.cell (World.block_lt_of_cell? w _ hx233_0)).trans hx233_0
                            have hx233_1 := blk_cell HP0.out 1
                            replace hx233_1 := hx233_1.trans rfl
                            replace hx233_1 := (HB.out.cell (World.block_lt_of_cell? w _ hx233_1)).trans hx233_1
                            have hx233_2 := blk_cell HP0.out 2
                            replace hx233_2 := hx233_2.trans rfl
                            replace hx233_2 := (HB.out.cell (World.block_lt_of_cell? w _ hx233_2)).trans hx233_2
                            have hx237_0 := blk_cell HP0.out 0
                            replace hx237_0 := hx237_0.trans rfl
                            replace hx237_0 := (HB.out.cell (World.block_lt_of_cell? w _ hx237_0)).trans hx237_0
                            have hx237_1 := blk_cell HP0.out 1
                            replace hx237_1 := hx237_1.trans rfl
                            replace hx237_1 := (HB.out.cell (World.block_lt_of_cell? w _ hx237_1)).trans hx237_1
                            have hx237_2 := blk_cell HP0.out 2
                            replace hx237_2 := hx237_2.trans rfl
                            replace hx237_2 := (HB.out.cell (World.block_lt_of_cell? w _ hx237_2)).trans hx237_2
                            have p238 : 0 ≤ ((rd l1 x20_1) : Int) := of_decide_eq_true (by first | (with_reducible assumption) | assumption)
                            have q238 : (rd l1 x20_1) < (l0_1.length : Int) := of_decide_eq_true (by first | (with_reducible assumption) | assumption)
                            obtain ⟨ad238, e238, hx238_0, hx238_1, hx238_2⟩ := at_T30 HR0_1.out (rd l1 x20_1) p238 q238
                            cases e238
                            replace hx238_0 := (HB.out.cell (World.block_lt_of_cell? w _ hx238_0)).trans hx238_0
                            replace hx238_1 := (HB.out.cell (World.block_lt_of_cell? w _ hx238_1)).trans hx238_1
                            replace hx238_2 := (HB.out.cell (World.block_lt_of_cell? w _ hx238_2)).trans hx238_2
                            replace p238 := eq_true p238
                            replace q238 := eq_true q238
                            go_wp2
                            go_meet
                            case rel => exact ⟨_, (((Go.bits .and .i64 (ji22) 1) == 1)), (by first | rfl | (simp; done) | (simp only [← hji22] <;> (first | rfl | simp)) | (simp [*]; done)), H', ⟨by have := HK1.out; first | omega | exact Nat.le_refl _⟩, ⟨by repeat (first | (with_reducible first | exact HB.out | apply below_alloc | apply pw_below_drewN | apply below_drew1) | exact HB.out)⟩⟩
                          · rw [if_neg c21] at H
                            exact absurd H (by simp)
                        · rw [if_neg c20] at H
                          exact absurd H (by simp)
                      · rw [if_neg c19] at H
                        exact absurd H (by simp)
              case rest =>
                clear HC7
                try clear c1
                try clear c2
                try clear p2
                try clear q2
                try clear hx2
                try clear c3
                try clear c3b0
                try clear c3b1
                try clear c4
                try clear c4b0
                try clear c5
                try clear c5b0
                try clear c6
                try clear c6b0
                try clear p6
                try clear c8
                try clear c8b0
                try clear c9
                try clear c9b0
                try clear c10
                try clear c10b0
                try clear c12
                try clear c12b0
                try clear c13
                try clear c13b0
                try clear c14
                try clear c14b0
                try clear c15
                try clear c15b0
                try clear c16
                try clear c16b0
                try clear c17
                try clear c17b0
                try clear c17b1
                try clear c19
                try clear c19b0
                try clear c20
                try clear c20b0
                try clear c21
                try clear c21b0
                try clear c21b1
                try clear hx231_0
                try clear hx231_1
                try clear hx231_2
                try clear hx232_0
                try clear hx233_0
                try clear hx233_1
                try clear hx233_2
                try clear hx234_0
                try clear hx235_0
                try clear hx235_1
                try clear hx235_2
                try clear hx236_0
                try clear hx236_1
                try clear hx236_2
                try clear hx237_0
                try clear hx237_1
                try clear hx237_2
                try clear hx238_0
                try clear hx238_1
                try clear hx238_2
                try clear p2
                try clear p232
                try clear p234
                try clear p236
                try clear p238
                try clear q232
                try clear q234
                try clear q236
                try clear q238
                obtain ⟨kq, x62_6, rfl, HA, HJ6, HB⟩ := hcut
                cases kq with
                | zero => exact absurd HA.out (by simp [branch_town_is.j1])
                | succ kj6 =>
                  have H := HA.out
                  clear HA
                  simp only [branch_town_is.j1] at H
                  by_cases c23 : x62_6 = true
                  · subst c23
                    have H1 : (some (0, false)) = some (r1, r2) := by rw [if_pos rfl] at H; exact H
                    clear H
                    have H := H1
                    clear H1
                    simp only [Option.some.injEq, Prod.mk.injEq] at H
                    obtain ⟨rfl, rfl⟩ := H
                    go_wp2
                    go_ret2
                    exact ⟨by first | rfl | (simp [errW_none, errW_some] <;> rfl) | (simp [*, errW_none, errW_some] <;> rfl), by repeat (first | (with_reducible first | exact HB.out | apply below_alloc | apply pw_below_drewN | apply below_drew1) | exact HB.out)⟩
                  · replace c23 := Bool.eq_false_iff.mpr c23
                    subst c23
                    have H1 : (if 0 ≤ (rd l1 x20_1) then (if (rd l1 x20_1) < (l0_1.length : Int) then (if 0 ≤ ((rd_T30 l0_1 (rd l1 x20_1)).f1) then (branch_town_is.l0 kj6 l1 (wrap64 (x6_1 + ((rd_T30 l0_1 (rd l1 x20_1)).f2))) (Go.bits .or .i64 x7_1 (shl .i64 1 ((rd_T30 l0_1 (rd l1 x20_1)).f1))) l1 (l1.length : Int) (wrap64 (x20_1 + 1)) a0_0 l0_1) else (none)) else (none)) else (none)) = some (r1, r2) := by rw [if_neg (show ¬ (false = true) by decide)] at H; exact H
                    clear H
                    have H := H1
                    clear H1
                    by_cases c24 : 0 ≤ (rd l1 x20_1)
                    · rw [if_pos c24] at H
                      have c24b0 : decide (0 ≤ (rd l1 x20_1)) = true := decide_eq_true c24
                      clear c24
                      by_cases c25 : (rd l1 x20_1) < (l0_1.length : Int)
                      · rw [if_pos c25] at H
                        have c25b0 : decide ((rd l1 x20_1) < (l0_1.length : Int)) = true := decide_eq_true c25
                        clear c25
                        by_cases c26 : 0 ≤ ((rd_T30 l0_1 (rd l1 x20_1)).f1)
                        · rw [if_pos c26] at H
                          have c26b0 := eq_true c26
                          have c26b1 : decide (0 ≤ ((rd_T30 l0_1 (rd l1 x20_1)).f1)) = true := decide_eq_true c26
                          clear c26
                          obtain ⟨ji27, hji27⟩ : ∃ j_ : Int, (shl .i64 1 ((rd_T30 l0_1 (rd l1 x20_1)).f1)) = j_ := ⟨_, rfl⟩
                          replace H : (branch_town_is.l0 kj6 l1 (wrap64 (x6_1 + ((rd_T30 l0_1 (rd l1 x20_1)).f2))) (Go.bits .or .i64 x7_1 (ji27)) l1 (l1.length : Int) (wrap64 (x20_1 + 1)) a0_0 l0_1) = some (r1, r2) := by first | (rw [hji27] at H; exact H) | (simp only [hji27] at H ⊢; exact H)
                          have hji27_ : (IntKind.i64.wrap (1 * 2 ^ min ((rd_T30 l0_1 (rd l1 x20_1)).f1).toNat 64)) = ji27 := hji27
                          have hji27z : ((rd_T30 l0_1 (rd l1 x20_1)).f1) ≤ 64 → (IntKind.i64.wrap (1 * 2 ^ ((rd_T30 l0_1 (rd l1 x20_1)).f1).toNat)) = ji27 := shl_small hji27
                          have hji27u : (IntKind.i64.wrap (2 ^ min ((rd_T30 l0_1 (rd l1 x20_1)).f1).toNat 64)) = ji27 := by have h_ := hji27_; rw [Int.one_mul] at h_; exact h_
                          have hji27v : ((rd_T30 l0_1 (rd l1 x20_1)).f1) ≤ 64 → (IntKind.i64.wrap (2 ^ ((rd_T30 l0_1 (rd l1 x20_1)).f1).toNat)) = ji27 := fun hle_ => by have h_ := hji27z hle_; rw [Int.one_mul] at h_; exact h_
                          have hji27y : (wrap64 (1 * 2 ^ min ((rd_T30 l0_1 (rd l1 x20_1)).f1).toNat 64)) = ji27 := (i64_w _).symm.trans hji27_
                          have hji27x : ((rd_T30 l0_1 (rd l1 x20_1)).f1) ≤ 64 → (wrap64 (1 * 2 ^ ((rd_T30 l0_1 (rd l1 x20_1)).f1).toNat)) = ji27 := fun h_ => (i64_w _).symm.trans (hji27z h_)
                          have H' := Aside0.mk H
                          clear H
                          have hx239_0 := blk_cell HP0.out 0
                          replace hx239_0 := hx239_0.trans rfl
                          replace hx239_0 := (HB.out.cell (World.block_lt_of_cell? w _ hx239_0)).trans hx239_0
                          have hx239_1 := blk_cell HP0.out 1
                          replace hx239_1 := hx239_1.trans rfl
                          replace hx239_1 := (HB.out.cell (World.block_lt_of_cell? w _ hx239_1)).trans hx239_1
                          have hx239_2 := blk_cell HP0.out 2
                          replace hx239_2 := hx239_2.trans rfl
                          replace hx239_2 := (HB.out.cell (World.block_lt_of_cell? w _ hx239_2)).trans hx239_2
                          have p240 : 0 ≤ ((rd l1 x20_1) : Int) := of_decide_eq_true (by first | (with_reducible assumption) | assumption)
                          have q240 : (rd l1 x20_1) < (l0_1.length : Int) := of_decide_eq_true (by first | (with_reducible assumption) | assumption)
                          obtain ⟨ad240, e240, hx240_0, hx240_1, hx240_2⟩ := at_T30 HR0_1.out (rd l1 x20_1) p240 q240
                          cases e240
                          replace hx240_0 := (HB.out.cell (World.block_lt_of_cell? w _ hx240_0)).trans hx240_0
                          replace hx240_1 := (HB.out.cell (World.block_lt_of_cell? w _ hx240_1)).trans hx240_1
                          replace hx240_2 := (HB.out.cell (World.block_lt_of_cell? w _ hx240_2)).trans hx240_2
                          replace p240 := eq_true p240
                          replace q240 := eq_true q240
                          have hx241_0 := blk_cell HP0.out 0
                          replace hx241_0 := hx241_0.trans rfl
                          replace hx241_0 := (HB.out.cell (World.block_lt_of_cell? w _ hx241_0)).trans hx241_0
                          have hx241_1 := blk_cell HP0.out 1
                          replace hx241_1 := hx241_1.trans rfl
                          replace hx241_1 := (HB.out.cell (World.block_lt_of_cell? w _ hx241_1)).trans hx241_1
                          have hx241_2 := blk_cell HP0.out 2
                          replace hx241_2 := hx241_2.trans rfl
                          replace hx241_2 := (HB.out.cell (World.block_lt_of_cell? w _ hx241_2)).trans hx241_2
                          have p242 : 0 ≤ ((rd l1 x20_1) : Int) := of_decide_eq_true (by first | (with_reducible assumption) | assumption)
                          have q242 : (rd l1 x20_1) < (l0_1.length : Int) := of_decide_eq_true (by first | (with_reducible assumption) | assumption)
                          obtain ⟨ad242, e242, hx242_0, hx242_1, hx242_2⟩ := at_T30 HR0_1.out (rd l1 x20_1) p242 q242
                          obtain rfl : ad240 = ad242 := (by injection e242)
                          replace hx242_0 := (HB.out.cell (World.block_lt_of_cell? w _ hx242_0)).trans hx242_0
                          replace hx242_1 := (HB.out.cell (World.block_lt_of_cell? w _ hx242_1)).trans hx242_1
                          replace hx242_2 := (HB.out.cell (World.block_lt_of_cell? w _ hx242_2)).trans hx242_2
                          replace p242 := eq_true p242
                          replace q242 := eq_true q242
                          go_wp2
                          go_roundg kj6
                          case measure => have := HK1.out; have := HJ6.out; omega
                          case rel => exact ⟨(wrap64 (x6_1 + ((rd_T30 l0_1 (rd l1 x20_1)).f2))), (Go.bits .or .i64 x7_1 (ji27)), (wrap64 (x20_1 + 1)), (by first | rfl | (simp; done) | (simp [*]; done)), (by first | rfl | (simp; done) | (simp only [← hji27] <;> (first | rfl | simp)) | (simp [*]; done)), (by first | rfl | (simp; done) | (simp [*]; done)), H', ⟨by have := HK1.out; have := HJ6.out; omega⟩, ⟨by repeat (first | (with_reducible first | exact HB.out | apply below_alloc | apply pw_below_drewN | apply below_drew1) | exact HB.out)⟩⟩
                        · rw [if_neg c26] at H
                          exact absurd H (by simp)
                      · rw [if_neg c25] at H
                        exact absurd H (by simp)
                    · rw [if_neg c24] at H
                      exact absurd H (by simp)
            · rw [if_neg c6] at H
              exact absurd H (by simp)
          · rw [if_neg c5] at H
            exact absurd H (by simp)
        · rw [if_neg c4] at H
          have c4b0 : decide (x20_1 < (l1.length : Int)) = false := decide_eq_false c4
          clear c4
          replace H := Option.bind_eq_some_iff.mp H
          obtain ⟨t243, A280, H⟩ := H
          replace H : ((branch_town_everybody.f a0_0 l0_1).bind fun t244 => (if t243 = t244 then (some (x6_1, true)) else (some (0, false)))) = some (r1, r2) := H
          have A28 := Aside0.mk A280
          clear A280
          replace H := Option.bind_eq_some_iff.mp H
          obtain ⟨t244, A290, H⟩ := H
          replace H : (if t243 = t244 then (some (x6_1, true)) else (some (0, false))) = some (r1, r2) := H
          have A29 := Aside0.mk A290
          clear A290
          by_cases c30 : t243 = t244
          · rw [if_pos c30] at H
            have c30b0 : (t243 == t244) = true := beq_iff_eq.mpr c30
            have c30b1 : (t243 != t244) = false := bne_eq_false_iff_eq.mpr c30
            clear c30
            simp only [Option.some.injEq, Prod.mk.injEq] at H
            obtain ⟨rfl, rfl⟩ := H
            go_wp2_with (first | ((with_reducible refine gate_callee (f := 54) rfl ?_); refine goesL_ (some 87) rfl rfl Try.func54 (by kernel_rfl) rfl #[.pointer (some ⟨g0, 0, none⟩), .slice A1 l1.length c1] rfl (by (try simp only [List.map_toArray, List.map_cons, List.map_nil]); first | done | rfl | (simp only [List.length_drop, List.length_take]; rfl)) ?_; (with_reducible refine (branch_town_reach.calls k1 g0 a0_0 A0_1 c0_1 l0_1 a0_2 _ _ l1 t243 _ ?side1 ?side2 ?side3 ?side4 ?side5 A28.out).mono ?_); (case side1 => exact ((show Below _ _ _ from by repeat (first | (with_reducible first | exact HB.out | apply below_alloc | apply pw_below_drewN | apply below_drew1) | exact HB.out)).block _ (blk_lt HP0.out)).trans HP0.out); (case side2 => repeat (first | exact (Kd.C_below HR0_1.out HB.out) | (with_reducible refine Kd.C_alloc ?_ _) | (with_reducible refine Kd.C_drewN ?_ _) | (with_reducible refine Kd.C_drew ?_))); (case side3 => exact HC0_1.out); (case side4 => repeat (first | exact (Kd.C_below HR1.out HB.out) | (with_reducible refine Kd.C_alloc ?_ _) | (with_reducible refine Kd.C_drewN ?_ _) | (with_reducible refine Kd.C_drew ?_))); (case side5 => exact HC1.out); rintro e w31 ⟨rfl, hb⟩; refine ⟨_, rfl, ?_⟩; have n0_ := Aside0.mk (below_step (by repeat (first | (with_reducible first | exact HB.out | apply below_alloc | apply pw_below_drewN | apply below_drew1) | exact HB.out)) hb); clear HB; have HB := n0_; clear n0_; (try clear hb); (try clear hb2); (try clear hk); (try clear hi)) | ((with_reducible refine gate_callee (f := 74) rfl ?_); refine goesL_ (some 89) rfl rfl Try.func74 (by kernel_rfl) rfl #[.pointer (some ⟨g0, 0, none⟩)] rfl (by (try simp only [List.map_toArray, List.map_cons, List.map_nil]); first | done | rfl | (simp only [List.length_drop, List.length_take]; rfl)) ?_; (with_reducible refine (branch_town_everybody.calls g0 a0_0 A0_1 c0_1 l0_1 a0_2 t244 _ ?side1 ?side2 ?side3 A29.out).mono ?_); (case side1 => exact ((show Below _ _ _ from by repeat (first | (with_reducible first | exact HB.out | apply below_alloc | apply pw_below_drewN | apply below_drew1) | exact HB.out)).block _ (blk_lt HP0.out)).trans HP0.out); (case side2 => repeat (first | exact (Kd.C_below HR0_1.out HB.out) | (with_reducible refine Kd.C_alloc ?_ _) | (with_reducible refine Kd.C_drewN ?_ _) | (with_reducible refine Kd.C_drew ?_))); (case side3 => exact HC0_1.out); rintro e w' ⟨rfl, ⟨nd, rfl⟩⟩; refine ⟨_, rfl, ?_⟩))
            go_ret2
            exact ⟨by first | rfl | (simp [errW_none, errW_some] <;> rfl) | (simp [*, errW_none, errW_some] <;> rfl), by repeat (first | (with_reducible first | exact HB.out | apply below_alloc | apply pw_below_drewN | apply below_drew1) | exact HB.out)⟩
          · rw [if_neg c30] at H
            have c30b0 : (t243 == t244) = false := beq_eq_false_iff_ne.mpr c30
            have c30b1 : (t243 != t244) = true := bne_iff_ne.mpr c30
            simp only [Option.some.injEq, Prod.mk.injEq] at H
            obtain ⟨rfl, rfl⟩ := H
            go_wp2_with (first | ((with_reducible refine gate_callee (f := 54) rfl ?_); refine goesL_ (some 87) rfl rfl Try.func54 (by kernel_rfl) rfl #[.pointer (some ⟨g0, 0, none⟩), .slice A1 l1.length c1] rfl (by (try simp only [List.map_toArray, List.map_cons, List.map_nil]); first | done | rfl | (simp only [List.length_drop, List.length_take]; rfl)) ?_; (with_reducible refine (branch_town_reach.calls k1 g0 a0_0 A0_1 c0_1 l0_1 a0_2 _ _ l1 t243 _ ?side1 ?side2 ?side3 ?side4 ?side5 A28.out).mono ?_); (case side1 => exact ((show Below _ _ _ from by repeat (first | (with_reducible first | exact HB.out | apply below_alloc | apply pw_below_drewN | apply below_drew1) | exact HB.out)).block _ (blk_lt HP0.out)).trans HP0.out); (case side2 => repeat (first | exact (Kd.C_below HR0_1.out HB.out) | (with_reducible refine Kd.C_alloc ?_ _) | (with_reducible refine Kd.C_drewN ?_ _) | (with_reducible refine Kd.C_drew ?_))); (case side3 => exact HC0_1.out); (case side4 => repeat (first | exact (Kd.C_below HR1.out HB.out) | (with_reducible refine Kd.C_alloc ?_ _) | (with_reducible refine Kd.C_drewN ?_ _) | (with_reducible refine Kd.C_drew ?_))); (case side5 => exact HC1.out); rintro e w32 ⟨rfl, hb⟩; refine ⟨_, rfl, ?_⟩; have n0_ := Aside0.mk (below_step (by repeat (first | (with_reducible first | exact HB.out | apply below_alloc | apply pw_below_drewN | apply below_drew1) | exact HB.out)) hb); clear HB; have HB := n0_; clear n0_; (try clear hb); (try clear hb2); (try clear hk); (try clear hi)) | ((with_reducible refine gate_callee (f := 74) rfl ?_); refine goesL_ (some 89) rfl rfl Try.func74 (by kernel_rfl) rfl #[.pointer (some ⟨g0, 0, none⟩)] rfl (by (try simp only [List.map_toArray, List.map_cons, List.map_nil]); first | done | rfl | (simp only [List.length_drop, List.length_take]; rfl)) ?_; (with_reducible refine (branch_town_everybody.calls g0 a0_0 A0_1 c0_1 l0_1 a0_2 t244 _ ?side1 ?side2 ?side3 A29.out).mono ?_); (case side1 => exact ((show Below _ _ _ from by repeat (first | (with_reducible first | exact HB.out | apply below_alloc | apply pw_below_drewN | apply below_drew1) | exact HB.out)).block _ (blk_lt HP0.out)).trans HP0.out); (case side2 => repeat (first | exact (Kd.C_below HR0_1.out HB.out) | (with_reducible refine Kd.C_alloc ?_ _) | (with_reducible refine Kd.C_drewN ?_ _) | (with_reducible refine Kd.C_drew ?_))); (case side3 => exact HC0_1.out); rintro e w' ⟨rfl, ⟨nd, rfl⟩⟩; refine ⟨_, rfl, ?_⟩))
            go_ret2
            exact ⟨by first | rfl | (simp [errW_none, errW_some] <;> rfl) | (simp [*, errW_none, errW_some] <;> rfl), by repeat (first | (with_reducible first | exact HB.out | apply below_alloc | apply pw_below_drewN | apply below_drew1) | exact HB.out)⟩
  · rw [if_neg c3] at H
    have c3b0 : ((l1.length : Int) == (wrap64 (a0_0 - 1))) = false := beq_eq_false_iff_ne.mpr c3
    have c3b1 : ((l1.length : Int) != (wrap64 (a0_0 - 1))) = true := bne_iff_ne.mpr c3
    simp only [Option.some.injEq, Prod.mk.injEq] at H
    obtain ⟨rfl, rfl⟩ := H
    have hx231_0 := blk_cell HP0.out 0
    replace hx231_0 := hx231_0.trans rfl
    have hx231_1 := blk_cell HP0.out 1
    replace hx231_1 := hx231_1.trans rfl
    have hx231_2 := blk_cell HP0.out 2
    replace hx231_2 := hx231_2.trans rfl
    go_enter Try.func61, Try.ntmps61
    go_wp2
    go_ret2
    exact ⟨by first | rfl | (simp [errW_none, errW_some] <;> rfl) | (simp [*, errW_none, errW_some] <;> rfl), by repeat (first | (with_reducible first | exact HB.out | apply below_alloc | apply pw_below_drewN | apply below_drew1) | exact HB.out)⟩
def branch_town_isSet.f (a0_0 : Int) (l0_1 : List (S30)) (a1 : Int) : Option (Bool) := if a1 > 0 then ((branch_town_everybody.f a0_0 l0_1).bind fun t245 => (if a1 ≤ t245 then (some ((Go.bits .and .i64 a1 1) == 0)) else (some false))) else (some false)
set_option maxHeartbeats 8000000 in
set_option maxRecDepth 100000 in
theorem branch_town_isSet.calls (g0 : Nat) (a0_0 : Int) (A0_1 : Option Addr) (c0_1 : Nat) (l0_1 : List (S30)) (a0_2 : Option Nat) (a1 : Int) (r : Bool) (w : World) (hP0 : w.heap[g0]? = some (.cells #[.int .i64 a0_0, .slice A0_1 l0_1.length c0_1, .map a0_2] 70 (0, 0))) (hr0_1 : Kd.C k30 w A0_1 l0_1.length l0_1) (hc0_1 : l0_1.length ≤ c0_1) (h : branch_town_isSet.f a0_0 l0_1 a1 = some r) :
    Calls Try.prog 58 #[.pointer (some ⟨g0, 0, none⟩), .int .i64 a1] w fun e w' => e = .returned (.bool r) ∧ Drawn0 w w' := by
  have HP0 := Aside0.mk hP0
  clear hP0
  have HR0_1 := Aside0.mk hr0_1
  have HC0_1 := Aside0.mk hc0_1
  clear hr0_1 hc0_1
  have H : (if a1 > 0 then ((branch_town_everybody.f a0_0 l0_1).bind fun t245 => (if a1 ≤ t245 then (some ((Go.bits .and .i64 a1 1) == 0)) else (some false))) else (some false)) = some r := h
  clear h
  by_cases c3 : a1 > 0
  · rw [if_pos c3] at H
    have c3b0 : decide (0 < a1) = true := decide_eq_true c3
    clear c3
    replace H := Option.bind_eq_some_iff.mp H
    obtain ⟨t245, A40, H⟩ := H
    replace H : (if a1 ≤ t245 then (some ((Go.bits .and .i64 a1 1) == 0)) else (some false)) = some r := H
    have A4 := Aside0.mk A40
    clear A40
    by_cases c5 : a1 ≤ t245
    · rw [if_pos c5] at H
      have c5b0 : decide (a1 ≤ t245) = true := decide_eq_true c5
      clear c5
      obtain rfl := Option.some.inj H
      go_enter Try.func58, Try.ntmps58
      go_wp2_with (first | (go_at_call 74; (with_reducible refine (branch_town_everybody.calls g0 a0_0 A0_1 c0_1 l0_1 a0_2 t245 _ ?side1 ?side2 ?side3 A4.out).mono ?_); (case side1 => exact HP0.out); (case side2 => repeat (first | exact HR0_1.out | (with_reducible refine Kd.C_alloc ?_ _) | (with_reducible refine Kd.C_drewN ?_ _) | (with_reducible refine Kd.C_drew ?_))); (case side3 => exact HC0_1.out); rintro e w' ⟨rfl, ⟨nd, rfl⟩⟩))
      go_ret
      exact ⟨by first | rfl | (simp; done) | (simp [*]; done), by repeat (first | exact Drawn0.refl _ | apply Drawn0.step)⟩
    · rw [if_neg c5] at H
      have c5b0 : decide (a1 ≤ t245) = false := decide_eq_false c5
      clear c5
      obtain rfl := Option.some.inj H
      go_enter Try.func58, Try.ntmps58
      go_wp2_with (first | (go_at_call 74; (with_reducible refine (branch_town_everybody.calls g0 a0_0 A0_1 c0_1 l0_1 a0_2 t245 _ ?side1 ?side2 ?side3 A4.out).mono ?_); (case side1 => exact HP0.out); (case side2 => repeat (first | exact HR0_1.out | (with_reducible refine Kd.C_alloc ?_ _) | (with_reducible refine Kd.C_drewN ?_ _) | (with_reducible refine Kd.C_drew ?_))); (case side3 => exact HC0_1.out); rintro e w' ⟨rfl, ⟨nd, rfl⟩⟩))
      go_ret
      exact ⟨by first | rfl | (simp; done) | (simp [*]; done), by repeat (first | exact Drawn0.refl _ | apply Drawn0.step)⟩
  · rw [if_neg c3] at H
    have c3b0 : decide (0 < a1) = false := decide_eq_false c3
    clear c3
    obtain rfl := Option.some.inj H
    go_enter Try.func58, Try.ntmps58
    go_wp2
    go_ret
    exact ⟨by first | rfl | (simp; done) | (simp [*]; done), by repeat (first | exact Drawn0.refl _ | apply Drawn0.step)⟩
end Go.Proofs.Ytpmadffgdfholaa.B
namespace Go.Proofs.Ytpmadffgdfholaa.B
open Go.RowKit Go.MapKept Go.Proofs.YtpmadffgdfholaaW.PrintWords Go.Proofs.YtpmadffgdfholaaW.PrintLast Go.Proofs.YtpmadffgdfholaaW.PrintMore
/-- Entries whose keys are whole numbers, each once, with stamps of their own. -/
structure Good (es : Array MapEntry) (clock : Nat) : Prop where
  keys : ∀ e ∈ es.toList, ∃ i, e.key = .int .i64 i
  once : (es.toList.map (·.key)).Nodup
  born : (es.toList.map (·.born)).Nodup
  old : ∀ e ∈ es.toList, e.born < clock
theorem Good.isKey {es : Array MapEntry} {clock : Nat} (h : Good es clock) : ∀ x ∈ es.toList, IsKey (.int .i64) x.key := by
  intro x hx
  obtain ⟨i, hi⟩ := h.keys x hx
  rw [hi]; exact rfl
theorem Good.empty (clock : Nat) : Good #[] clock := ⟨by simp, by simp, by simp, by simp⟩
theorem Good.push {es : Array MapEntry} {clock : Nat} (h : Good es clock) (i : Int) (v : Value) (hn : ∀ e ∈ es.toList, e.key ≠ .int .i64 i) : Good (es.push { key := .int .i64 i, val := v, born := clock }) (clock + 1) := by
  refine ⟨?_, ?_, ?_, ?_⟩
  · intro e he
    simp only [Array.toList_push, List.mem_append, List.mem_singleton] at he
    rcases he with he | rfl
    · exact h.keys e he
    · exact ⟨i, rfl⟩
  · simp only [Array.toList_push, List.map_append, List.map_cons, List.map_nil]
    rw [List.nodup_append]
    refine ⟨h.once, by simp, ?_⟩
    intro a ha b hb
    simp only [List.mem_singleton] at hb
    subst hb
    obtain ⟨e, he, rfl⟩ := List.mem_map.1 ha
    exact hn e he
  · simp only [Array.toList_push, List.map_append, List.map_cons, List.map_nil]
    rw [List.nodup_append]
    refine ⟨h.born, by simp, ?_⟩
    intro a ha b hb
    simp only [List.mem_singleton] at hb
    subst hb
    obtain ⟨e, he, rfl⟩ := List.mem_map.1 ha
    have := h.old e he
    omega
  · intro e he
    simp only [Array.toList_push, List.mem_append, List.mem_singleton] at he
    rcases he with he | rfl
    · exact Nat.lt_succ_of_lt (h.old e he)
    · exact Nat.lt_succ_self _
theorem modify_toList (es : Array MapEntry) (j : Nat) (k v : Value) : (es.modify j fun e => { e with key := k, val := v }).toList = es.toList.modify j (fun e => { e with key := k, val := v }) := by simp
theorem map_modify_id {β : Type} (g : MapEntry → β) (f : MapEntry → MapEntry) (l : List MapEntry) (j : Nat) (h : ∀ e, l[j]? = some e → g (f e) = g e) : (l.modify j f).map g = l.map g := by
  apply List.ext_getElem?
  intro q
  simp only [List.getElem?_map, List.getElem?_modify]
  by_cases hq : j = q
  · subst hq
    cases e : l[j]? with
    | none => simp
    | some x => simp [h x e]
  · simp [hq]
theorem Good.modify {es : Array MapEntry} {clock : Nat} (h : Good es clock) (i : Int) (v : Value) (j : Nat) (hj : ∀ e, es.toList[j]? = some e → e.key = .int .i64 i) : Good (es.modify j fun e => { e with key := .int .i64 i, val := v }) clock := by
  have hk : (es.toList.modify j fun e => { e with key := .int .i64 i, val := v }).map (·.key) = es.toList.map (·.key) := map_modify_id _ _ _ _ fun e he => (hj e he).symm
  have hb : (es.toList.modify j fun e => { e with key := .int .i64 i, val := v }).map (·.born) = es.toList.map (·.born) := map_modify_id _ _ _ _ fun e he => rfl
  refine ⟨?_, ?_, ?_, ?_⟩
  · intro e he
    rw [modify_toList] at he
    have : e.key ∈ es.toList.map (·.key) := hk ▸ List.mem_map_of_mem he
    obtain ⟨x, hx, ex⟩ := List.mem_map.1 this
    obtain ⟨q, hq⟩ := h.keys x hx
    exact ⟨q, by rw [← ex, hq]⟩
  · rw [modify_toList, hk]; exact h.once
  · rw [modify_toList, hb]; exact h.born
  · intro e he
    rw [modify_toList] at he
    have : e.born ∈ es.toList.map (·.born) := hb ▸ List.mem_map_of_mem he
    obtain ⟨x, hx, ex⟩ := List.mem_map.1 this
    rw [← ex]; exact h.old x hx
section
variable {P : Program} {w : World} {m mt kt et : Nat} {es : Array MapEntry} {clock : Nat}
theorem run_lookup_in (ht : P.underlying mt = some (.map kt et)) (hk : P.underlying kt = some (.int .i64)) (hb : w.heap[m]? = some (.map es clock)) (hg : Good es clock) (i : Int) {e : MapEntry} (he : e ∈ es.toList) (hi : e.key = .int .i64 i) :
    (Instr.lookup mt (.map (some m)) (.int .i64 i) false).run P w = .ok e.val w := by
  rcases findNow_spec (d := .int .i64) (k := .int .i64 i) rfl es.toList 0 hg.isKey with ⟨_, h2⟩ | ⟨j, e', h1, h2, h3⟩
  · exact absurd hi (h2 e he)
  · have hee : e' = e := by
      have hm := List.mem_of_getElem? h2
      have := hg.once
      have inj : ∀ {l : List MapEntry}, (l.map (·.key)).Nodup → ∀ a ∈ l, ∀ b ∈ l, a.key = b.key → a = b := by
        intro l hl
        induction l with
        | nil => intro a ha; cases ha
        | cons x l ih =>
          simp only [List.map_cons, List.nodup_cons] at hl
          intro a ha b hb hab
          rcases List.mem_cons.1 ha with ea | ha <;> rcases List.mem_cons.1 hb with eb | hb
          · rw [ea, eb]
          · exact absurd (List.mem_map.2 ⟨b, hb, by rw [← hab, ea]⟩) hl.1
          · exact absurd (List.mem_map.2 ⟨a, ha, by rw [hab, eb]⟩) hl.1
          · exact ih hl.2 a ha b hb hab
      exact inj hg.once _ hm _ he (h3.trans hi.symm)
    subst hee
    simp only [Nat.zero_add] at h1
    simp [Instr.lookup, run_underlying ht, Result.andThen, MapKept.run_getObj_map hb, run_checkKey (e := es.isEmpty) (n := 9999) hk (show IsKey (.int .i64) (.int .i64 i) from rfl), run_findKey hk h1]
theorem run_lookup_out (ht : P.underlying mt = some (.map kt et)) (hk : P.underlying kt = some (.int .i64)) (hb : w.heap[m]? = some (.map es clock)) (hg : Good es clock) (i : Int) (hn : ∀ e ∈ es.toList, e.key ≠ .int .i64 i) {z : Value} (hz : (zeroValue et).run P w = .ok z w) :
    (Instr.lookup mt (.map (some m)) (.int .i64 i) false).run P w = .ok z w := by
  rcases findNow_spec (d := .int .i64) (k := .int .i64 i) rfl es.toList 0 hg.isKey with ⟨h1, _⟩ | ⟨j, e', _, h2, h3⟩
  · simp [Instr.lookup, run_underlying ht, Result.andThen, MapKept.run_getObj_map hb, run_checkKey (e := es.isEmpty) (n := 9999) hk (show IsKey (.int .i64) (.int .i64 i) from rfl), run_findKey hk h1, hz]
  · exact absurd h3 (hn e' (List.mem_of_getElem? h2))
theorem run_lookup_nil (ht : P.underlying mt = some (.map kt et)) (hk : P.underlying kt = some (.int .i64)) (i : Int) {z : Value} (hz : (zeroValue et).run P w = .ok z w) :
    (Instr.lookup mt (.map none) (.int .i64 i) false).run P w = .ok z w := by
  have h1 : Instr.findNow (.int .i64) (.int .i64 i) [] 0 = some none := rfl
  simp [Instr.lookup, run_underlying ht, Result.andThen, run_checkKey (e := true) (n := 9999) hk (show IsKey (.int .i64) (.int .i64 i) from rfl), run_findKey hk h1, hz]
/-- A store into a map: what its entries are behind it. -/
theorem run_update (ht : P.underlying mt = some (.map kt et)) (hk : P.underlying kt = some (.int .i64)) (hb : w.heap[m]? = some (.map es clock)) (hg : Good es clock) (i : Int) (v : Value) :
    ∃ es' clock', (Instr.mapUpdate mt (.map (some m)) (.int .i64 i) v).run P w = .ok () { w with heap := w.heap.setIfInBounds m (.map es' clock') } ∧ Good es' clock' ∧
      (∃ e ∈ es'.toList, e.key = .int .i64 i ∧ e.val = v) ∧ (∀ e ∈ es'.toList, e.key ≠ .int .i64 i → ∃ e0 ∈ es.toList, e0.key = e.key ∧ e0.val = e.val) ∧ (∀ e ∈ es.toList, e.key ≠ .int .i64 i → ∃ e0 ∈ es'.toList, e0.key = e.key ∧ e0.val = e.val) ∧ (∀ e ∈ es'.toList, e.key = .int .i64 i → e.val = v) := by
  rcases findNow_spec (d := .int .i64) (k := .int .i64 i) rfl es.toList 0 hg.isKey with ⟨h1, h2⟩ | ⟨j, e', h1, h2, h3⟩
  · refine ⟨es.push { key := .int .i64 i, val := v, born := clock }, clock + 1, ?_, hg.push i v h2, ⟨{ key := .int .i64 i, val := v, born := clock }, by simp, rfl, rfl⟩, ?_, ?_, ?_⟩
    · simp [Instr.mapUpdate, run_underlying ht, Result.andThen, MapKept.run_getObj_map hb, run_checkKey (e := false) (n := 9999) hk (show IsKey (.int .i64) (.int .i64 i) from rfl), run_findKey hk h1, MapKept.run_setObj_map _ hb]
    · intro e he hne
      simp only [Array.toList_push, List.mem_append, List.mem_singleton] at he
      rcases he with he | rfl
      · exact ⟨e, he, rfl, rfl⟩
      · exact absurd rfl hne
    · intro e he hne
      exact ⟨e, by simp; exact .inl (by simpa using he), rfl, rfl⟩
    · intro e he heq
      simp only [Array.toList_push, List.mem_append, List.mem_singleton] at he
      rcases he with he | rfl
      · exact absurd heq (h2 e he)
      · rfl
  · simp only [Nat.zero_add] at h1
    have hj : ∀ e, es.toList[j]? = some e → e.key = .int .i64 i := fun e he => by rw [h2] at he; injection he with he; rw [← he]; exact h3
    have hsame : Instr.sameBits 10000 (((es[j]?).map (·.key)).getD (.int .i64 i)) (.int .i64 i) = true := by
      have : es[j]? = some e' := by simpa using h2
      rw [this]
      simp [h3, Instr.sameBits]
    have hget : ∀ q, (es.toList.modify j fun e => { e with key := .int .i64 i, val := v })[q]? = if j = q then (es.toList[q]?).map (fun e => { e with key := .int .i64 i, val := v }) else es.toList[q]? := by
      intro q; rw [List.getElem?_modify]; split <;> simp
    refine ⟨es.modify j fun e => { e with key := .int .i64 i, val := v }, clock, ?_, hg.modify i v j hj, ?_, ?_, ?_, ?_⟩
    · simp [Instr.mapUpdate, run_underlying ht, Result.andThen, MapKept.run_getObj_map hb, run_checkKey (e := false) (n := 9999) hk (show IsKey (.int .i64) (.int .i64 i) from rfl), run_findKey hk h1, Instr.keyThatStays, hsame, MapKept.run_setObj_map _ hb]
    · refine ⟨{ e' with key := .int .i64 i, val := v }, ?_, rfl, rfl⟩
      rw [modify_toList]
      exact List.mem_of_getElem? (i := j) (by rw [hget, if_pos rfl, h2]; rfl)
    · intro e he hne
      rw [modify_toList] at he
      obtain ⟨q, hq⟩ := List.getElem?_of_mem he
      rw [hget] at hq
      split at hq
      · rename_i hjq
        subst hjq
        rw [h2] at hq
        injection hq with hq
        exact absurd (by rw [← hq]) hne
      · exact ⟨e, List.mem_of_getElem? hq, rfl, rfl⟩
    · intro e he hne
      obtain ⟨q, hq⟩ := List.getElem?_of_mem he
      have hjq : j ≠ q := fun h => hne (hj e (h ▸ hq))
      refine ⟨e, ?_, rfl, rfl⟩
      rw [modify_toList]
      exact List.mem_of_getElem? (i := q) (by rw [hget, if_neg hjq]; exact hq)
    · intro e he heq
      rw [modify_toList] at he
      obtain ⟨q, hq⟩ := List.getElem?_of_mem he
      rw [hget] at hq
      split at hq
      · rename_i hjq
        subst hjq
        rw [h2] at hq
        injection hq with hq
        rw [← hq]
      · rename_i hjq
        exfalso
        have hn := hg.once
        have hq1 : (es.toList.map (·.key))[q]? = some (.int .i64 i) := by rw [List.getElem?_map, hq]; simp [heq]
        have hq2 : (es.toList.map (·.key))[j]? = some (.int .i64 i) := by rw [List.getElem?_map, h2]; simp [h3]
        obtain ⟨l2, e2⟩ := List.getElem?_eq_some_iff.1 hq2
        exact hjq ((List.getElem?_inj l2 hn).1 (hq2.trans hq1.symm))
end
/-- Block m is a map whose keys are those at which g is true, and whose elements are all true. -/
def SetM (w : World) (m : Nat) (g : Int → Bool) : Prop :=
  ∃ es clock, w.heap[m]? = some (.map es clock) ∧ Good es clock ∧ (∀ e ∈ es.toList, e.val = .bool true) ∧ ∀ i, g i = true ↔ ∃ e ∈ es.toList, e.key = .int .i64 i
theorem SetM.lt {w : World} {m : Nat} {g : Int → Bool} (h : SetM w m g) : m < w.heap.size := by
  obtain ⟨es, clock, hb, _⟩ := h
  exact blk_lt hb
theorem SetM.of_block {w w1 : World} {m : Nat} {g : Int → Bool} (h : SetM w m g) (hm : w1.heap[m]? = w.heap[m]?) : SetM w1 m g := by
  obtain ⟨es, clock, hb, r⟩ := h
  exact ⟨es, clock, hm.trans hb, r⟩
theorem SetM.below {w w1 : World} {m : Nat} {g : Int → Bool} (h : SetM w m g) (hb : Below w.heap.size w w1) : SetM w1 m g := h.of_block (hb.block m h.lt)
theorem SetM.far {w : World} {m : Nat} {g : Int → Bool} (h : SetM w m g) {p : Addr} (hne : m ≠ p.block) (u : Value) : SetM (w.setCell p u) m g := h.of_block (Below.heap_setCell w p u m hne)
/-- What is no row of cells is no map. -/
theorem SetM.ne_cells {w : World} {m a : Nat} {g : Int → Bool} {cs : Array Value} {t : TypeId} {fr : Nat × Nat} (h : SetM w m g) (hb : w.heap[a]? = some (.cells cs t fr)) : m ≠ a := by
  rintro rfl
  obtain ⟨es, clock, hb2, _⟩ := h
  rw [hb] at hb2; injection hb2 with hb2; cases hb2
section
variable {P : Program} {w : World} {m mt kt et : Nat} {g : Int → Bool}
theorem SetM.lookup (h : SetM w m g) (ht : P.underlying mt = some (.map kt et)) (hk : P.underlying kt = some (.int .i64)) (i : Int) (hz : (zeroValue et).run P w = .ok (.bool false) w) :
    (Instr.lookup mt (.map (some m)) (.int .i64 i) false).run P w = .ok (.bool (g i)) w := by
  obtain ⟨es, clock, hb, hg, hv, hi⟩ := h
  cases hgi : g i with
  | true =>
    obtain ⟨e, he, hk2⟩ := (hi i).1 hgi
    rw [run_lookup_in ht hk hb hg i he hk2, hv e he]
  | false =>
    exact run_lookup_out ht hk hb hg i (fun e he hk2 => by rw [(hi i).2 ⟨e, he, hk2⟩] at hgi; cases hgi) hz
theorem SetM.update (h : SetM w m g) (ht : P.underlying mt = some (.map kt et)) (hk : P.underlying kt = some (.int .i64)) (i : Int) :
    ∃ w1, (Instr.mapUpdate mt (.map (some m)) (.int .i64 i) (.bool true)).run P w = .ok () w1 ∧ SetM w1 m (fun j => decide (j = i) || g j) ∧ w.grownBy w1 (some m) := by
  obtain ⟨es, clock, hb, hg, hv, hi⟩ := h
  obtain ⟨es', clock', hrun, hg', hin, hback, hforth, hval⟩ := run_update ht hk hb hg i (.bool true)
  have hs := heap_set (o' := Obj.map es' clock') hb
  refine ⟨_, hrun, ⟨es', clock', hs.1, hg', fun e he => ?_, fun j => ?_⟩, ⟨rfl, rfl, rfl, by simp, fun k hk hne => hs.2 k (fun h => hne (by rw [h]))⟩⟩
  · by_cases hek : e.key = .int .i64 i
    · exact hval e he hek
    · obtain ⟨e0, h0, _, h2⟩ := hback e he hek
      rw [← h2]; exact hv e0 h0
  · by_cases hji : j = i
    · subst hji
      simp only [decide_true, Bool.true_or, true_iff]
      obtain ⟨e, he, h1, _⟩ := hin
      exact ⟨e, he, h1⟩
    · simp only [hji, decide_false, Bool.false_or]
      rw [hi j]
      constructor
      · rintro ⟨e, he, hk2⟩
        obtain ⟨e0, h0, h1, _⟩ := hforth e he (by rw [hk2]; intro hh; injection hh with _ hh; exact hji hh)
        exact ⟨e0, h0, h1.trans hk2⟩
      · rintro ⟨e, he, hk2⟩
        obtain ⟨e0, h0, h1, _⟩ := hback e he (by rw [hk2]; intro hh; injection hh with _ hh; exact hji hh)
        exact ⟨e0, h0, h1.trans hk2⟩
end
/-- v is a map told as_ a set: a lookup of i gives what o says, in every world that stands above w. -/
def IsLook (P : Program) (mt : Nat) (w : World) (v : Value) (o : Int → Option Bool) : Prop :=
  ∀ W, Below w.heap.size w W → ∀ i r, o i = some r → (Instr.lookup mt v (.int .i64 i) false).run P W = .ok (.bool r) W
theorem IsLook.below {P : Program} {mt : Nat} {w W : World} {v : Value} {o : Int → Option Bool} (h : IsLook P mt w v o) (hB : Below w.heap.size w W) : IsLook P mt W v o :=
  fun W2 hW2 => h W2 (below_step hB hW2)
theorem IsLook.nil {P : Program} {mt kt et : Nat} (ht : P.underlying mt = some (.map kt et)) (hk : P.underlying kt = some (.int .i64)) (hz : ∀ w, (zeroValue et).run P w = .ok (.bool false) w) (w : World) : IsLook P mt w (.map none) (fun _ => some false) :=
  fun W _ i r h => by obtain rfl := Option.some.inj h; exact run_lookup_nil ht hk i (hz W)
section
variable {P : Program} {ops : Array Oper} {Q : Exit → Act → World → Prop}
/-- A lookup in such a map, as_ one step. -/
theorem goesK_ {rest : List Oper} {oi : Oper} {a : Act} {w0 w : World} (N : Option Tmp) (hd : oi.dst = N) (hg : oi.guard = none) {mt : Nat} {v : Value} {o : Int → Option Bool} (hF : IsLook P mt w0 v o) {x y : Operand}
    (hop : oi.op = .lookup mt x y false) (hx : a.eval x = v) {i : Int} (hy : a.eval y = .int .i64 i) (hB : Below w0.heap.size w0 w) {r : Bool} (ho : o i = some r)
    (h : ∀ w2, Below w.heap.size w w2 → wpList P ops Q rest (a.put N (.bool r)) w2) : wpList P ops Q (oi :: rest) a w := by
  refine wpList_plain hg fun K hK => ?_
  have hr := hF w hB i r ho
  unfold Oper.wp
  simp only [execOp, hop, hx, hy]
  simp [hr, Result.andThen]
  subst hd
  exact hK _ _ (h w (Below.refl _ _))
end
end Go.Proofs.Ytpmadffgdfholaa.B
namespace Go.Proofs.Ytpmadffgdfholaa.B
open Go.RowKit Go.MapKept Go.Proofs.YtpmadffgdfholaaW.PrintWords Go.Proofs.YtpmadffgdfholaaW.PrintLast Go.Proofs.YtpmadffgdfholaaW.PrintMore
/-- Block m is a map of rows: row i holds g i; rows of two keys lie apart. -/
def GrpM (w : World) (base m : Nat) (g : Int → List Int) : Prop :=
  ∃ es clock, w.heap[m]? = some (.map es clock) ∧ Good es clock ∧
    (∀ e ∈ es.toList, ∀ i, e.key = .int .i64 i → Kd.R (Kd.int .i64) 3 w base (fun _ => True) e.val (g i)) ∧
    (∀ i, g i ≠ [] → ∃ e ∈ es.toList, e.key = .int .i64 i) ∧
    (∀ x ∈ es.toList, ∀ y ∈ es.toList, x.key ≠ y.key → ∀ k, x.val.ownBlock = some k → y.val.ownBlock ≠ some k)
theorem GrpM.lt {w : World} {base m : Nat} {g : Int → List Int} (h : GrpM w base m g) : m < w.heap.size := by
  obtain ⟨es, clock, hb, _⟩ := h
  exact blk_lt hb
theorem GrpM.step {w w1 : World} {base m : Nat} {g : Int → List Int} (h : GrpM w base m g) (hk : ∀ k, k < w.heap.size → (k = m ∨ ∃ cells, w.heap[k]? = some (.cells cells 3 (0, 0))) → w1.heap[k]? = w.heap[k]?) : GrpM w1 base m g := by
  obtain ⟨es, clock, hb, hg, hr, hin, hap⟩ := h
  refine ⟨es, clock, (hk m (blk_lt hb) (.inl rfl)).trans hb, hg, fun e he i hi => ?_, hin, hap⟩
  refine Kd.R_mono (Kd.R_move (Kd.R_bound (hr e he i hi)) (fun k h => ?_)) (fun _ _ => trivial)
  obtain ⟨_, _, hlt, q, hq, cells, hc⟩ := h
  have : q = 3 := by
    rcases List.mem_cons.1 hq with h | h
    · exact h
    · exact absurd h (by simp [Kd.int, Kd.scalar])
  subst this
  exact hk k hlt (.inr ⟨cells, hc⟩)
theorem GrpM.below {w w1 : World} {base m : Nat} {g : Int → List Int} (h : GrpM w base m g) (hb : Below w.heap.size w w1) : GrpM w1 base m g := h.step fun k hk _ => hb.block k hk
theorem GrpM.drew {w : World} {base m : Nat} {g : Int → List Int} (h : GrpM w base m g) : GrpM w.drew base m g := h.step fun _ _ _ => rfl
theorem GrpM.far {w : World} {base m : Nat} {g : Int → List Int} (h : GrpM w base m g) {a i : Nat} {cs : Array Value} {t : TypeId} (hb : w.heap[a]? = some (.cells cs t (0, 0))) (ht : t ≠ 3) (u : Value) : GrpM (w.setCell ⟨a, i, none⟩ u) base m g := by
  refine h.step fun k hk hor => Below.heap_setCell w ⟨a, i, none⟩ u k ?_
  rintro rfl
  rcases hor with rfl | ⟨cells, hc⟩
  · obtain ⟨es, clock, hb2, _⟩ := h
    rw [hb] at hb2; injection hb2 with hb2; cases hb2
  · rw [hb] at hc; injection hc with hc; injection hc with _ hc; exact ht hc
theorem GrpM.ne_cells {w : World} {base m a : Nat} {g : Int → List Int} {cs : Array Value} {t : TypeId} {fr : Nat × Nat} (h : GrpM w base m g) (hb : w.heap[a]? = some (.cells cs t fr)) : m ≠ a := by
  rintro rfl
  obtain ⟨es, clock, hb2, _⟩ := h
  rw [hb] at hb2; injection hb2 with hb2; cases hb2
/-- A lookup, what it gives, and what a longer row in the same place makes of the map. -/
theorem GrpM.lookup {P : Program} {w : World} {base m mt kt et : Nat} {g : Int → List Int} (h : GrpM w base m g) (ht : P.underlying mt = some (.map kt et)) (hk : P.underlying kt = some (.int .i64)) (i : Int) (hz : ∀ w, (zeroValue et).run P w = .ok (.slice none 0 0) w) :
    ∃ v, (∀ w', w'.heap[m]? = w.heap[m]? → (Instr.lookup mt (.map (some m)) (.int .i64 i) false).run P w' = .ok v w') ∧
      Kd.R (Kd.int .i64) 3 w base (fun _ => True) v (g i) ∧ v.ownBlock ≠ some m ∧
      ∀ (w1 : World) (v' : Value) (zs : List Int), w.grownBy w1 v.ownBlock → Kd.R (Kd.int .i64) 3 w1 base (fun _ => True) v' zs → (v'.ownBlock = v.ownBlock ∨ ∃ b, v'.ownBlock = some b ∧ w.heap.size ≤ b) →
        ∃ w2, (Instr.mapUpdate mt (.map (some m)) (.int .i64 i) v').run P w1 = .ok () w2 ∧ GrpM w2 base m (fun j => if j = i then zs else g j) ∧ w1.grownBy w2 (some m) := by
  obtain ⟨es, clock, hb, hg, hr, hin, hap⟩ := h
  have hrow : ∀ {W : World} {v : Value} {zs : List Int}, W.heap[m]? = some (.map es clock) → Kd.R (Kd.int .i64) 3 W base (fun _ => True) v zs → v.ownBlock ≠ some m := by
    intro W v zs hB hR he
    obtain ⟨inner, ho⟩ := Kd.R_own hR
    obtain ⟨cells, hc⟩ := own_typed ho m he
    rw [hB] at hc; injection hc with hc; cases hc
  have back : ∀ (v : Value), v.ownBlock ≠ some m → (∀ x ∈ es.toList, x.key ≠ .int .i64 i → ∀ k, x.val.ownBlock = some k → v.ownBlock ≠ some k) →
      ∀ (w1 : World) (v' : Value) (zs : List Int), w.grownBy w1 v.ownBlock → Kd.R (Kd.int .i64) 3 w1 base (fun _ => True) v' zs → (v'.ownBlock = v.ownBlock ∨ ∃ b, v'.ownBlock = some b ∧ w.heap.size ≤ b) →
        ∃ w2, (Instr.mapUpdate mt (.map (some m)) (.int .i64 i) v').run P w1 = .ok () w2 ∧ GrpM w2 base m (fun j => if j = i then zs else g j) ∧ w1.grownBy w2 (some m) := by
    intro v hvm hvap w1 v' zs hgr hR' hloc
    have hb1 : w1.heap[m]? = some (.map es clock) := (hgr.block m (blk_lt hb) (fun h => hvm h.symm)).trans hb
    obtain ⟨es', clock', hrun, hg', hin', hback, hforth, hval⟩ := run_update ht hk hb1 hg i v'
    have hs := heap_set (o' := Obj.map es' clock') hb1
    have hgr2 : w1.grownBy { w1 with heap := w1.heap.setIfInBounds m (.map es' clock') } (some m) := ⟨rfl, rfl, rfl, by simp, fun k hk hne => hs.2 k (fun h => hne (by rw [h]))⟩
    refine ⟨_, hrun, ⟨es', clock', hs.1, hg', fun e he j hj => ?_, fun j hj => ?_, fun x hx y hy hne k hkx => ?_⟩, hgr2⟩
    · by_cases hji : j = i
      · subst hji
        simp only [↓reduceIte]
        rw [hval e he hj]
        have hR3 : Kd.R (Kd.int .i64) 3 w1 base (fun k => v'.ownBlock = some k) v' zs := Kd.R_of_own (Kd.own_of_R hR') (fun _ h => h)
        exact Kd.R_mono (Kd.R_step hR3 fun k hkk hlt => hgr2.block k hlt (fun h => by
          injection h with h; subst h
          exact hrow hb1 hR' hkk)) (fun _ _ => trivial)
      · simp only [if_neg hji]
        have hek : e.key ≠ .int .i64 i := by rw [hj]; intro hh; injection hh with _ hh; exact hji hh
        obtain ⟨e0, h0, h1, h2⟩ := hback e he hek
        rw [← h2]
        have hR0 := hr e0 h0 j (h1.trans hj)
        have hne0 : ∀ k, e0.val.ownBlock = some k → v.ownBlock ≠ some k := hvap e0 h0 (by rw [h1]; exact hek)
        have hR1 : Kd.R (Kd.int .i64) 3 w base (fun k => e0.val.ownBlock = some k) e0.val (g j) := Kd.R_of_own (Kd.own_of_R hR0) (fun _ h => h)
        have hR2 := Kd.R_grown hR1 hgr (fun k hk h => hne0 k hk h.symm)
        exact Kd.R_mono (Kd.R_step hR2 fun k hkk hlt => hgr2.block k hlt (fun h => by
          injection h with h; subst h
          exact hrow hb hR0 hkk)) (fun _ _ => trivial)
    · by_cases hji : j = i
      · obtain ⟨e, he, h1, _⟩ := hin'
        exact ⟨e, he, hji ▸ h1⟩
      · simp only [if_neg hji] at hj
        obtain ⟨e, he, h1⟩ := hin j hj
        obtain ⟨e0, h0, h2, _⟩ := hforth e he (by rw [h1]; intro hh; injection hh with _ hh; exact hji hh)
        exact ⟨e0, h0, h2.trans h1⟩
    · have old : ∀ z ∈ es'.toList, z.key ≠ .int .i64 i → ∃ z0 ∈ es.toList, z0.key = z.key ∧ z0.val = z.val := hback
      have lo : ∀ z ∈ es.toList, ∀ k, z.val.ownBlock = some k → k < w.heap.size := fun z hz k hk => by
        obtain ⟨j, hj⟩ := hg.keys z hz
        exact own_lt (Kd.own_of_R (hr z hz j hj)) k hk
      have new : ∀ z ∈ es.toList, z.key ≠ .int .i64 i → ∀ k, z.val.ownBlock = some k → v'.ownBlock ≠ some k := fun z hz hzk k hk h' => by
        rcases hloc with h | ⟨b, h, hge⟩
        · exact hvap z hz hzk k hk (h ▸ h')
        · have := lo z hz k hk
          rw [h] at h'; injection h' with h'; omega
      by_cases hxi : x.key = .int .i64 i
      · have hyi : y.key ≠ .int .i64 i := fun h => hne (hxi.trans h.symm)
        obtain ⟨y0, hy0, e1, e2⟩ := old y hy hyi
        rw [hval x hx hxi] at hkx
        rw [← e2]
        intro hyk
        exact new y0 hy0 (e1 ▸ hyi) k hyk hkx
      · obtain ⟨x0, hx0, e1, e2⟩ := old x hx hxi
        rw [← e2] at hkx
        by_cases hyi : y.key = .int .i64 i
        · rw [hval y hy hyi]
          exact new x0 hx0 (e1 ▸ hxi) k hkx
        · obtain ⟨y0, hy0, e3, e4⟩ := old y hy hyi
          rw [← e4]
          exact hap x0 hx0 y0 hy0 (by rw [e1, e3]; exact hne) k hkx
  by_cases hex : ∃ e ∈ es.toList, e.key = .int .i64 i
  · obtain ⟨e, he, hi⟩ := hex
    have hm := hrow hb (hr e he i hi)
    exact ⟨e.val, fun w' hw' => run_lookup_in ht hk (hw'.trans hb) hg i he hi, hr e he i hi, hm, back e.val hm (fun x hx hne k hkx => hap x hx e he (by rw [hi]; exact hne) k hkx)⟩
  · have hg0 : g i = [] := Classical.byContradiction fun h => hex (hin i h)
    refine ⟨.slice none 0 0, fun w' hw' => run_lookup_out ht hk (hw'.trans hb) hg i (fun e he h => hex ⟨e, he, h⟩) (hz w'), by rw [hg0]; exact Kd.R_nil _ _ _ _ _, by simp [Value.ownBlock], back _ (by simp [Value.ownBlock]) (fun x _ _ k _ => by simp [Value.ownBlock])⟩
end Go.Proofs.Ytpmadffgdfholaa.B
namespace Go.Proofs.Ytpmadffgdfholaa.B
open Go.RowKit Go.MapKept Go.Proofs.YtpmadffgdfholaaW.PrintWords Go.Proofs.YtpmadffgdfholaaW.PrintLast Go.Proofs.YtpmadffgdfholaaW.PrintMore
set_option linter.unusedVariables false
set_option linter.unusedSimpArgs false
attribute [local go_sem ↓] Go.wp_at_zero Go.wp_at_succ
/-- A street that read takes. -/
def wayOk (n : Int) (x : S30) : Bool := !(decide (mn x.f0 x.f1 < 0) || decide (n ≤ mx x.f0 x.f1) || (x.f0 == x.f1) || decide (x.f2 < 0) || decide (1000 < x.f2))
/-- What read answers: 0, 2 or 3. -/
def readB (n : Int) (l : List S30) : Int := if n < 2 ∨ 7 < n then 2 else if 30 < l.length then 3 else if l.all (wayOk n) then 0 else 2
/-- The numbers of the first j streets that lead to b. -/
def toB (l : List S30) (j : Nat) (b : Int) : List Int := ((List.range j).filter fun q : Nat => (rd_T30 l (q : Int)).f1 == b).map (fun q : Nat => (q : Int))
theorem toB_succ (l : List S30) (j : Nat) (b : Int) : toB l (j + 1) b = if (rd_T30 l (j : Int)).f1 = b then toB l j b ++ [(j : Int)] else toB l j b := by
  unfold toB
  rw [List.range_succ, List.filter_append, List.map_append]
  by_cases h : (rd_T30 l (j : Int)).f1 = b <;> simp [h]
theorem toB_len (l : List S30) (j : Nat) (b : Int) : (toB l j b).length ≤ j := by
  induction j with
  | zero => simp [toB]
  | succ j ih => rw [toB_succ]; split <;> (try simp) <;> omega
theorem all_upto (p : S30 → Bool) (l : List S30) (h : ∀ j : Nat, j < l.length → p (rd_T30 l (j : Int)) = true) : l.all p = true := by
  rw [List.all_eq_true]
  intro x hx
  obtain ⟨j, hj, rfl⟩ := List.getElem_of_mem hx
  have := h j hj
  simpa [rd_T30, List.getD, List.getElem?_eq_getElem hj] using this
theorem not_all (p : S30 → Bool) (l : List S30) (j : Nat) (hj : j < l.length) (h : p (rd_T30 l (j : Int)) = false) : l.all p = false := by
  rw [List.all_eq_false]
  refine ⟨l[j], List.getElem_mem hj, ?_⟩
  simpa [rd_T30, List.getD, List.getElem?_eq_getElem hj] using h
theorem map_event {P : Program} {ops : Array Oper} {rest : List Oper} {o : Oper} {a : Act} {Q : Exit → Act → World → Prop} {W : World} (hgd : o.guard = none) {N : Tmp} (_hd : o.dst = some N)
    (hrun : (execOp a.eval o).run P W = .ok (.value (.map (some W.heap.size))) (W.alloc (.map #[] 0)))
    (h : ∀ m, m = W.heap.size → ∀ w1, w1.heap[m]? = some (.map #[] 0) → Below W.heap.size W w1 → wpList P ops Q rest (a.put o.dst (.map (some m))) w1) : wpList P ops Q (o :: rest) a W :=
  Kd.event_run hgd hrun (h _ rfl _ (blk_new W _) (below_alloc (Below.refl _ _) _))
theorem GrpM.new {w : World} {base m : Nat} (h : w.heap[m]? = some (.map #[] 0)) : GrpM w base m (fun _ => []) :=
  ⟨#[], 0, h, Good.empty 0, by simp, fun _ h => absurd rfl h, by simp⟩
theorem SetM.new {w : World} {m : Nat} (h : w.heap[m]? = some (.map #[] 0)) : SetM w m (fun _ => false) := ⟨#[], 0, h, Good.empty 0, by simp, by simp⟩
theorem GrpM.self {w : World} {base m : Nat} {g : Int → List Int} (_ : GrpM w base m g) : Below w.heap.size w w := Below.refl _ _
theorem toB_step (l : List S30) (i : Nat) (b : Int) (hx : (rd_T30 l (i : Int)).f1 = b) : toB l (i + 1) = (fun j => if j = b then toB l i b ++ [(i : Int)] else toB l i j) := by
  funext j
  rw [toB_succ, hx]
  by_cases h : b = j
  · subst h; simp
  · rw [if_neg h, if_neg (fun h2 => h h2.symm)]
theorem val_succ (i : Nat) (h : i < 1000000) : Value.int .i64 (wrap64 ((i : Int) + 1)) = Value.int .i64 ((i + 1 : Nat) : Int) := by rw [show wrap64 ((i : Int) + 1) = ((i + 1 : Nat) : Int) from by unfold wrap64; omega]
theorem step_lookup {P : Program} {ops : Array Oper} {o : Oper} {a : Act} {w : World} {K : Act → World → Prop} {Q : Exit → Act → World → Prop} {E : Prop} (hgd : o.guard = none) (m x : Operand) (t : TypeId)
    (ho : o.op = Op.lookup t m x false) {mv kv v : Value} (hm : a.eval m = mv) (hx : a.eval x = kv) (hrun : (Instr.lookup t mv kv false).run P w = .ok v w) (h : K (a.put o.dst v) w) :
    if Region.wanted o (yielded ops a.tmps) = true then Oper.wp P o a w K Q else E := by
  have hw : Region.wanted o (yielded ops a.tmps) = true := by simp [Region.wanted, hgd]
  rw [if_pos hw]
  unfold Oper.wp
  simp [execOp, ho, hm, hx, hrun, Result.andThen]
  exact h
theorem grown_then {w w1 w2 : World} {row : Option Nat} (h : Below w.heap.size w w1) (hg : w1.grownBy w2 row) : w.grownBy w2 row :=
  ⟨hg.os.trans h.os, hg.tape.trans h.tape, hg.output.trans h.output, Nat.le_trans h.size hg.size, fun k hk hne => (hg.block k (Nat.lt_of_lt_of_le hk h.size) hne).trans (h.block k hk)⟩
set_option maxHeartbeats 8000000 in
set_option maxRecDepth 100000 in
theorem read_calls (n : Int) (A : Option Addr) (c : Nat) (l : List S30) (w : World) (hr1 : Kd.C k30 w A l.length l) (hc1 : l.length ≤ c) :
    Calls Try.prog 44 #[.int .i64 n, .slice A l.length c] w fun e w' => (readB n l = 0 ∧ ∃ g m, e = .returned (.tuple #[.pointer (some ⟨g, 0, none⟩), .int .i64 0]) ∧ w.heap.size ≤ g ∧ w.heap.size ≤ m ∧
      w'.heap[g]? = some (.cells #[.int .i64 n, .slice A l.length c, .map (some m)] 70 (0, 0)) ∧ GrpM w' w.heap.size m (toB l l.length) ∧ Below w.heap.size w w') ∨
      (readB n l ≠ 0 ∧ e = .returned (.tuple #[.pointer none, .int .i64 (readB n l)]) ∧ Below w.heap.size w w') := by
  have hu30 := Try.underlying30
  have HR1 := Aside0.mk hr1
  have HC1 := Aside0.mk hc1
  clear hr1 hc1
  have HB := Aside0.mk (Below.refl w.heap.size w)
  go_enter Try.func44, Try.ntmps44
  by_cases c1 : n < 2
  · have c1b : decide (n < 2) = true := decide_eq_true c1
    have hR : readB n l = 2 := by unfold readB; rw [if_pos (.inl c1)]
    have HRX := Aside0.mk hR
    clear hR
    go_wp2
    go_ret2
    exact .inr ⟨by rw [HRX.out]; decide, by rw [HRX.out]; rfl, HB.out⟩
  have c1b : decide (n < 2) = false := decide_eq_false c1
  by_cases c2 : 7 < n
  · have c2b : decide (7 < n) = true := decide_eq_true c2
    have hR : readB n l = 2 := by unfold readB; rw [if_pos (.inr c2)]
    have HRX := Aside0.mk hR
    clear hR
    go_wp2
    go_ret2
    exact .inr ⟨by rw [HRX.out]; decide, by rw [HRX.out]; rfl, HB.out⟩
  have c2b : decide (7 < n) = false := decide_eq_false c2
  by_cases c3 : 30 < (l.length : Int)
  · have c3b : decide (30 < (l.length : Int)) = true := decide_eq_true c3
    have c3b2 : decide (30 < l.length) = true := decide_eq_true (by omega)
    have hR : readB n l = 3 := by unfold readB; rw [if_neg (by omega), if_pos (by omega)]
    have HRX := Aside0.mk hR
    clear hR
    go_wp2
    go_ret2
    exact .inr ⟨by rw [HRX.out]; decide, by rw [HRX.out]; rfl, HB.out⟩
  have c3b : decide (30 < (l.length : Int)) = false := decide_eq_false c3
  have c3b2 : decide (30 < l.length) = false := decide_eq_false (by omega)
  have HL := Aside0.mk (show l.length ≤ 30 by omega)
  have hR : readB n l = if l.all (wayOk n) then 0 else 2 := by unfold readB; rw [if_neg (by omega), if_neg (by omega)]
  have HRB := Aside0.mk hR
  clear hR c1 c2 c3
  have h0 : (0 : Int) ≤ n := by have := of_decide_eq_false c1b; omega
  go_wp2_with (first | ((with_reducible refine gate_dst (N := 22) rfl ?_); refine map_event ?hg (N := 22) ?hd ?hr ?_; (case hd => rfl); (case hg => rfl); (case hr => rfl); intro m hm w1 hmap hb; have n0_ := Aside0.mk (GrpM.new (base := w.heap.size) hmap); have n1_ := Aside0.mk (below_step (by repeat (first | (with_reducible first | exact HB.out | apply below_alloc | apply pw_below_drewN | apply below_drew1) | exact HB.out)) hb); have GM := Aside0.mk ((by rw [hm]; exact (below_size (by repeat (first | (with_reducible first | exact HB.out | apply below_alloc | apply pw_below_drewN | apply below_drew1) | exact HB.out)))) : w.heap.size ≤ m); clear HB; have HG := n0_; have HB := n1_; clear n0_ n1_; clear hm hmap hb) | ((with_reducible refine gate_dst (N := 24) rfl ?_); refine box_event ?hg (N := 24) ?hd (cs := #[.int .i64 n, .slice A l.length c, .map (some m)]) (t := 70) ?hr ?_; (case hd => rfl); (case hg => rfl); (case hr => first | (go_simp; done) | (go_simp; rfl)); intro gt hg w2 hbox hb; have n0_ := Aside0.mk (GrpM.below (w1 := w2) (by repeat (first | exact HG.out | refine GrpM.drew ?_)) hb); have n1_ := Aside0.mk (below_step (by repeat (first | (with_reducible first | exact HB.out | apply below_alloc | apply pw_below_drewN | apply below_drew1) | exact HB.out)) hb); have HT := Aside0.mk hbox; have GT := Aside0.mk ((by rw [hg]; exact (below_size (by repeat (first | (with_reducible first | exact HB.out | apply below_alloc | apply pw_below_drewN | apply below_drew1) | exact HB.out)))) : w.heap.size ≤ gt); clear HG HB; have HG := n0_; have HB := n1_; clear n0_ n1_; clear hg hbox hb))
  go_loopg [27] l.length (fun kq v27 w' => ∃ i : Nat, v27 = .int .i64 (i : Int) ∧ Aside0 (i + kq = l.length) ∧ Aside0 (∀ j : Nat, j < i → wayOk n (rd_T30 l (j : Int)) = true) ∧ Aside0 (w'.heap[gt]? = some (.cells #[.int .i64 n, .slice A l.length c, .map (some m)] 70 (0, 0))) ∧ Aside0 (GrpM w' w.heap.size m (toB l i)) ∧ Aside0 (Below w.heap.size w w'))
  case atStart => exact ⟨0, rfl, ⟨by simp⟩, ⟨fun j h => absurd h (by omega)⟩, HT, ⟨HG.out⟩, HB⟩
  case round =>
    clear HT HG HB
    obtain ⟨i, rfl, HI, HA, HT, HG, HB⟩ := hrel
    cases gk with
    | zero =>
      have hi := HI.out
      have c4b : decide ((i : Int) < (l.length : Int)) = false := decide_eq_false (by omega)
      have c4b2 : decide (i < l.length) = false := decide_eq_false (by omega)
      have hl : i = l.length := by omega
      have HLI := Aside0.mk hl
      clear hl hi
      go_wp2
      go_ret2
      exact .inl ⟨by rw [HRB.out, if_pos (all_upto _ l (HLI.out ▸ HA.out))], gt, m, rfl, GT.out, GM.out, HT.out, HLI.out ▸ HG.out, HB.out⟩
    | succ k1 =>
      have hi0 : (0 : Int) ≤ (i : Int) := Int.natCast_nonneg _
      have hi1 : (i : Int) < (l.length : Int) := by have := HI.out; omega
      have c4b : decide ((i : Int) < (l.length : Int)) = true := decide_eq_true hi1
      have c4b2 : decide (i < l.length) = true := decide_eq_true (by omega)
      have hi2 : i < l.length := by omega
      replace hi2 := eq_true hi2
      have c4c : decide ((0 : Int) ≤ (i : Int)) = true := decide_eq_true hi0
      obtain ⟨ad, e, hx_0, hx_1, hx_2⟩ := at_T30 HR1.out (i : Int) hi0 hi1
      cases e
      obtain ⟨x, hx⟩ : ∃ x, rd_T30 l (i : Int) = x := ⟨_, rfl⟩
      have HX := Aside0.mk hx
      rw [hx] at hx_0 hx_1 hx_2
      clear hx
      simp only [Int.toNat_natCast] at hx_0 hx_1 hx_2
      replace hx_0 := (HB.out.cell (World.block_lt_of_cell? w _ hx_0)).trans hx_0
      replace hx_1 := (HB.out.cell (World.block_lt_of_cell? w _ hx_1)).trans hx_1
      replace hx_2 := (HB.out.cell (World.block_lt_of_cell? w _ hx_2)).trans hx_2
      replace hi0 := eq_true hi0
      replace hi1 := eq_true hi1
      have HB0 := Aside0.mk HG.out.self
      go_upto_region 9 with (fail)
      (try simp only [Act.put, List.setIfInBounds_toArray, List.set_cons_zero, List.set_cons_succ])
      obtain ⟨gb, hgb⟩ : ∃ gb, wr.heap.size = gb := ⟨_, rfl⟩
      rw [hgb]
      obtain ⟨wq, hwq⟩ : ∃ wq, wr.alloc (.cells #[.int .i64 x.f0, .int .i64 x.f1, .int .i64 x.f2] 30) = wq := ⟨_, rfl⟩
      rw [hwq]
      have HB1 := Aside0.mk (hwq ▸ below_alloc HB0.out _ : Below wr.heap.size wr wq)
      have BK := Aside0.mk (hgb ▸ hwq ▸ heap_alloc_new wr _ : wq.heap[gb]? = some (.cells #[.int .i64 x.f0, .int .i64 x.f1, .int .i64 x.f2] 30 (0, 0)))
      have GEB := Aside0.mk (hgb ▸ HB.out.size : w.heap.size ≤ gb)
      have HB2 := Aside0.mk (below_step HB.out HB1.out)
      have HT2 := Aside0.mk (blk_below HT.out HB1.out)
      have HG2 := Aside0.mk (GrpM.below HG.out HB1.out)
      clear hgb hwq HB HT HG HB0 HB1 hx_0 hx_1 hx_2
      have hb_0 : wq.cell? ⟨gb, 0, none⟩ = some (.int .i64 x.f0) := (blk_cell BK.out 0).trans rfl
      have hb_1 : wq.cell? ⟨gb, 1, none⟩ = some (.int .i64 x.f1) := (blk_cell BK.out 1).trans rfl
      have hb_2 : wq.cell? ⟨gb, 2, none⟩ = some (.int .i64 x.f2) := (blk_cell BK.out 2).trans rfl
      go_cut [63] (fun v63 wc => ∃ b, v63 = .bool b ∧ Aside0 (b = !wayOk n x) ∧ Aside0 (wc.heap[gb]? = some (.cells #[.int .i64 x.f0, .int .i64 x.f1, .int .i64 x.f2] 30 (0, 0))) ∧ Aside0 (wc.heap[gt]? = some (.cells #[.int .i64 n, .slice (some ad) l.length c, .map (some m)] 70 (0, 0))) ∧ Aside0 (GrpM wc w.heap.size m (toB l i)) ∧ Aside0 (Below w.heap.size w wc))
      case first =>
        obtain ⟨jm, hjm⟩ : ∃ j_ : Int, mn x.f0 x.f1 = j_ := ⟨_, rfl⟩
        have hjm_ : (if x.f1 < x.f0 then x.f1 else x.f0) = jm := hjm
        obtain ⟨jx, hjx⟩ : ∃ j_ : Int, mx x.f0 x.f1 = j_ := ⟨_, rfl⟩
        have hjx_ : (if x.f0 < x.f1 then x.f1 else x.f0) = jx := hjx
        have HW := Aside0.mk (show (!wayOk n x) = (decide (jm < 0) || decide (n ≤ jx) || (x.f0 == x.f1) || decide (x.f2 < 0) || decide (1000 < x.f2)) by rw [← hjm, ← hjx]; simp [wayOk])
        clear hjm hjx
        by_cases t0 : jm < 0
        · have s0 : decide (jm < 0) = true := decide_eq_true t0
          clear t0
          go_wp2
          go_meet
          case rel => exact ⟨_, rfl, ⟨by rw [HW.out]; simp only [s0, Bool.true_or, Bool.or_true]⟩, BK, HT2, HG2, HB2⟩
        have s0 : decide (jm < 0) = false := decide_eq_false t0
        clear t0
        by_cases t1 : n ≤ jx
        · have s1 : decide (n ≤ jx) = true := decide_eq_true t1
          clear t1
          go_wp2
          go_meet
          case rel => exact ⟨_, rfl, ⟨by rw [HW.out]; simp only [s0, s1, Bool.true_or, Bool.or_true]⟩, BK, HT2, HG2, HB2⟩
        have s1 : decide (n ≤ jx) = false := decide_eq_false t1
        clear t1
        by_cases t2 : x.f0 = x.f1
        · have s2 : (x.f0 == x.f1) = true := beq_iff_eq.mpr t2
          clear t2
          go_wp2
          go_meet
          case rel => exact ⟨_, rfl, ⟨by rw [HW.out]; simp only [s0, s1, s2, Bool.true_or, Bool.or_true]⟩, BK, HT2, HG2, HB2⟩
        have s2 : (x.f0 == x.f1) = false := beq_eq_false_iff_ne.mpr t2
        clear t2
        by_cases t3 : x.f2 < 0
        · have s3 : decide (x.f2 < 0) = true := decide_eq_true t3
          clear t3
          go_wp2
          go_meet
          case rel => exact ⟨_, rfl, ⟨by rw [HW.out]; simp only [s0, s1, s2, s3, Bool.true_or, Bool.or_true]⟩, BK, HT2, HG2, HB2⟩
        have s3 : decide (x.f2 < 0) = false := decide_eq_false t3
        clear t3
        by_cases t4 : 1000 < x.f2
        · have s4 : decide (1000 < x.f2) = true := decide_eq_true t4
          clear t4
          go_wp2
          go_meet
          case rel => exact ⟨_, rfl, ⟨by rw [HW.out]; simp only [s0, s1, s2, s3, s4, Bool.true_or, Bool.or_true]⟩, BK, HT2, HG2, HB2⟩
        have s4 : decide (1000 < x.f2) = false := decide_eq_false t4
        clear t4
        go_wp2
        go_meet
        case rel => exact ⟨_, rfl, ⟨by rw [HW.out]; simp only [s0, s1, s2, s3, s4, Bool.or_false]⟩, BK, HT2, HG2, HB2⟩
      case rest =>
        clear BK HT2 HG2 HB2 hb_0 hb_1 hb_2
        obtain ⟨b, rfl, HW, BK, HT, HG, HB⟩ := hcut
        cases b with
        | true =>
          go_wp2
          go_ret2
          have hz : readB n l = 2 := by rw [HRB.out, not_all _ l i (by have := HI.out; omega) (by rw [HX.out]; have := HW.out; cases hh : wayOk n x <;> simp [hh] at this ⊢)]; rfl
          exact .inr ⟨by rw [hz]; decide, by rw [hz]; rfl, HB.out⟩
        | false =>
          obtain ⟨i0, hi0_, hz0, hz1, hz2⟩ := info_parts info3
          have hm3 : Aside0 (∀ w, (zeroValue 28).run Try.prog w = .ok (.slice none 0 0) w) := ⟨fun w => by first | rfl | (go_simp; done)⟩
          obtain ⟨v, hlook, hRv, hvm, hback⟩ := GrpM.lookup HG.out Try.underlying68 Try.underlying3 x.f1 hm3.out
          have hown := Kd.own_of_R hRv
          have HBK := Aside0.mk hback
          have HLK := Aside0.mk hlook
          have hlk : (Instr.lookup 68 (.map (some m)) (.int .i64 x.f1) false).run Try.prog wc.drew = .ok v wc.drew := HLK.out wc.drew rfl
          have hlk2 : (Instr.lookup 68 (.map (some m)) (.int .i64 x.f1) false).run Try.prog (wc.alloc (.cells #[.int .i64 (i : Int)] 3)).drew = .ok v (wc.alloc (.cells #[.int .i64 (i : Int)] 3)).drew := HLK.out _ (Below.heap_alloc wc _ m HG.out.lt)
          clear hback hlook
          have hbx : wc.cell? ⟨gb, 1, none⟩ = some (.int .i64 x.f1) := (blk_cell BK.out 1).trans rfl
          have htx : wc.cell? ⟨gt, 2, none⟩ = some (.map (some m)) := (blk_cell HT.out 2).trans rfl
          have hvb : v.ownBlock ≠ some gb := fun h => (blk_ne ((own_typed hown gb h).choose_spec) BK.out (by decide)) rfl
          have hvt : v.ownBlock ≠ some gt := fun h => (blk_ne ((own_typed hown gt h).choose_spec) HT.out (by decide)) rfl
          have lb := blk_lt BK.out
          have lt := blk_lt HT.out
          have lm := HG.out.lt
          have hll : (toB l i x.f1).length ≤ 30 := Nat.le_trans (toB_len l i x.f1) (by have := HI.out; have := HL.out; omega)
          have hbase : w.heap.size ≤ wc.heap.size := HB.out.size
          have hmt : gt ≠ m := fun h => HG.out.ne_cells HT.out h.symm
          have hmb : gb ≠ m := fun h => HG.out.ne_cells BK.out h.symm
          go_wp2_with fail
          go_region_held3 (fun w' => w'.cell? ⟨gt, 2, none⟩ = some (.map (some m)) ∧ w'.cell? ⟨gb, 1, none⟩ = some (.int .i64 x.f1))
        (first
          | (go_split_ands
             refine ⟨by go_keep, by go_keep⟩)
          | (go_split_ands
             refine ⟨?_, ?_⟩
             · (rw [HGR2.out.cell_far _ (Nat.lt_of_lt_of_le lt HGR0.out.size) (by simpa using hmt)]; assumption)
             · (rw [HGR2.out.cell_far _ (Nat.lt_of_lt_of_le lb HGR0.out.size) (by simpa using hmb)]; assumption))
          | (go_split_ands
             refine ⟨?_, ?_⟩
             · (rw [hgrow.cell_far _ (by simp; omega) (Ne.symm hvt)]; assumption)
             · (rw [hgrow.cell_far _ (by simp; omega) (Ne.symm hvb)]; assumption)))
        (first | (refine step_lookup (by rfl) _ _ 68 (by rfl) (by rfl) (by rfl) (HLK.out _ (by first | rfl | exact Below.heap_alloc wc _ m lm)) ?_) | ((refine step_append_lies _ (by rfl) _ _ _ (by rfl) w.heap.size 3 i0 _ 1 8 Try.underlying28 hi0_ hz0 hz1 hz2 rfl (by omega) v (toB l i x.f1).length _ (by rfl) ((hown.alloc _).drew) ⟨wc.heap.size, 0, none⟩ 1 1 [.int .i64 (i : Int)] (by rfl) (by rfl) (World.news_of_block (cs := #[.int .i64 (i : Int)]) (t := 3) (fr := (0, 0)) (heap_alloc_new wc _)) (by simp [Value.oneCell']) (by omega) (by simp only [maxLen]; omega) (by omega) (by simp; omega) (wc.heap.size + 1) (by simp) ?_; intro gg cap w1 hown1 hgrow hat hlt; (have hgr0 : wc.grownBy w1 v.ownBlock := grown_then (below_drew1 (below_alloc (Below.refl _ _) _)) hgrow); (have hRn : Kd.R (Kd.int .i64) 3 w1 w.heap.size (fun _ => True) (.slice (some ⟨gg, 0, none⟩) ((toB l i x.f1).length + 1) cap) (toB l i x.f1 ++ [(i : Int)]) := Kd.R_of_own (by simpa [encs] using hown1) (fun _ _ => trivial)); (have hloc : (Value.slice (some ⟨gg, 0, none⟩) ((toB l i x.f1).length + 1) cap).ownBlock = v.ownBlock ∨ ∃ b, (Value.slice (some ⟨gg, 0, none⟩) ((toB l i x.f1).length + 1) cap).ownBlock = some b ∧ wc.heap.size ≤ b := by (rcases hat with h | h; exact .inl (by rw [h]; rfl); exact .inr ⟨gg, rfl, by omega⟩)); (obtain ⟨w2, hrun2, hG2, hgr2⟩ := HBK.out w1 _ _ hgr0 hRn hloc); have HG2 := Aside0.mk hG2; have HGR2 := Aside0.mk hgr2; have HGR0 := Aside0.mk hgr0; clear hRn hG2 hgr2 hgr0 hloc)))
          all_goals (go_wp2; go_roundg k1; (case measure => omega); (case rel => exact ⟨i + 1, val_succ i (by have := HI.out; have := HL.out; omega), ⟨by have := HI.out; omega⟩, ⟨fun j hj => by (rcases Nat.lt_or_ge j i with h | h; exact HA.out j h; (obtain rfl : j = i := by omega); rw [HX.out]; have := HW.out; cases hh : wayOk n x <;> simp [hh] at this ⊢)⟩, ⟨(HGR2.out.block gt (Nat.lt_of_lt_of_le lt HGR0.out.size) (by simpa using hmt)).trans ((HGR0.out.block gt lt (Ne.symm hvt)).trans HT.out)⟩, ⟨by have hh := HG2.out; have e := toB_step l i x.f1 (by rw [HX.out]); rw [e]; exact hh⟩, ⟨(HB.out.grown HGR0.out hbase (fun j hj => own_base hown j hj)).grown HGR2.out (Nat.le_trans hbase HGR0.out.size) (fun j hj => by cases hj; exact GM.out)⟩⟩))
def branch_read.f (a0 : Int) (l1 : List (S30)) : Option Int := some (readB a0 l1)
theorem branch_read.calls_ok (a0 : Int) (A1 : Option Addr) (c1 : Nat) (l1 : List (S30)) (r : Int) (w : World) (hr1 : Kd.C k30 w A1 l1.length l1) (hc1 : l1.length ≤ c1) (h : branch_read.f a0 l1 = some r) (hz : (r == 0) = true) :
    Calls Try.prog 44 #[.int .i64 a0, .slice A1 l1.length c1] w fun e w' => ∃ g m, e = .returned (.tuple #[.pointer (some ⟨g, 0, none⟩), .int .i64 r]) ∧ w.heap.size ≤ g ∧ w'.heap[g]? = some (.cells #[.int .i64 a0, .slice A1 l1.length c1, .map m] 70 (0, 0)) ∧ Below w.heap.size w w' := by
  obtain rfl := Option.some.inj h
  have hz' : readB a0 l1 = 0 := beq_iff_eq.mp hz
  refine (read_calls a0 A1 c1 l1 w hr1 hc1).mono ?_
  rintro e w' (⟨_, g, m, rfl, hg, _, hb, _, hB⟩ | ⟨hn, _⟩)
  · exact ⟨g, some m, by rw [hz'], hg, hb, hB⟩
  · exact absurd hz' hn
theorem branch_read.calls_map (a0 : Int) (A1 : Option Addr) (c1 : Nat) (l1 : List (S30)) (r : Int) (w : World) (hr1 : Kd.C k30 w A1 l1.length l1) (hc1 : l1.length ≤ c1) (h : branch_read.f a0 l1 = some r) (hz : (r == 0) = true) :
    Calls Try.prog 44 #[.int .i64 a0, .slice A1 l1.length c1] w fun e w' => ∃ g m, e = .returned (.tuple #[.pointer (some ⟨g, 0, none⟩), .int .i64 r]) ∧ w.heap.size ≤ g ∧ w'.heap[g]? = some (.cells #[.int .i64 a0, .slice A1 l1.length c1, .map (some m)] 70 (0, 0)) ∧ GrpM w' w.heap.size m (toB l1 l1.length) ∧ Below w.heap.size w w' := by
  obtain rfl := Option.some.inj h
  have hz' : readB a0 l1 = 0 := beq_iff_eq.mp hz
  refine (read_calls a0 A1 c1 l1 w hr1 hc1).mono ?_
  rintro e w' (⟨_, g, m, rfl, hg, _, hb, hG, hB⟩ | ⟨hn, _⟩)
  · exact ⟨g, m, by rw [hz'], hg, hb, hG, hB⟩
  · exact absurd hz' hn
theorem branch_read.calls_err (a0 : Int) (A1 : Option Addr) (c1 : Nat) (l1 : List (S30)) (r : Int) (w : World) (hr1 : Kd.C k30 w A1 l1.length l1) (hc1 : l1.length ≤ c1) (h : branch_read.f a0 l1 = some r) (hz : (r == 0) = false) :
    Calls Try.prog 44 #[.int .i64 a0, .slice A1 l1.length c1] w fun e w' => e = .returned (.tuple #[.pointer none, .int .i64 r]) ∧ Below w.heap.size w w' := by
  obtain rfl := Option.some.inj h
  have hz' : readB a0 l1 ≠ 0 := fun h => by rw [h] at hz; exact absurd hz (by decide)
  refine (read_calls a0 A1 c1 l1 w hr1 hc1).mono ?_
  rintro e w' (⟨h0, _⟩ | ⟨_, he, hB⟩)
  · exact absurd h0 hz'
  · exact ⟨he, hB⟩
end Go.Proofs.Ytpmadffgdfholaa.B
namespace Go.Proofs.Ytpmadffgdfholaa.B
open Go.RowKit Go.Proofs.YtpmadffgdfholaaW.PrintWords Go.Proofs.YtpmadffgdfholaaW.PrintLast Go.Proofs.YtpmadffgdfholaaW.PrintMore
attribute [local go_sem] max2_int min2_int max_two min_two max_three min_three max_four min_four   -- for this text's walks alone
set_option linter.unusedVariables false
set_option linter.unusedSimpArgs false
def branch_Reach.f (k : Nat) (a0 : Int) (l1 : List (S30)) : Option (Int × Int) := (branch_read.f a0 l1).bind fun t101 => (if t101 = 0 then ((branch_town_all.f k a0 l1).bind fun t103 => ((branch_town_reach.f k a0 l1 t103).bind fun t106 => (some (t106, 0)))) else (some (0, t101)))
def branch_Is.f (k : Nat) (a0 : Int) (l1 : List (S30)) (l2 : List Int) : Option (Int × Bool × Int) := (branch_read.f a0 l1).bind fun t113 => (if t113 = 0 then ((branch_town_is.f k a0 l1 l2).bind fun bt115 => (some (bt115.1, bt115.2, 0))) else (some (0, false, t113)))
set_option maxHeartbeats 8000000 in
set_option maxRecDepth 100000 in
theorem branch_Is.calls (k : Nat) (a0 : Int) (A1 : Option Addr) (c1 : Nat) (l1 : List (S30)) (A2 : Option Addr) (c2 : Nat) (l2 : List Int) (r1 : Int) (r2 : Bool) (r3 : Int) (w : World) (hr1 : Kd.C k30 w A1 l1.length l1) (hc1 : l1.length ≤ c1) (hr2 : Kd.C (Kd.int .i64) w A2 l2.length l2) (hc2 : l2.length ≤ c2) (h : branch_Is.f k a0 l1 l2 = some (r1, r2, r3)) :
    Calls Try.prog 35 #[.int .i64 a0, .slice A1 l1.length c1, .slice A2 l2.length c2] w fun e w' => e = .returned (.tuple #[.int .i64 r1, .bool r2, .int .i64 r3]) ∧ Below w.heap.size w w' := by
  have HR1 := Aside0.mk hr1
  have HC1 := Aside0.mk hc1
  clear hr1 hc1
  have HR2 := Aside0.mk hr2
  have HC2 := Aside0.mk hc2
  clear hr2 hc2
  have HB := Aside0.mk (Below.refl w.heap.size w)
  have H : ((branch_read.f a0 l1).bind fun t113 => (if t113 = 0 then ((branch_town_is.f k a0 l1 l2).bind fun bt115 => (some (bt115.1, bt115.2, 0))) else (some (0, false, t113)))) = some (r1, r2, r3) := h
  clear h
  replace H := Option.bind_eq_some_iff.mp H
  obtain ⟨t113, A40, H⟩ := H
  replace H : (if t113 = 0 then ((branch_town_is.f k a0 l1 l2).bind fun bt115 => (some (bt115.1, bt115.2, 0))) else (some (0, false, t113))) = some (r1, r2, r3) := H
  have A4 := Aside0.mk A40
  clear A40
  by_cases c5 : t113 = 0
  · rw [if_pos c5] at H
    have c5b0 : (t113 == 0) = true := beq_iff_eq.mpr c5
    have c5b1 : (t113 != 0) = false := bne_eq_false_iff_eq.mpr c5
    clear c5
    replace H := Option.bind_eq_some_iff.mp H
    obtain ⟨⟨t115, t116⟩, A60, H⟩ := H
    replace H : (some (t115, t116, 0)) = some (r1, r2, r3) := H
    have A6 := Aside0.mk A60
    clear A60
    simp only [Option.some.injEq, Prod.mk.injEq] at H
    obtain ⟨rfl, rfl, rfl⟩ := H
    go_enter Try.func35, Try.ntmps35
    go_wp2_with (first | (go_at_call 44; (with_reducible refine (branch_read.calls_ok a0 A1 c1 l1 t113 _ ?side1 ?side2 A4.out (by first | (with_reducible assumption) | assumption)).mono ?_); (case side1 => repeat (first | exact HR1.out | (with_reducible refine Kd.C_alloc ?_ _) | (with_reducible refine Kd.C_drewN ?_ _) | (with_reducible refine Kd.C_drew ?_))); (case side2 => exact HC1.out); rintro e w7 ⟨gb114, mr114, rfl, hg, hbox, hb⟩; have n0_ := Aside0.mk (below_step (by repeat (first | (with_reducible first | exact HB.out | apply below_alloc | apply pw_below_drewN | apply below_drew1) | exact HB.out)) hb); have n1_ := Aside0.mk (hbox); have n2_ := Aside0.mk ((Nat.le_trans (below_size (by repeat (first | (with_reducible first | exact HB.out | apply below_alloc | apply pw_below_drewN | apply below_drew1) | exact HB.out))) hg : w.heap.size ≤ gb114)); have n3_ := Aside0.mk ((Nat.le_trans (below_size (by repeat (first | (with_reducible first | exact HB.out | apply below_alloc | apply pw_below_drewN | apply below_drew1) | exact HB.out))) hg : w.heap.size ≤ gb114)); clear HB; have HB := n0_; have BK114 := n1_; have GW114 := n2_; have GE114 := n3_; clear n0_ n1_ n2_ n3_; clear hb hbox hg) | ((with_reducible refine gate_callee (f := 61) rfl ?_); refine goesL_ (some 25) rfl rfl Try.func61 (by kernel_rfl) rfl #[.pointer (some ⟨gb114, 0, none⟩), .slice A2 l2.length c2] rfl (by (try simp only [List.map_toArray, List.map_cons, List.map_nil]); first | done | rfl | (simp only [List.length_drop, List.length_take]; rfl)) ?_; (with_reducible refine (branch_town_is.calls k gb114 a0 A1 c1 l1 mr114 _ _ l2 t115 t116 _ ?side1 ?side2 ?side3 ?side4 ?side5 A6.out).mono ?_); (case side1 => exact by (with_reducible repeat (first | refine blk_drewN ?_ _ | refine blk_drew ?_ | refine blk_alloc ?_ _)); exact BK114.out); (case side2 => repeat (first | exact (Kd.C_below HR1.out HB.out) | (with_reducible refine Kd.C_alloc ?_ _) | (with_reducible refine Kd.C_drewN ?_ _) | (with_reducible refine Kd.C_drew ?_))); (case side3 => exact HC1.out); (case side4 => repeat (first | exact (Kd.C_below HR2.out HB.out) | (with_reducible refine Kd.C_alloc ?_ _) | (with_reducible refine Kd.C_drewN ?_ _) | (with_reducible refine Kd.C_drew ?_))); (case side5 => exact HC2.out); rintro e w8 ⟨rfl, hb⟩; refine ⟨_, rfl, ?_⟩; have n0_ := Aside0.mk (blk_below (g := gb114) (o := .cells #[.int .i64 a0, .slice A1 l1.length c1, .map mr114] 70 (0, 0)) (by (with_reducible repeat (first | refine blk_drewN ?_ _ | refine blk_drew ?_ | refine blk_alloc ?_ _)); exact BK114.out) hb); have n1_ := Aside0.mk (below_step (by repeat (first | (with_reducible first | exact HB.out | apply below_alloc | apply pw_below_drewN | apply below_drew1 | refine below_set ?_ GE114.out) | exact HB.out)) hb); clear BK114; clear HB; have BK114 := n0_; have HB := n1_; clear n0_ n1_; (try clear hb); (try clear hb2); (try clear hk); (try clear hi)))
    go_ret3
    exact ⟨by first | rfl | (simp [errW_none, errW_some] <;> rfl) | (simp [*, errW_none, errW_some] <;> rfl), by repeat (first | (with_reducible first | exact HB.out | apply below_alloc | apply pw_below_drewN | apply below_drew1 | refine below_set ?_ GE114.out) | exact HB.out)⟩
  · rw [if_neg c5] at H
    have c5b0 : (t113 == 0) = false := beq_eq_false_iff_ne.mpr c5
    have c5b1 : (t113 != 0) = true := bne_iff_ne.mpr c5
    simp only [Option.some.injEq, Prod.mk.injEq] at H
    obtain ⟨rfl, rfl, rfl⟩ := H
    go_enter Try.func35, Try.ntmps35
    go_wp2_with (first | (go_at_call 44; (with_reducible refine (branch_read.calls_err a0 A1 c1 l1 t113 _ ?side1 ?side2 A4.out (by first | (with_reducible assumption) | assumption)).mono ?_); (case side1 => repeat (first | exact HR1.out | (with_reducible refine Kd.C_alloc ?_ _) | (with_reducible refine Kd.C_drewN ?_ _) | (with_reducible refine Kd.C_drew ?_))); (case side2 => exact HC1.out); rintro e w9 ⟨rfl, hb⟩; have n0_ := Aside0.mk (below_step (by repeat (first | (with_reducible first | exact HB.out | apply below_alloc | apply pw_below_drewN | apply below_drew1) | exact HB.out)) hb); clear HB; have HB := n0_; clear n0_; (try clear hb)))
    go_ret3
    exact ⟨by first | rfl | (simp [errW_none, errW_some] <;> rfl) | (simp [*, errW_none, errW_some] <;> rfl), by repeat (first | (with_reducible first | exact HB.out | apply below_alloc | apply pw_below_drewN | apply below_drew1) | exact HB.out)⟩
end Go.Proofs.Ytpmadffgdfholaa.B
namespace Go.Proofs.Ytpmadffgdfholaa.B
open Go.RowKit Go.Proofs.YtpmadffgdfholaaW.PrintWords Go.Proofs.YtpmadffgdfholaaW.PrintLast Go.Proofs.YtpmadffgdfholaaW.PrintMore
attribute [local go_sem] max2_int min2_int max_two min_two max_three min_three max_four min_four   -- for this text's walks alone
set_option linter.unusedVariables false
set_option linter.unusedSimpArgs false
def trishawlaw03_same.l0 : Nat → List Int → List Int → Int → Option (Bool)
  | 0, _, _, _ => none
  | k + 1, x0, x1, x5 => if x5 < (x0.length : Int) then (if 0 ≤ x5 then (if x5 < (x1.length : Int) then (if (rd x0 x5) = (rd x1 x5) then (trishawlaw03_same.l0 k x0 x1 (wrap64 (x5 + 1))) else (some false)) else (none)) else (none)) else (some true)
def trishawlaw03_same.f (k : Nat) (l0 : List Int) (l1 : List Int) : Option (Bool) := if (l0.length : Int) = (l1.length : Int) then (trishawlaw03_same.l0 k l0 l1 0) else (some false)
theorem trishawlaw03_same.mono_l : ∀ k, (∀ y0 y1 y2, LeO (trishawlaw03_same.l0 k y0 y1 y2) (trishawlaw03_same.l0 (k + 1) y0 y1 y2))
  | 0 => fun _ _ _ r h => by simp [trishawlaw03_same.l0] at h
  | k + 1 => by
    have ih0 := trishawlaw03_same.mono_l k
    · intro y0 y1 y2
      unfold trishawlaw03_same.l0
      repeat' first
      | (with_reducible exact ih0 _ _ _)
      | (with_reducible exact LeO.refl _)
      | (with_reducible exact LeO.none _)
      | (with_reducible refine LeO.ite ?_ ?_)
      | (with_reducible refine LeO.bind ?_ (fun _ => ?_))
      | exact ih0 _ _ _
      | exact LeO.none _
      | refine LeO.ite ?_ ?_
      | refine LeO.bind ?_ (fun _ => ?_)
theorem trishawlaw03_same.mono : ∀ a0 a1 k, LeO (trishawlaw03_same.f k a0 a1) (trishawlaw03_same.f (k + 1) a0 a1) := by
  intro a0 a1 k
  have ih0 := trishawlaw03_same.mono_l k
  unfold trishawlaw03_same.f
  repeat' first
      | (with_reducible exact ih0 _ _ _)
      | (with_reducible exact LeO.refl _)
      | (with_reducible exact LeO.none _)
      | (with_reducible refine LeO.ite ?_ ?_)
      | (with_reducible refine LeO.bind ?_ (fun _ => ?_))
      | exact ih0 _ _ _
      | exact LeO.none _
      | refine LeO.ite ?_ ?_
      | refine LeO.bind ?_ (fun _ => ?_)
set_option maxHeartbeats 8000000 in
set_option maxRecDepth 100000 in
theorem trishawlaw03_same.calls (k : Nat) (A0 : Option Addr) (c0 : Nat) (l0 : List Int) (A1 : Option Addr) (c1 : Nat) (l1 : List Int) (r : Bool) (w : World) (hr0 : Kd.C (Kd.int .i64) w A0 l0.length l0) (hc0 : l0.length ≤ c0) (hr1 : Kd.C (Kd.int .i64) w A1 l1.length l1) (hc1 : l1.length ≤ c1) (h : trishawlaw03_same.f k l0 l1 = some r) :
    Calls Try.prog 25 #[.slice A0 l0.length c0, .slice A1 l1.length c1] w fun e w' => e = .returned (.bool r) ∧ Drawn0 w w' := by
  have HR0 := Aside0.mk hr0
  have HC0 := Aside0.mk hc0
  clear hr0 hc0
  have HR1 := Aside0.mk hr1
  have HC1 := Aside0.mk hc1
  clear hr1 hc1
  have H : (if (l0.length : Int) = (l1.length : Int) then (trishawlaw03_same.l0 k l0 l1 0) else (some false)) = some r := h
  clear h
  by_cases c3 : (l0.length : Int) = (l1.length : Int)
  · rw [if_pos c3] at H
    have c3b0 : ((l0.length : Int) == (l1.length : Int)) = true := beq_iff_eq.mpr c3
    have c3b1 : ((l0.length : Int) != (l1.length : Int)) = false := bne_eq_false_iff_eq.mpr c3
    have c3b2 : (l0.length == l1.length) = true := by first | simpa using c3 | (simp at c3 ⊢; omega)
    clear c3
    have H' := Aside0.mk H
    clear H
    go_enter Try.func25, Try.ntmps25
    go_wp2
    repeat (go_quiet (fail); try go_wp2)
    go_loopg [5] k (fun kq v5 w' => ∃ (x5_1 : Int), v5 = .int .i64 x5_1 ∧ Aside0 (trishawlaw03_same.l0 kq l0 l1 x5_1 = some r) ∧ Aside0 (kq ≤ k) ∧ Drawn0 w w')
    case atStart => exact ⟨(0), (by first | rfl | (simp; done) | (simp [*]; done)), H', ⟨Nat.le_refl _⟩, by repeat (first | exact Drawn0.refl _ | apply Drawn0.step)⟩
    case round =>
      clear H'
      try clear c1
      try clear c2
      try clear p2
      try clear c3
      try clear c3b0
      try clear c3b1
      try clear c3b2
      obtain ⟨x5_1, rfl, HA, HK1, ⟨m1, rfl⟩⟩ := hrel
      cases gk with
      | zero => exact absurd HA.out (by simp [trishawlaw03_same.l0])
      | succ k1 =>
        have H := HA.out
        clear HA
        simp only [trishawlaw03_same.l0] at H
        by_cases c4 : x5_1 < (l0.length : Int)
        · rw [if_pos c4] at H
          have c4b0 : decide (x5_1 < (l0.length : Int)) = true := decide_eq_true c4
          clear c4
          by_cases c5 : 0 ≤ x5_1
          · rw [if_pos c5] at H
            have c5b0 : decide (0 ≤ x5_1) = true := decide_eq_true c5
            clear c5
            by_cases c6 : x5_1 < (l1.length : Int)
            · rw [if_pos c6] at H
              have c6b0 : decide (x5_1 < (l1.length : Int)) = true := decide_eq_true c6
              clear c6
              by_cases c7 : (rd l0 x5_1) = (rd l1 x5_1)
              · rw [if_pos c7] at H
                have c7b0 : ((rd l0 x5_1) == (rd l1 x5_1)) = true := beq_iff_eq.mpr c7
                have c7b1 : ((rd l0 x5_1) != (rd l1 x5_1)) = false := bne_eq_false_iff_eq.mpr c7
                clear c7
                have H' := Aside0.mk H
                clear H
                have p119 : 0 ≤ (x5_1 : Int) := of_decide_eq_true (by first | (with_reducible assumption) | assumption)
                have q119 : x5_1 < (l0.length : Int) := of_decide_eq_true (by first | (with_reducible assumption) | assumption)
                obtain ⟨ad119, e119, hx119_0⟩ := Kd.at_int HR0.out x5_1 p119 q119
                cases e119
                replace p119 := eq_true p119
                replace q119 := eq_true q119
                have p120 : 0 ≤ (x5_1 : Int) := of_decide_eq_true (by first | (with_reducible assumption) | assumption)
                have q120 : x5_1 < (l1.length : Int) := of_decide_eq_true (by first | (with_reducible assumption) | assumption)
                obtain ⟨ad120, e120, hx120_0⟩ := Kd.at_int HR1.out x5_1 p120 q120
                cases e120
                replace p120 := eq_true p120
                replace q120 := eq_true q120
                go_wp2
                repeat (go_quiet (fail); try go_wp2)
                go_roundg k1
                case measure => have := HK1.out; omega
                case rel => exact ⟨(wrap64 (x5_1 + 1)), (by first | rfl | (simp; done) | (simp [*]; done)), H', ⟨by have := HK1.out; omega⟩, by repeat (first | exact Drawn0.refl _ | apply Drawn0.step)⟩
              · rw [if_neg c7] at H
                have c7b0 : ((rd l0 x5_1) == (rd l1 x5_1)) = false := beq_eq_false_iff_ne.mpr c7
                have c7b1 : ((rd l0 x5_1) != (rd l1 x5_1)) = true := bne_iff_ne.mpr c7
                obtain rfl := Option.some.inj H
                have p119 : 0 ≤ (x5_1 : Int) := of_decide_eq_true (by first | (with_reducible assumption) | assumption)
                have q119 : x5_1 < (l0.length : Int) := of_decide_eq_true (by first | (with_reducible assumption) | assumption)
                obtain ⟨ad119, e119, hx119_0⟩ := Kd.at_int HR0.out x5_1 p119 q119
                cases e119
                replace p119 := eq_true p119
                replace q119 := eq_true q119
                have p120 : 0 ≤ (x5_1 : Int) := of_decide_eq_true (by first | (with_reducible assumption) | assumption)
                have q120 : x5_1 < (l1.length : Int) := of_decide_eq_true (by first | (with_reducible assumption) | assumption)
                obtain ⟨ad120, e120, hx120_0⟩ := Kd.at_int HR1.out x5_1 p120 q120
                cases e120
                replace p120 := eq_true p120
                replace q120 := eq_true q120
                go_wp2
                repeat (go_quiet (fail); try go_wp2)
                go_ret
                exact ⟨by first | rfl | (simp; done) | (simp [*]; done), by repeat (first | exact Drawn0.refl _ | apply Drawn0.step)⟩
            · rw [if_neg c6] at H
              exact absurd H (by simp)
          · rw [if_neg c5] at H
            exact absurd H (by simp)
        · rw [if_neg c4] at H
          have c4b0 : decide (x5_1 < (l0.length : Int)) = false := decide_eq_false c4
          clear c4
          obtain rfl := Option.some.inj H
          go_wp2
          repeat (go_quiet (fail); try go_wp2)
          go_ret
          exact ⟨by first | rfl | (simp; done) | (simp [*]; done), by repeat (first | exact Drawn0.refl _ | apply Drawn0.step)⟩
  · rw [if_neg c3] at H
    have c3b0 : ((l0.length : Int) == (l1.length : Int)) = false := beq_eq_false_iff_ne.mpr c3
    have c3b1 : ((l0.length : Int) != (l1.length : Int)) = true := bne_iff_ne.mpr c3
    have c3b2 : (l0.length == l1.length) = false := by first | simpa using c3 | (simp at c3 ⊢; omega)
    obtain rfl := Option.some.inj H
    go_enter Try.func25, Try.ntmps25
    go_wp2
    repeat (go_quiet (fail); try go_wp2)
    go_ret
    exact ⟨by first | rfl | (simp; done) | (simp [*]; done), by repeat (first | exact Drawn0.refl _ | apply Drawn0.step)⟩
end Go.Proofs.Ytpmadffgdfholaa.B
