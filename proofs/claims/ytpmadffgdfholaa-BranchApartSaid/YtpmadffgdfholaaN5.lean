/- Texts behind the row of BranchApart, part 5: contracts of the functions it reaches, words that their walks use, and lemmas in plain Lean. -/
import Derived.Below
import Derived.Deep.Draws
import Derived.Deep.AppendLies
import Derived.Maps.AppendAt
import Derived.OwnWalk
import Derived.Laws.BytesArg
import Derived.Laws.MakeOwn
import Derived.Laws.OwnMore
import Derived.Deep.OwnRows
import Derived.Tactics
import Derived.Lib.ConvBytes
import Derived.Laws.Slices
import Derived.WalkKit
import Derived.KernelRfl
import Derived.RowKit3
import Derived.Deep.LoopGhost
import Derived.Deep.QuietTactic
import Derived.BigQuiet
import Derived.WideLaws
import Derived.Deep.DeepCutAuto
import Derived.Deep.CutBlock
import Derived.Deep.RegionHeld3
import Derived.Laws.Rows
import Derived.Lib.AppendStr
import Derived.ArgAppend
import Derived.Laws.IdiomCopy
import Derived.RowKit
import Derived.OrdersHeld
import Derived.Laws.BitsLemmas
import Derived.Test.YtpmadffgdfholaaProg
import Derived.Laws.StructEq
import Derived.MapKept
import Derived.WalkSpells
import Derived.Deep.DrawnRows
import Derived.Maps.RangeWalk
import Derived.Laws.EntriesVeiled
import Derived.Shelf.SlSortCmp.NoneTotal
import Derived.Shelf.SortM.Plain
import Derived.Shelf.Lay
import Derived.Ground.SlsfProg
import Derived.Ground.SlgmProg
import Derived.Shelf.SlicesG.Cmp
import Derived.Ground.SlgcProg
import Derived.Deep.Slices
import Derived.Deep.Fields
import Derived.ChangeSame
import Derived.Test.YtpmadffgdfholaaN1
import Derived.Test.YtpmadffgdfholaaN2
import Derived.Test.YtpmadffgdfholaaN3
import Derived.Test.YtpmadffgdfholaaN4
namespace Go.Proofs.Ytpmadffgdfholaa.B
open Go.RowKit Go.Proofs.YtpmadffgdfholaaW.PrintWords Go.Proofs.YtpmadffgdfholaaW.PrintLast Go.Proofs.YtpmadffgdfholaaW.PrintMore
attribute [local go_sem] max2_int min2_int max_two min_two max_three min_three max_four min_four   -- for this text's walks alone
set_option linter.unusedVariables false
set_option linter.unusedSimpArgs false
mutual
def trishawlaw03_BranchApart.j0 : Nat → Int → List (S30) → Int → Bool → Option (Bool)
  | 0, _, _, _, _ => none
  | k + 1, x0, x1, x2, x30 => if x30 = true then ((trishawlaw03_alive.f k).bind fun t103 => (some t103)) else ((branch_Narrow.f k x0 x1).bind fun bt104 => ((branch_Apart.f k x0 x1).bind fun bt107 => (if bt104.2.2 = 0 then (if bt107.2 = 0 then (if (bt107.1.length : Int) = bt104.1 then ((trishawref03_IsSet.f x0 bt104.2.1).bind fun t111 => (trishawlaw03_BranchApart.j1 k x0 x1 x2 bt104.1 bt104.2.1 bt107.1 (!t111))) else (trishawlaw03_BranchApart.j1 k x0 x1 x2 bt104.1 bt104.2.1 bt107.1 true)) else (trishawlaw03_BranchApart.j1 k x0 x1 x2 bt104.1 bt104.2.1 bt107.1 true)) else (trishawlaw03_BranchApart.j1 k x0 x1 x2 bt104.1 bt104.2.1 bt107.1 true))))
def trishawlaw03_BranchApart.j1 : Nat → Int → List (S30) → Int → Int → Int → List (List Int) → Bool → Option (Bool)
  | 0, _, _, _, _, _, _, _ => none
  | k + 1, x0, x1, x2, x7, x8, x10, x62 => if x62 = true then (some false) else ((branch_Entering.f k x0 x1 x8).bind fun bt112 => (if 0 ≤ (wrap64 (x0 - 1)) then (if (wrap64 ((shl .i64 1 (wrap64 (x0 - 1))) - 1)) = 0 then (none) else ((branch_Entering.f k x0 x1 (wrap64 (2 * (wrap64 (1 + (Int.tmod (wrap64 (x2)) (wrap64 ((shl .i64 1 (wrap64 (x0 - 1))) - 1)))))))).bind fun bt116 => (if bt112.2 = 0 then (if bt116.2 = 0 then (if (bt112.1.length : Int) = x7 then (if (bt116.1.length : Int) < x7 then (trishawlaw03_BranchApart.j2 k x0 x1 x10 true) else (if (bt116.1.length : Int) = x7 then (trishawlaw03_BranchApart.j2 k x0 x1 x10 (decide ((wrap64 (2 * (wrap64 (1 + (Int.tmod (wrap64 (x2)) (wrap64 ((shl .i64 1 (wrap64 (x0 - 1))) - 1))))))) < x8))) else (trishawlaw03_BranchApart.j2 k x0 x1 x10 false))) else (trishawlaw03_BranchApart.j2 k x0 x1 x10 true)) else (trishawlaw03_BranchApart.j2 k x0 x1 x10 true)) else (trishawlaw03_BranchApart.j2 k x0 x1 x10 true)))) else (none)))
def trishawlaw03_BranchApart.j2 : Nat → Int → List (S30) → List (List Int) → Bool → Option (Bool)
  | 0, _, _, _, _ => none
  | k + 1, x0, x1, x10, x114 => if x114 = true then (some false) else (if 0 ≤ (x1.length : Int) then (if ((x1.length : Int) : Int).toNat ≤ 281474976710656 then (trishawlaw03_BranchApart.l0 k x0 x1 x10 (List.replicate ((x1.length : Int) : Int).toNat false) 0) else (none)) else (none))
def trishawlaw03_BranchApart.l0 : Nat → Int → List (S30) → List (List Int) → List Bool → Int → Option (Bool)
  | 0, _, _, _, _, _ => none
  | k + 1, x0, x1, x10, x15, x16 => if x16 < (x10.length : Int) then (if 0 ≤ x16 then ((branch_Is.f k x0 x1 (rd_L12 x10 x16)).bind fun bt125 => (if bt125.2.2 = 0 then (trishawlaw03_BranchApart.j4 k x0 x1 x10 x15 x16 (!bt125.2.1)) else (trishawlaw03_BranchApart.j4 k x0 x1 x10 x15 x16 true))) else (none)) else ((trishawlaw03_alive.f k).bind fun t123 => (some t123))
def trishawlaw03_BranchApart.j4 : Nat → Int → List (S30) → List (List Int) → List Bool → Int → Bool → Option (Bool)
  | 0, _, _, _, _, _, _ => none
  | k + 1, x0, x1, x10, x15, x16, x140 => if x140 = true then (some false) else (trishawlaw03_BranchApart.l1 k x0 x1 x10 x15 x16 0)
def trishawlaw03_BranchApart.l1 : Nat → Int → List (S30) → List (List Int) → List Bool → Int → Int → Option (Bool)
  | 0, _, _, _, _, _, _ => none
  | k + 1, x0, x1, x10, x15, x16, x20 => if 0 ≤ x16 then (if x16 < (x10.length : Int) then (if x20 < ((rd_L12 x10 x16).length : Int) then (if 0 ≤ x20 then (if (rd (rd_L12 x10 x16) x20) < 0 then (some false) else (if (rd (rd_L12 x10 x16) x20) ≥ (x1.length : Int) then (some false) else (if 0 ≤ (rd (rd_L12 x10 x16) x20) then (if (rd (rd_L12 x10 x16) x20) < (x15.length : Int) then (if rdOf false x15 (rd (rd_L12 x10 x16) x20) = true then (some false) else (trishawlaw03_BranchApart.l1 k x0 x1 x10 (x15.set ((rd (rd_L12 x10 x16) x20) : Int).toNat true) x16 (wrap64 (x20 + 1)))) else (none)) else (none)))) else (none)) else (trishawlaw03_BranchApart.l0 k x0 x1 x10 x15 (wrap64 (x16 + 1)))) else (none)) else (none)
end
def trishawlaw03_BranchApart.f (k : Nat) (a0 : Int) (l1 : List (S30)) (a2 : Int) : Option (Bool) := (trishawlaw03_few.f l1 ([] : List Int)).bind fun t101 => (if t101 = true then ((trishawref03_Town.f k a0 l1).bind fun t102 => (trishawlaw03_BranchApart.j0 k a0 l1 a2 (t102 != 0))) else (trishawlaw03_BranchApart.j0 k a0 l1 a2 true))
set_option maxHeartbeats 8000000 in
set_option maxRecDepth 100000 in
theorem trishawlaw03_BranchApart.calls (k : Nat) (a0 : Int) (A1 : Option Addr) (c1 : Nat) (l1 : List (S30)) (a2 : Int) (r : Bool) (w : World) (hr1 : Kd.C k30 w A1 l1.length l1) (hc1 : l1.length ≤ c1) (h : trishawlaw03_BranchApart.f k a0 l1 a2 = some r) :
  Calls Try.prog 14 #[.int .i64 a0, .slice A1 l1.length c1, .int .u8 a2] w fun e w' => e = .returned (.bool r) ∧ Below w.heap.size w w' := by
 have HR1 := Aside0.mk hr1
 have HC1 := Aside0.mk hc1
 clear hr1 hc1
 have HB := Aside0.mk (Below.refl w.heap.size w)
 have H : ((trishawlaw03_few.f l1 ([] : List Int)).bind fun t101 => (if t101 = true then ((trishawref03_Town.f k a0 l1).bind fun t102 => (trishawlaw03_BranchApart.j0 k a0 l1 a2 (t102 != 0))) else (trishawlaw03_BranchApart.j0 k a0 l1 a2 true))) = some r := h
 clear h
 have HC4 := Aside0.mk H
 clear H
 go_enter Try.func14, Try.ntmps14
 go_upto_region 1 with (fail)
 go_cut [30] (fun v30 wc => ∃ (kq : Nat) (x30_3 : Bool), v30 = .bool x30_3 ∧ Aside0 (trishawlaw03_BranchApart.j0 kq a0 l1 a2 x30_3 = some r) ∧ Aside0 (kq ≤ k) ∧ Aside0 (Below w.heap.size w wc))
 case first =>
  have H := HC4.out
  clear HC4
  replace H := Option.bind_eq_some_iff.mp H
  obtain ⟨t101, A50, H⟩ := H
  replace H : (if t101 = true then ((trishawref03_Town.f k a0 l1).bind fun t102 => (trishawlaw03_BranchApart.j0 k a0 l1 a2 (t102 != 0))) else (trishawlaw03_BranchApart.j0 k a0 l1 a2 true)) = some r := H
  have A5 := Aside0.mk A50
  clear A50
  by_cases c6 : t101 = true
  ·subst c6
   have H1 : ((trishawref03_Town.f k a0 l1).bind fun t102 => (trishawlaw03_BranchApart.j0 k a0 l1 a2 (t102 != 0))) = some r := by rw [if_pos rfl] at H; exact H
   clear H
   have H := H1
   clear H1
   replace H := Option.bind_eq_some_iff.mp H
   obtain ⟨t102, A70, H⟩ := H
   replace H : (trishawlaw03_BranchApart.j0 k a0 l1 a2 (t102 != 0)) = some r := H
   have A7 := Aside0.mk A70
   clear A70
   have H' := Aside0.mk H
   clear H
   go_wp2_with (first | ((with_reducible refine gate_callee (f := 15) rfl ?_); refine goesL_ (some 23) rfl rfl Try.func15 (by kernel_rfl) rfl #[.slice A1 l1.length c1, .slice none 0 0] rfl (by (try simp only [List.map_toArray, List.map_cons, List.map_nil]); first | done | rfl | (simp only [List.length_drop, List.length_take]; rfl)) ?_; (refine (trishawlaw03_few.calls _ _ l1 _ _ ([] : List Int) true _ ?side1 ?side2 ?side3 ?side4 A5.out).mono ?_); (case side1 => repeat (first | exact (Kd.C_below HR1.out HB.out) | (with_reducible refine Kd.C_alloc ?_ _) | (with_reducible refine Kd.C_drewN ?_ _) | (with_reducible refine Kd.C_drew ?_))); (case side2 => exact HC1.out); (case side3 => exact Kd.C_nil _ _); (case side4 => exact Nat.le_refl _); rintro e w' ⟨rfl, ⟨nd, rfl⟩⟩; refine ⟨_, rfl, ?_⟩) | (go_at_call 16; (with_reducible refine (trishawref03_Town.calls k a0 _ _ l1 t102 _ ?side1 ?side2 A7.out).mono ?_); (case side1 => repeat (first | exact (Kd.C_below HR1.out (by repeat (first | (with_reducible first | exact HB.out | apply below_alloc | apply pw_below_drewN | apply below_drew1) | exact HB.out))) | (with_reducible refine Kd.C_alloc ?_ _) | (with_reducible refine Kd.C_drewN ?_ _) | (with_reducible refine Kd.C_drew ?_))); (case side2 => exact HC1.out); rintro e w8 ⟨rfl, hb⟩; have n0_ := Aside0.mk (below_step (by repeat (first | (with_reducible first | exact HB.out | apply below_alloc | apply pw_below_drewN | apply below_drew1) | exact HB.out)) hb); clear HB; have HB := n0_; clear n0_; (try clear hb); (try clear hb2); (try clear hk); (try clear hi)))
   go_meet
   case rel => exact ⟨_, ((t102 != 0)), (by first | rfl | (simp; done) | (simp [*]; done)), H', ⟨by first | omega | exact Nat.le_refl _⟩, ⟨by repeat (first | (with_reducible first | exact HB.out | apply below_alloc | apply pw_below_drewN | apply below_drew1) | exact HB.out)⟩⟩
  ·replace c6 := Bool.eq_false_iff.mpr c6
   subst c6
   have H1 : (trishawlaw03_BranchApart.j0 k a0 l1 a2 true) = some r := by rw [if_neg (show ¬ (false = true) by decide)] at H; exact H
   clear H
   have H := H1
   clear H1
   have H' := Aside0.mk H
   clear H
   go_wp2_with (first | ((with_reducible refine gate_callee (f := 15) rfl ?_); refine goesL_ (some 23) rfl rfl Try.func15 (by kernel_rfl) rfl #[.slice A1 l1.length c1, .slice none 0 0] rfl (by (try simp only [List.map_toArray, List.map_cons, List.map_nil]); first | done | rfl | (simp only [List.length_drop, List.length_take]; rfl)) ?_; (refine (trishawlaw03_few.calls _ _ l1 _ _ ([] : List Int) false _ ?side1 ?side2 ?side3 ?side4 A5.out).mono ?_); (case side1 => repeat (first | exact (Kd.C_below HR1.out HB.out) | (with_reducible refine Kd.C_alloc ?_ _) | (with_reducible refine Kd.C_drewN ?_ _) | (with_reducible refine Kd.C_drew ?_))); (case side2 => exact HC1.out); (case side3 => exact Kd.C_nil _ _); (case side4 => exact Nat.le_refl _); rintro e w' ⟨rfl, ⟨nd, rfl⟩⟩; refine ⟨_, rfl, ?_⟩))
   go_meet
   case rel => exact ⟨_, (true), (by first | rfl | (simp; done) | (simp [*]; done)), H', ⟨by first | omega | exact Nat.le_refl _⟩, ⟨by repeat (first | (with_reducible first | exact HB.out | apply below_alloc | apply pw_below_drewN | apply below_drew1) | exact HB.out)⟩⟩
 case rest =>
  clear HC4
  try clear c1
  try clear p2
  try clear c6
  obtain ⟨kq, x30_3, rfl, HA, HJ3, HB⟩ := hcut
  cases kq with
  | zero => exact absurd HA.out (by simp [trishawlaw03_BranchApart.j0])
  | succ kj3 =>
   have H := HA.out
   clear HA
   simp only [trishawlaw03_BranchApart.j0] at H
   by_cases c9 : x30_3 = true
   ·subst c9
    have H1 : ((trishawlaw03_alive.f kj3).bind fun t103 => (some t103)) = some r := by rw [if_pos rfl] at H; exact H
    clear H
    have H := H1
    clear H1
    replace H := Option.bind_eq_some_iff.mp H
    obtain ⟨t103, A100, H⟩ := H
    replace H : (some t103) = some r := H
    have A10 := Aside0.mk A100
    clear A100
    obtain rfl := Option.some.inj H
    go_wp2_with (first | ((with_reducible refine gate_callee (f := 17) rfl ?_); refine goesL_ (some 31) rfl rfl Try.func17 (by kernel_rfl) rfl #[] rfl (by (try simp only [List.map_toArray, List.map_cons, List.map_nil]); first | done | rfl | (simp only [List.length_drop, List.length_take]; rfl)) ?_; (with_reducible refine (trishawlaw03_alive.calls kj3  t103 _ A10.out).mono ?_); rintro e w11 ⟨rfl, hb⟩; refine ⟨_, rfl, ?_⟩; have n0_ := Aside0.mk (below_step (by repeat (first | (with_reducible first | exact HB.out | apply below_alloc | apply pw_below_drewN | apply below_drew1) | exact HB.out)) hb); clear HB; have HB := n0_; clear n0_; (try clear hb); (try clear hb2); (try clear hk); (try clear hi)))
    go_ret
    exact ⟨by first | rfl | (simp [errW_none, errW_some] <;> rfl) | (simp [*, errW_none, errW_some] <;> rfl), by repeat (first | (with_reducible first | exact HB.out | apply below_alloc | apply pw_below_drewN | apply below_drew1) | exact HB.out)⟩
   ·replace c9 := Bool.eq_false_iff.mpr c9
    subst c9
    have H1 : ((branch_Narrow.f kj3 a0 l1).bind fun bt104 => ((branch_Apart.f kj3 a0 l1).bind fun bt107 => (if bt104.2.2 = 0 then (if bt107.2 = 0 then (if (bt107.1.length : Int) = bt104.1 then ((trishawref03_IsSet.f a0 bt104.2.1).bind fun t111 => (trishawlaw03_BranchApart.j1 kj3 a0 l1 a2 bt104.1 bt104.2.1 bt107.1 (!t111))) else (trishawlaw03_BranchApart.j1 kj3 a0 l1 a2 bt104.1 bt104.2.1 bt107.1 true)) else (trishawlaw03_BranchApart.j1 kj3 a0 l1 a2 bt104.1 bt104.2.1 bt107.1 true)) else (trishawlaw03_BranchApart.j1 kj3 a0 l1 a2 bt104.1 bt104.2.1 bt107.1 true)))) = some r := by rw [if_neg (show ¬ (false = true) by decide)] at H; exact H
    clear H
    have H := H1
    clear H1
    replace H := Option.bind_eq_some_iff.mp H
    obtain ⟨⟨t104, t105, t106⟩, A120, H⟩ := H
    replace H : ((branch_Apart.f kj3 a0 l1).bind fun bt107 => (if t106 = 0 then (if bt107.2 = 0 then (if (bt107.1.length : Int) = t104 then ((trishawref03_IsSet.f a0 t105).bind fun t111 => (trishawlaw03_BranchApart.j1 kj3 a0 l1 a2 t104 t105 bt107.1 (!t111))) else (trishawlaw03_BranchApart.j1 kj3 a0 l1 a2 t104 t105 bt107.1 true)) else (trishawlaw03_BranchApart.j1 kj3 a0 l1 a2 t104 t105 bt107.1 true)) else (trishawlaw03_BranchApart.j1 kj3 a0 l1 a2 t104 t105 bt107.1 true))) = some r := H
    have A12 := Aside0.mk A120
    clear A120
    replace H := Option.bind_eq_some_iff.mp H
    obtain ⟨⟨t107, t108⟩, A130, H⟩ := H
    replace H : (if t106 = 0 then (if t108 = 0 then (if (t107.length : Int) = t104 then ((trishawref03_IsSet.f a0 t105).bind fun t111 => (trishawlaw03_BranchApart.j1 kj3 a0 l1 a2 t104 t105 t107 (!t111))) else (trishawlaw03_BranchApart.j1 kj3 a0 l1 a2 t104 t105 t107 true)) else (trishawlaw03_BranchApart.j1 kj3 a0 l1 a2 t104 t105 t107 true)) else (trishawlaw03_BranchApart.j1 kj3 a0 l1 a2 t104 t105 t107 true)) = some r := H
    have A13 := Aside0.mk A130
    clear A130
    have HC14 := Aside0.mk H
    clear H
    go_upto_region 5 with (first | ((with_reducible refine gate_callee (f := 30) rfl ?_); refine goesL_ (some 35) rfl rfl Try.func30 (by kernel_rfl) rfl #[.int .i64 a0, .slice A1 l1.length c1] rfl (by (try simp only [List.map_toArray, List.map_cons, List.map_nil]); first | done | rfl | (simp only [List.length_drop, List.length_take]; rfl)) ?_; (with_reducible refine (branch_Narrow.calls kj3 a0 _ _ l1 t104 t105 t106 _ ?side1 ?side2 A12.out).mono ?_); (case side1 => repeat (first | exact (Kd.C_below HR1.out HB.out) | (with_reducible refine Kd.C_alloc ?_ _) | (with_reducible refine Kd.C_drewN ?_ _) | (with_reducible refine Kd.C_drew ?_))); (case side2 => exact HC1.out); rintro e w15 ⟨rfl, hb⟩; refine ⟨_, rfl, ?_⟩; have n0_ := Aside0.mk (below_step (by repeat (first | (with_reducible first | exact HB.out | apply below_alloc | apply pw_below_drewN | apply below_drew1) | exact HB.out)) hb); clear HB; have HB := n0_; clear n0_; (try clear hb); (try clear hb2); (try clear hk); (try clear hi)) | ((with_reducible refine gate_callee (f := 40) rfl ?_); refine goesL_ (some 42) rfl rfl Try.func40 (by kernel_rfl) rfl #[.int .i64 a0, .slice A1 l1.length c1] rfl (by (try simp only [List.map_toArray, List.map_cons, List.map_nil]); first | done | rfl | (simp only [List.length_drop, List.length_take]; rfl)) ?_; (with_reducible refine (branch_Apart.calls kj3 a0 _ _ l1 t107 t108 _ ?side1 ?side2 A13.out).mono ?_); (case side1 => repeat (first | exact (Kd.C_below HR1.out HB.out) | (with_reducible refine Kd.C_alloc ?_ _) | (with_reducible refine Kd.C_drewN ?_ _) | (with_reducible refine Kd.C_drew ?_))); (case side2 => exact HC1.out); rintro e w16 ⟨v109, rfl, ho0, hb⟩; refine ⟨_, rfl, ?_⟩; have n0_ := Aside0.mk (Kd.R_lower ho0 (below_size (by repeat (first | (with_reducible first | exact HB.out | apply below_alloc | apply pw_below_drewN | apply below_drew1) | exact HB.out)))); have n1_ := Aside0.mk (below_step (by repeat (first | (with_reducible first | exact HB.out | apply below_alloc | apply pw_below_drewN | apply below_drew1) | exact HB.out)) hb); clear HB; have HO110 := n0_; have HB := n1_; clear n0_ n1_; (try clear hb); (try clear hb2); (try clear hk); (try clear hi); (try clear ho0)))
    (try simp only [Act.put, List.setIfInBounds_toArray, List.set_cons_zero, List.set_cons_succ])
    go_cut [62] (fun v62 wc => ∃ (kq : Nat) (x62_13 : Bool), v62 = .bool x62_13 ∧ Aside0 (trishawlaw03_BranchApart.j1 kq a0 l1 a2 t104 t105 t107 x62_13 = some r) ∧ Aside0 (kq ≤ kj3) ∧ Aside0 (Kd.R (Kd.slice 3 (Kd.int .i64)) 28 wc w.heap.size (fun _ => True) v109 t107) ∧ Aside0 (Below w.heap.size w wc))
    case first =>
     have H := HC14.out
     clear HC14
     by_cases c17 : t106 = 0
     ·rw [if_pos c17] at H
      have c17b0 : (t106 == 0) = true := beq_iff_eq.mpr c17
      have c17b1 : (t106 != 0) = false := bne_eq_false_iff_eq.mpr c17
      clear c17
      (first | rw [c17b0] | (simp only [i64_w, i32_w]; rw [c17b0]) | skip)
      by_cases c18 : t108 = 0
      ·rw [if_pos c18] at H
       have c18b0 : (t108 == 0) = true := beq_iff_eq.mpr c18
       have c18b1 : (t108 != 0) = false := bne_eq_false_iff_eq.mpr c18
       clear c18
       by_cases c19 : (t107.length : Int) = t104
       ·rw [if_pos c19] at H
        have c19b0 : ((t107.length : Int) == t104) = true := beq_iff_eq.mpr c19
        have c19b1 : ((t107.length : Int) != t104) = false := bne_eq_false_iff_eq.mpr c19
        clear c19
        replace H := Option.bind_eq_some_iff.mp H
        obtain ⟨t111, A200, H⟩ := H
        replace H : (trishawlaw03_BranchApart.j1 kj3 a0 l1 a2 t104 t105 t107 (!t111)) = some r := H
        have A20 := Aside0.mk A200
        clear A200
        have H' := Aside0.mk H
        clear H
        obtain ⟨Ao21, co21, eo21⟩ := Kd.R_slice HO110.out
        subst eo21
        go_wp2_with (first | (go_at_call 42; (with_reducible refine (trishawref03_IsSet.calls a0 t105 t111 _ A20.out).mono ?_); rintro e w' ⟨rfl, ⟨nd, rfl⟩⟩))
        go_meet
        case rel => exact ⟨_, (!t111), (by first | rfl | (simp; done) | (simp [*]; done)), H', ⟨by have := HJ3.out; first | omega | exact Nat.le_refl _⟩, ⟨by (with_reducible repeat (first | apply Kd.R_alloc | apply Kd.R_drewN | apply Kd.R_drew)); exact HO110.out⟩, ⟨by repeat (first | (with_reducible first | exact HB.out | apply below_alloc | apply pw_below_drewN | apply below_drew1) | exact HB.out)⟩⟩
       ·rw [if_neg c19] at H
        have c19b0 : ((t107.length : Int) == t104) = false := beq_eq_false_iff_ne.mpr c19
        have c19b1 : ((t107.length : Int) != t104) = true := bne_iff_ne.mpr c19
        have H' := Aside0.mk H
        clear H
        obtain ⟨Ao22, co22, eo22⟩ := Kd.R_slice HO110.out
        subst eo22
        go_wp2
        go_meet
        case rel => exact ⟨_, (true), (by first | rfl | (simp; done) | (simp [*]; done)), H', ⟨by have := HJ3.out; first | omega | exact Nat.le_refl _⟩, ⟨by (with_reducible repeat (first | apply Kd.R_alloc | apply Kd.R_drewN | apply Kd.R_drew)); exact HO110.out⟩, ⟨by repeat (first | (with_reducible first | exact HB.out | apply below_alloc | apply pw_below_drewN | apply below_drew1) | exact HB.out)⟩⟩
      ·rw [if_neg c18] at H
       have c18b0 : (t108 == 0) = false := beq_eq_false_iff_ne.mpr c18
       have c18b1 : (t108 != 0) = true := bne_iff_ne.mpr c18
       have H' := Aside0.mk H
       clear H
       go_wp2
       go_meet
       case rel => exact ⟨_, (true), (by first | rfl | (simp; done) | (simp [*]; done)), H', ⟨by have := HJ3.out; first | omega | exact Nat.le_refl _⟩, ⟨by (with_reducible repeat (first | apply Kd.R_alloc | apply Kd.R_drewN | apply Kd.R_drew)); exact HO110.out⟩, ⟨by repeat (first | (with_reducible first | exact HB.out | apply below_alloc | apply pw_below_drewN | apply below_drew1) | exact HB.out)⟩⟩
     ·rw [if_neg c17] at H
      have c17b0 : (t106 == 0) = false := beq_eq_false_iff_ne.mpr c17
      have c17b1 : (t106 != 0) = true := bne_iff_ne.mpr c17
      (first | rw [c17b0] | (simp only [i64_w, i32_w]; rw [c17b0]) | skip)
      have H' := Aside0.mk H
      clear H
      go_wp2
      go_meet
      case rel => exact ⟨_, (true), (by first | rfl | (simp; done) | (simp [*]; done)), H', ⟨by have := HJ3.out; first | omega | exact Nat.le_refl _⟩, ⟨by (with_reducible repeat (first | apply Kd.R_alloc | apply Kd.R_drewN | apply Kd.R_drew)); exact HO110.out⟩, ⟨by repeat (first | (with_reducible first | exact HB.out | apply below_alloc | apply pw_below_drewN | apply below_drew1) | exact HB.out)⟩⟩
    case rest =>
     clear HC14
     try clear c1
     try clear p2
     try clear c3
     try clear c4
     try clear c6
     try clear c9
     try clear c14
     try clear c15
     try clear c17
     try clear c17b0
     try clear c17b1
     try clear c18
     try clear c18b0
     try clear c18b1
     try clear c19
     try clear c19b0
     try clear c19b1
     try clear p2
     obtain ⟨kq, x62_13, rfl, HA, HJ13, HO_10, HB⟩ := hcut
     cases kq with
     | zero => exact absurd HA.out (by simp [trishawlaw03_BranchApart.j1])
     | succ kj13 =>
      have H := HA.out
      clear HA
      simp only [trishawlaw03_BranchApart.j1] at H
      by_cases c23 : x62_13 = true
      ·subst c23
       have H1 : (some false) = some r := by rw [if_pos rfl] at H; exact H
       clear H
       have H := H1
       clear H1
       obtain rfl := Option.some.inj H
       go_wp2
       go_ret
       exact ⟨by first | rfl | (simp [errW_none, errW_some] <;> rfl) | (simp [*, errW_none, errW_some] <;> rfl), by repeat (first | (with_reducible first | exact HB.out | apply below_alloc | apply pw_below_drewN | apply below_drew1) | exact HB.out)⟩
      ·replace c23 := Bool.eq_false_iff.mpr c23
       subst c23
       have H1 : ((branch_Entering.f kj13 a0 l1 t105).bind fun bt112 => (if 0 ≤ (wrap64 (a0 - 1)) then (if (wrap64 ((shl .i64 1 (wrap64 (a0 - 1))) - 1)) = 0 then (none) else ((branch_Entering.f kj13 a0 l1 (wrap64 (2 * (wrap64 (1 + (Int.tmod (wrap64 (a2)) (wrap64 ((shl .i64 1 (wrap64 (a0 - 1))) - 1)))))))).bind fun bt116 => (if bt112.2 = 0 then (if bt116.2 = 0 then (if (bt112.1.length : Int) = t104 then (if (bt116.1.length : Int) < t104 then (trishawlaw03_BranchApart.j2 kj13 a0 l1 t107 true) else (if (bt116.1.length : Int) = t104 then (trishawlaw03_BranchApart.j2 kj13 a0 l1 t107 (decide ((wrap64 (2 * (wrap64 (1 + (Int.tmod (wrap64 (a2)) (wrap64 ((shl .i64 1 (wrap64 (a0 - 1))) - 1))))))) < t105))) else (trishawlaw03_BranchApart.j2 kj13 a0 l1 t107 false))) else (trishawlaw03_BranchApart.j2 kj13 a0 l1 t107 true)) else (trishawlaw03_BranchApart.j2 kj13 a0 l1 t107 true)) else (trishawlaw03_BranchApart.j2 kj13 a0 l1 t107 true)))) else (none))) = some r := by rw [if_neg (show ¬ (false = true) by decide)] at H; exact H
       clear H
       have H := H1
       clear H1
       replace H := Option.bind_eq_some_iff.mp H
       obtain ⟨⟨t112, t113⟩, A240, H⟩ := H
       replace H : (if 0 ≤ (wrap64 (a0 - 1)) then (if (wrap64 ((shl .i64 1 (wrap64 (a0 - 1))) - 1)) = 0 then (none) else ((branch_Entering.f kj13 a0 l1 (wrap64 (2 * (wrap64 (1 + (Int.tmod (wrap64 (a2)) (wrap64 ((shl .i64 1 (wrap64 (a0 - 1))) - 1)))))))).bind fun bt116 => (if t113 = 0 then (if bt116.2 = 0 then (if (t112.length : Int) = t104 then (if (bt116.1.length : Int) < t104 then (trishawlaw03_BranchApart.j2 kj13 a0 l1 t107 true) else (if (bt116.1.length : Int) = t104 then (trishawlaw03_BranchApart.j2 kj13 a0 l1 t107 (decide ((wrap64 (2 * (wrap64 (1 + (Int.tmod (wrap64 (a2)) (wrap64 ((shl .i64 1 (wrap64 (a0 - 1))) - 1))))))) < t105))) else (trishawlaw03_BranchApart.j2 kj13 a0 l1 t107 false))) else (trishawlaw03_BranchApart.j2 kj13 a0 l1 t107 true)) else (trishawlaw03_BranchApart.j2 kj13 a0 l1 t107 true)) else (trishawlaw03_BranchApart.j2 kj13 a0 l1 t107 true)))) else (none)) = some r := H
       have A24 := Aside0.mk A240
       clear A240
       obtain ⟨ji25, hji25⟩ : ∃ j_ : Int, (wrap64 (a0 - 1)) = j_ := ⟨_, rfl⟩
       replace H : (if 0 ≤ (ji25) then (if (wrap64 ((shl .i64 1 (ji25)) - 1)) = 0 then (none) else ((branch_Entering.f kj13 a0 l1 (wrap64 (2 * (wrap64 (1 + (Int.tmod (wrap64 (a2)) (wrap64 ((shl .i64 1 (ji25)) - 1)))))))).bind fun bt116 => (if t113 = 0 then (if bt116.2 = 0 then (if (t112.length : Int) = t104 then (if (bt116.1.length : Int) < t104 then (trishawlaw03_BranchApart.j2 kj13 a0 l1 t107 true) else (if (bt116.1.length : Int) = t104 then (trishawlaw03_BranchApart.j2 kj13 a0 l1 t107 (decide ((wrap64 (2 * (wrap64 (1 + (Int.tmod (wrap64 (a2)) (wrap64 ((shl .i64 1 (ji25)) - 1))))))) < t105))) else (trishawlaw03_BranchApart.j2 kj13 a0 l1 t107 false))) else (trishawlaw03_BranchApart.j2 kj13 a0 l1 t107 true)) else (trishawlaw03_BranchApart.j2 kj13 a0 l1 t107 true)) else (trishawlaw03_BranchApart.j2 kj13 a0 l1 t107 true)))) else (none)) = some r := by first | (rw [hji25] at H; exact H) | (simp only [hji25] at H ⊢; exact H)
       (try rw [hji25] at A24)
       have hji25w : (IntKind.i64.wrap (a0 - 1)) = ji25 := (i64_w _).trans hji25
       by_cases c26 : 0 ≤ (ji25)
       ·rw [if_pos c26] at H
        have c26b0 := eq_true c26
        have c26b1 : decide (0 ≤ (ji25)) = true := decide_eq_true c26
        clear c26
        obtain ⟨ji27, hji27⟩ : ∃ j_ : Int, (shl .i64 1 (ji25)) = j_ := ⟨_, rfl⟩
        replace H : (if (wrap64 ((ji27) - 1)) = 0 then (none) else ((branch_Entering.f kj13 a0 l1 (wrap64 (2 * (wrap64 (1 + (Int.tmod (wrap64 (a2)) (wrap64 ((ji27) - 1)))))))).bind fun bt116 => (if t113 = 0 then (if bt116.2 = 0 then (if (t112.length : Int) = t104 then (if (bt116.1.length : Int) < t104 then (trishawlaw03_BranchApart.j2 kj13 a0 l1 t107 true) else (if (bt116.1.length : Int) = t104 then (trishawlaw03_BranchApart.j2 kj13 a0 l1 t107 (decide ((wrap64 (2 * (wrap64 (1 + (Int.tmod (wrap64 (a2)) (wrap64 ((ji27) - 1))))))) < t105))) else (trishawlaw03_BranchApart.j2 kj13 a0 l1 t107 false))) else (trishawlaw03_BranchApart.j2 kj13 a0 l1 t107 true)) else (trishawlaw03_BranchApart.j2 kj13 a0 l1 t107 true)) else (trishawlaw03_BranchApart.j2 kj13 a0 l1 t107 true)))) = some r := by first | (rw [hji27] at H; exact H) | (simp only [hji27] at H ⊢; exact H)
        (try rw [hji27] at A24)
        have hji27_ : (IntKind.i64.wrap (1 * 2 ^ min (ji25).toNat 64)) = ji27 := hji27
        have hji27z : (ji25) ≤ 64 → (IntKind.i64.wrap (1 * 2 ^ (ji25).toNat)) = ji27 := shl_small hji27
        have hji27u : (IntKind.i64.wrap (2 ^ min (ji25).toNat 64)) = ji27 := by have h_ := hji27_; rw [Int.one_mul] at h_; exact h_
        have hji27v : (ji25) ≤ 64 → (IntKind.i64.wrap (2 ^ (ji25).toNat)) = ji27 := fun hle_ => by have h_ := hji27z hle_; rw [Int.one_mul] at h_; exact h_
        have hji27y : (wrap64 (1 * 2 ^ min (ji25).toNat 64)) = ji27 := (i64_w _).symm.trans hji27_
        have hji27x : (ji25) ≤ 64 → (wrap64 (1 * 2 ^ (ji25).toNat)) = ji27 := fun h_ => (i64_w _).symm.trans (hji27z h_)
        by_cases c28 : (wrap64 ((ji27) - 1)) = 0
        ·rw [if_pos c28] at H
         exact absurd H (by simp)
        ·rw [if_neg c28] at H
         have c28b0 : ((wrap64 ((ji27) - 1)) == 0) = false := beq_eq_false_iff_ne.mpr c28
         have c28b1 : ((wrap64 ((ji27) - 1)) != 0) = true := bne_iff_ne.mpr c28
         replace H := Option.bind_eq_some_iff.mp H
         obtain ⟨⟨t116, t117⟩, A290, H⟩ := H
         replace H : (if t113 = 0 then (if t117 = 0 then (if (t112.length : Int) = t104 then (if (t116.length : Int) < t104 then (trishawlaw03_BranchApart.j2 kj13 a0 l1 t107 true) else (if (t116.length : Int) = t104 then (trishawlaw03_BranchApart.j2 kj13 a0 l1 t107 (decide ((wrap64 (2 * (wrap64 (1 + (Int.tmod (wrap64 (a2)) (wrap64 ((ji27) - 1))))))) < t105))) else (trishawlaw03_BranchApart.j2 kj13 a0 l1 t107 false))) else (trishawlaw03_BranchApart.j2 kj13 a0 l1 t107 true)) else (trishawlaw03_BranchApart.j2 kj13 a0 l1 t107 true)) else (trishawlaw03_BranchApart.j2 kj13 a0 l1 t107 true)) = some r := H
         have A29 := Aside0.mk A290
         clear A290
         have HC30 := Aside0.mk H
         clear H
         go_upto_region 10 with (first | ((with_reducible refine gate_callee (f := 33) rfl ?_); refine goesL_ (some 67) rfl rfl Try.func33 (by kernel_rfl) rfl #[.int .i64 a0, .slice A1 l1.length c1, .int .i64 t105] rfl (by (try simp only [List.map_toArray, List.map_cons, List.map_nil]); first | done | rfl | (simp only [List.length_drop, List.length_take]; rfl)) ?_; (with_reducible refine (branch_Entering.calls kj13 a0 _ _ l1 t105 t112 t113 _ ?side1 ?side2 A24.out).mono ?_); (case side1 => repeat (first | exact (Kd.C_below HR1.out HB.out) | (with_reducible refine Kd.C_alloc ?_ _) | (with_reducible refine Kd.C_drewN ?_ _) | (with_reducible refine Kd.C_drew ?_))); (case side2 => exact HC1.out); rintro e w31 ⟨v114, rfl, ho0, hb⟩; refine ⟨_, rfl, ?_⟩; have n0_ := Aside0.mk (Kd.R_elder' (by (with_reducible repeat (first | apply Kd.R_alloc | apply Kd.R_drewN | apply Kd.R_drew)); exact HO_10.out) (Kd.R_base ho0) hb); have n1_ := Aside0.mk (Kd.R_lower ho0 (below_size (by repeat (first | (with_reducible first | exact HB.out | apply below_alloc | apply pw_below_drewN | apply below_drew1) | exact HB.out)))); have n2_ := Aside0.mk (below_step (by repeat (first | (with_reducible first | exact HB.out | apply below_alloc | apply pw_below_drewN | apply below_drew1) | exact HB.out)) hb); clear HO_10; clear HB; have HO_10 := n0_; have HO115 := n1_; have HB := n2_; clear n0_ n1_ n2_; (try clear hb); (try clear hb2); (try clear hk); (try clear hi); (try clear ho0)) | ((with_reducible refine gate_callee (f := 33) rfl ?_); refine goesL_ (some 83) rfl rfl Try.func33 (by kernel_rfl) rfl #[.int .i64 a0, .slice A1 l1.length c1, .int .i64 (wrap64 (2 * (wrap64 (1 + (Int.tmod (wrap64 (a2)) (wrap64 ((ji27) - 1)))))))] rfl (by (try simp only [List.map_toArray, List.map_cons, List.map_nil]); first | done | (simp only [hji27]; rfl) | rfl | (simp only [List.length_drop, List.length_take]; rfl)) ?_; (with_reducible refine (branch_Entering.calls kj13 a0 _ _ l1 (wrap64 (2 * (wrap64 (1 + (Int.tmod (wrap64 (a2)) (wrap64 ((ji27) - 1))))))) t116 t117 _ ?side1 ?side2 A29.out).mono ?_); (case side1 => repeat (first | exact (Kd.C_below HR1.out HB.out) | (with_reducible refine Kd.C_alloc ?_ _) | (with_reducible refine Kd.C_drewN ?_ _) | (with_reducible refine Kd.C_drew ?_))); (case side2 => exact HC1.out); rintro e w32 ⟨v118, rfl, ho0, hb⟩; refine ⟨_, rfl, ?_⟩; have n0_ := Aside0.mk (Kd.R_elder' (by (with_reducible repeat (first | apply Kd.R_alloc | apply Kd.R_drewN | apply Kd.R_drew)); exact HO_10.out) (Kd.R_base ho0) hb); have n1_ := Aside0.mk (Kd.R_elder' (by (with_reducible repeat (first | apply Kd.R_alloc | apply Kd.R_drewN | apply Kd.R_drew)); exact HO115.out) (Kd.R_base ho0) hb); have n2_ := Aside0.mk (Kd.R_lower (Kd.R_new' ho0 (Kd.R_lt (by (with_reducible repeat (first | apply Kd.R_alloc | apply Kd.R_drewN | apply Kd.R_drew)); exact HO115.out))) (below_size (by repeat (first | (with_reducible first | exact HB.out | apply below_alloc | apply pw_below_drewN | apply below_drew1) | exact HB.out)))); have n3_ := Aside0.mk (below_step (by repeat (first | (with_reducible first | exact HB.out | apply below_alloc | apply pw_below_drewN | apply below_drew1) | exact HB.out)) hb); clear HO_10; clear HO115; clear HB; have HO_10 := n0_; have HO115 := n1_; have HO119 := n2_; have HB := n3_; clear n0_ n1_ n2_ n3_; (try clear hb); (try clear hb2); (try clear hk); (try clear hi); (try clear ho0)))
         (try simp only [Act.put, List.setIfInBounds_toArray, List.set_cons_zero, List.set_cons_succ])
         go_cut [114] (fun v114 wc => ∃ (kq : Nat) (x114_29 : Bool), v114 = .bool x114_29 ∧ Aside0 (trishawlaw03_BranchApart.j2 kq a0 l1 t107 x114_29 = some r) ∧ Aside0 (kq ≤ kj13) ∧ Aside0 (Kd.R (Kd.slice 3 (Kd.int .i64)) 28 wc w.heap.size (fun _ => True) v109 t107) ∧ Aside0 (Below w.heap.size w wc))
         case first =>
          have H := HC30.out
          clear HC30
          by_cases c33 : t113 = 0
          ·rw [if_pos c33] at H
           have c33b0 : (t113 == 0) = true := beq_iff_eq.mpr c33
           have c33b1 : (t113 != 0) = false := bne_eq_false_iff_eq.mpr c33
           clear c33
           (first | rw [c33b0] | (simp only [i64_w, i32_w]; rw [c33b0]) | skip)
           by_cases c34 : t117 = 0
           ·rw [if_pos c34] at H
            have c34b0 : (t117 == 0) = true := beq_iff_eq.mpr c34
            have c34b1 : (t117 != 0) = false := bne_eq_false_iff_eq.mpr c34
            clear c34
            by_cases c35 : (t112.length : Int) = t104
            ·rw [if_pos c35] at H
             have c35b0 : ((t112.length : Int) == t104) = true := beq_iff_eq.mpr c35
             have c35b1 : ((t112.length : Int) != t104) = false := bne_eq_false_iff_eq.mpr c35
             clear c35
             by_cases c36 : (t116.length : Int) < t104
             ·rw [if_pos c36] at H
              have c36b0 : decide ((t116.length : Int) < t104) = true := decide_eq_true c36
              clear c36
              have H' := Aside0.mk H
              clear H
              obtain ⟨Ao37, co37, eo37⟩ := Kd.R_slice HO115.out
              subst eo37
              obtain ⟨Ao38, co38, eo38⟩ := Kd.R_slice HO119.out
              subst eo38
              go_wp2
              go_meet
              case rel => exact ⟨_, (true), (by first | rfl | (simp; done) | (simp [*]; done)), H', ⟨by have := HJ3.out; have := HJ13.out; first | omega | exact Nat.le_refl _⟩, ⟨by (with_reducible repeat (first | apply Kd.R_alloc | apply Kd.R_drewN | apply Kd.R_drew)); exact Kd.R_mono HO_10.out (fun _ hk => trivial)⟩, ⟨by repeat (first | (with_reducible first | exact HB.out | apply below_alloc | apply pw_below_drewN | apply below_drew1) | exact HB.out)⟩⟩
             ·rw [if_neg c36] at H
              have c36b0 : decide ((t116.length : Int) < t104) = false := decide_eq_false c36
              clear c36
              by_cases c39 : (t116.length : Int) = t104
              ·rw [if_pos c39] at H
               have c39b0 : ((t116.length : Int) == t104) = true := beq_iff_eq.mpr c39
               have c39b1 : ((t116.length : Int) != t104) = false := bne_eq_false_iff_eq.mpr c39
               clear c39
               have H' := Aside0.mk H
               clear H
               obtain ⟨Ao40, co40, eo40⟩ := Kd.R_slice HO115.out
               subst eo40
               obtain ⟨Ao41, co41, eo41⟩ := Kd.R_slice HO119.out
               subst eo41
               go_wp2
               go_meet
               case rel => exact ⟨_, (decide ((wrap64 (2 * (wrap64 (1 + (Int.tmod (wrap64 (a2)) (wrap64 ((ji27) - 1))))))) < t105)), (by first | rfl | (simp; done) | (simp only [← hji27] <;> (first | rfl | simp)) | (simp [*]; done)), H', ⟨by have := HJ3.out; have := HJ13.out; first | omega | exact Nat.le_refl _⟩, ⟨by (with_reducible repeat (first | apply Kd.R_alloc | apply Kd.R_drewN | apply Kd.R_drew)); exact Kd.R_mono HO_10.out (fun _ hk => trivial)⟩, ⟨by repeat (first | (with_reducible first | exact HB.out | apply below_alloc | apply pw_below_drewN | apply below_drew1) | exact HB.out)⟩⟩
              ·rw [if_neg c39] at H
               have c39b0 : ((t116.length : Int) == t104) = false := beq_eq_false_iff_ne.mpr c39
               have c39b1 : ((t116.length : Int) != t104) = true := bne_iff_ne.mpr c39
               have H' := Aside0.mk H
               clear H
               obtain ⟨Ao42, co42, eo42⟩ := Kd.R_slice HO115.out
               subst eo42
               obtain ⟨Ao43, co43, eo43⟩ := Kd.R_slice HO119.out
               subst eo43
               go_wp2
               go_meet
               case rel => exact ⟨_, (false), (by first | rfl | (simp; done) | (simp [*]; done)), H', ⟨by have := HJ3.out; have := HJ13.out; first | omega | exact Nat.le_refl _⟩, ⟨by (with_reducible repeat (first | apply Kd.R_alloc | apply Kd.R_drewN | apply Kd.R_drew)); exact Kd.R_mono HO_10.out (fun _ hk => trivial)⟩, ⟨by repeat (first | (with_reducible first | exact HB.out | apply below_alloc | apply pw_below_drewN | apply below_drew1) | exact HB.out)⟩⟩
            ·rw [if_neg c35] at H
             have c35b0 : ((t112.length : Int) == t104) = false := beq_eq_false_iff_ne.mpr c35
             have c35b1 : ((t112.length : Int) != t104) = true := bne_iff_ne.mpr c35
             have H' := Aside0.mk H
             clear H
             obtain ⟨Ao44, co44, eo44⟩ := Kd.R_slice HO115.out
             subst eo44
             go_wp2
             go_meet
             case rel => exact ⟨_, (true), (by first | rfl | (simp; done) | (simp [*]; done)), H', ⟨by have := HJ3.out; have := HJ13.out; first | omega | exact Nat.le_refl _⟩, ⟨by (with_reducible repeat (first | apply Kd.R_alloc | apply Kd.R_drewN | apply Kd.R_drew)); exact Kd.R_mono HO_10.out (fun _ hk => trivial)⟩, ⟨by repeat (first | (with_reducible first | exact HB.out | apply below_alloc | apply pw_below_drewN | apply below_drew1) | exact HB.out)⟩⟩
           ·rw [if_neg c34] at H
            have c34b0 : (t117 == 0) = false := beq_eq_false_iff_ne.mpr c34
            have c34b1 : (t117 != 0) = true := bne_iff_ne.mpr c34
            have H' := Aside0.mk H
            clear H
            go_wp2
            go_meet
            case rel => exact ⟨_, (true), (by first | rfl | (simp; done) | (simp [*]; done)), H', ⟨by have := HJ3.out; have := HJ13.out; first | omega | exact Nat.le_refl _⟩, ⟨by (with_reducible repeat (first | apply Kd.R_alloc | apply Kd.R_drewN | apply Kd.R_drew)); exact Kd.R_mono HO_10.out (fun _ hk => trivial)⟩, ⟨by repeat (first | (with_reducible first | exact HB.out | apply below_alloc | apply pw_below_drewN | apply below_drew1) | exact HB.out)⟩⟩
          ·rw [if_neg c33] at H
           have c33b0 : (t113 == 0) = false := beq_eq_false_iff_ne.mpr c33
           have c33b1 : (t113 != 0) = true := bne_iff_ne.mpr c33
           (first | rw [c33b0] | (simp only [i64_w, i32_w]; rw [c33b0]) | skip)
           have H' := Aside0.mk H
           clear H
           go_wp2
           go_meet
           case rel => exact ⟨_, (true), (by first | rfl | (simp; done) | (simp [*]; done)), H', ⟨by have := HJ3.out; have := HJ13.out; first | omega | exact Nat.le_refl _⟩, ⟨by (with_reducible repeat (first | apply Kd.R_alloc | apply Kd.R_drewN | apply Kd.R_drew)); exact Kd.R_mono HO_10.out (fun _ hk => trivial)⟩, ⟨by repeat (first | (with_reducible first | exact HB.out | apply below_alloc | apply pw_below_drewN | apply below_drew1) | exact HB.out)⟩⟩
         case rest =>
          clear HC30
          try clear c1
          try clear c2
          try clear p2
          try clear c3
          try clear c4
          try clear c6
          try clear p6
          try clear c9
          try clear c14
          try clear c15
          try clear c17
          try clear c17b0
          try clear c17b1
          try clear c18
          try clear c18b0
          try clear c18b1
          try clear c19
          try clear c19b0
          try clear c19b1
          try clear c23
          try clear c26
          try clear c26b0
          try clear c26b1
          try clear c28
          try clear c28b0
          try clear c28b1
          try clear c30
          try clear c33
          try clear c33b0
          try clear c33b1
          try clear c34
          try clear c34b0
          try clear c34b1
          try clear c35
          try clear c35b0
          try clear c35b1
          try clear c36
          try clear c36b0
          try clear c39
          try clear c39b0
          try clear c39b1
          try clear c40
          try clear p2
          obtain ⟨kq, x114_29, rfl, HA, HJ29, HO_10, HB⟩ := hcut
          cases kq with
          | zero => exact absurd HA.out (by simp [trishawlaw03_BranchApart.j2])
          | succ kj29 =>
           have H := HA.out
           clear HA
           simp only [trishawlaw03_BranchApart.j2] at H
           by_cases c45 : x114_29 = true
           ·subst c45
            have H1 : (some false) = some r := by rw [if_pos rfl] at H; exact H
            clear H
            have H := H1
            clear H1
            obtain rfl := Option.some.inj H
            go_wp2
            go_ret
            exact ⟨by first | rfl | (simp [errW_none, errW_some] <;> rfl) | (simp only [← hji25, ← hji27]; first | rfl | (simp [errW_none, errW_some] <;> rfl)) | (simp [*, errW_none, errW_some] <;> rfl), by repeat (first | (with_reducible first | exact HB.out | apply below_alloc | apply pw_below_drewN | apply below_drew1) | exact HB.out)⟩
           ·replace c45 := Bool.eq_false_iff.mpr c45
            subst c45
            have H1 : (if 0 ≤ (l1.length : Int) then (if ((l1.length : Int) : Int).toNat ≤ 281474976710656 then (trishawlaw03_BranchApart.l0 kj29 a0 l1 t107 (List.replicate ((l1.length : Int) : Int).toNat false) 0) else (none)) else (none)) = some r := by rw [if_neg (show ¬ (false = true) by decide)] at H; exact H
            clear H
            have H := H1
            clear H1
            by_cases c46 : 0 ≤ (l1.length : Int)
            ·rw [if_pos c46] at H
             have c46b0 := eq_true c46
             have c46b1 : decide (0 ≤ (l1.length : Int)) = true := decide_eq_true c46
             clear c46
             by_cases c47 : ((l1.length : Int) : Int).toNat ≤ 281474976710656
             ·rw [if_pos c47] at H
              have c47b0 := eq_true c47
              have c47b1 : decide (((l1.length : Int) : Int).toNat ≤ 281474976710656) = true := decide_eq_true c47
              clear c47
              obtain ⟨y120, hy120⟩ : ∃ y_ : List Bool, y_ = (List.replicate ((l1.length : Int) : Int).toNat false) := ⟨_, rfl⟩
              replace H : (trishawlaw03_BranchApart.l0 kj29 a0 l1 t107 y120 0) = some r := by first | (rw [hy120]; with_reducible exact H) | (have H2_ := (Option.bind_some _ _).symm.trans H; rw [hy120]; with_reducible exact H2_) | (have H2_ := (Option.bind_some _ _).symm.trans H; with_reducible exact H2_) | with_reducible exact H | (rw [hy120]; exact H) | exact H
              have Ny120 := Aside0.mk hy120
              clear hy120
              have H' := Aside0.mk H
              clear H
              go_wp2_with (first | ((with_reducible refine gate_dst (N := 117) rfl ?_); (try (refine gate_guard (by rfl) ?_; dsimp only)); refine Kd.R_make Kd.bool _ 4 rfl (N := 117) rfl 62 _ _ rfl (l1.length : Int) rfl rfl Try.underlying62 (.bool false) 1 info4 rfl (by decide) (by omega) false (ok := fun _ => True) (okp := fun _ => True) rfl (fun _ hk => hk) trivial (of_decide_eq_true (by first | (with_reducible assumption) | assumption)) (Nat.le_trans (Nat.mul_le_mul_right _ (of_decide_eq_true (by first | (with_reducible assumption) | assumption) : (l1.length : Int).toNat ≤ 281474976710656)) (by omega)) (Below.refl _ _) (Nat.le_refl _) ?_; intro v121 w48 ho49 hb hg_ hnew_; clear hg_ hnew_; (first | rw [← Ny120.out] at ho49 | (simp only [Int.reduceToNat] at ho49; rw [← Ny120.out] at ho49)); have n0_ := Aside0.mk (Kd.R_below (by (with_reducible repeat (first | apply Kd.R_alloc | apply Kd.R_drewN | apply Kd.R_drew)); exact HO_10.out) hb); have n1_ := Aside0.mk (Kd.R_lower ho49 (below_size (by repeat (first | (with_reducible first | exact HB.out | apply below_alloc | apply pw_below_drewN | apply below_drew1) | exact HB.out)))); have n2_ := Aside0.mk (below_step (by repeat (first | (with_reducible first | exact HB.out | apply below_alloc | apply pw_below_drewN | apply below_drew1) | exact HB.out)) hb); clear HO_10; clear HB; have HO_10 := n0_; have HO122 := n1_; have HB := n2_; clear n0_ n1_ n2_; clear hb ho49))
              go_loopg [16] kj29 (fun kq v16 w' => ∃ (x15_4 : List Bool) (x16_4 : Int), v16 = .int .i64 x16_4 ∧ Aside0 (trishawlaw03_BranchApart.l0 kq a0 l1 t107 x15_4 x16_4 = some r) ∧ Aside0 (kq ≤ kj29) ∧ Aside0 (Kd.R (Kd.slice 3 (Kd.int .i64)) 28 w' w.heap.size (fun _ => True) v109 t107) ∧ Aside0 (Kd.R Kd.bool 4 w' w.heap.size (fun _ => True) v121 x15_4) ∧ Aside0 (Below w.heap.size w w'))
              case atStart => exact ⟨(y120), (0), (by first | rfl | (simp; done) | (simp [*]; done)), H', ⟨Nat.le_refl _⟩, ⟨by (with_reducible repeat (first | apply Kd.R_alloc | apply Kd.R_drewN | apply Kd.R_drew)); exact HO_10.out⟩, ⟨by (with_reducible repeat (first | apply Kd.R_alloc | apply Kd.R_drewN | apply Kd.R_drew)); exact HO122.out⟩, ⟨by repeat (first | (with_reducible first | exact HB.out | apply below_alloc | apply pw_below_drewN | apply below_drew1) | exact HB.out)⟩⟩
              case round =>
               clear H'
               try clear c1
               try clear c2
               try clear p2
               try clear c3
               try clear c4
               try clear c6
               try clear p6
               try clear c9
               try clear c14
               try clear c15
               try clear c17
               try clear c17b0
               try clear c17b1
               try clear c18
               try clear c18b0
               try clear c18b1
               try clear c19
               try clear c19b0
               try clear c19b1
               try clear c23
               try clear c26
               try clear c26b0
               try clear c26b1
               try clear c28
               try clear c28b0
               try clear c28b1
               try clear c30
               try clear c33
               try clear c33b0
               try clear c33b1
               try clear c34
               try clear c34b0
               try clear c34b1
               try clear c35
               try clear c35b0
               try clear c35b1
               try clear c36
               try clear c36b0
               try clear c39
               try clear c39b0
               try clear c39b1
               try clear c40
               try clear c45
               try clear c46
               try clear c46b0
               try clear c46b1
               try clear c47
               try clear c47b0
               try clear c47b1
               try clear p2
               try clear p6
               obtain ⟨x15_4, x16_4, rfl, HA, HK4, HO_10, HO_15, HB⟩ := hrel
               cases gk with
               | zero => exact absurd HA.out (by simp [trishawlaw03_BranchApart.l0])
               | succ k4 =>
                have H := HA.out
                clear HA
                simp only [trishawlaw03_BranchApart.l0] at H
                by_cases c50 : x16_4 < (t107.length : Int)
                ·rw [if_pos c50] at H
                 have c50b0 : decide (x16_4 < (t107.length : Int)) = true := decide_eq_true c50
                 clear c50
                 by_cases c51 : 0 ≤ x16_4
                 ·rw [if_pos c51] at H
                  have c51b0 : decide (0 ≤ x16_4) = true := decide_eq_true c51
                  clear c51
                  replace H := Option.bind_eq_some_iff.mp H
                  obtain ⟨⟨t125, t126, t127⟩, A520, H⟩ := H
                  replace H : (if t127 = 0 then (trishawlaw03_BranchApart.j4 k4 a0 l1 t107 x15_4 x16_4 (!t126)) else (trishawlaw03_BranchApart.j4 k4 a0 l1 t107 x15_4 x16_4 true)) = some r := H
                  have A52 := Aside0.mk A520
                  clear A520
                  have HC53 := Aside0.mk H
                  clear H
                  obtain ⟨Ao54, co54, eo54⟩ := Kd.R_slice HO_10.out
                  subst eo54
                  have p124 : 0 ≤ (x16_4 : Int) := of_decide_eq_true (by first | (with_reducible assumption) | assumption)
                  have q124 : x16_4 < (t107.length : Int) := of_decide_eq_true (by first | (with_reducible assumption) | assumption)
                  obtain ⟨ad124, A124_0, c124_0, e124, hx124_0, hl124_0, hi124_0⟩ := at_L12 (Kd.R_reads' HO_10.out).2.2 x16_4 p124 q124
                  cases e124
                  obtain ⟨ce124, hce124, hMe124, hcc124⟩ := Kd.R_get HO_10.out [] x16_4 p124 (by first | exact q124 | exact of_decide_eq_true (by first | (with_reducible assumption) | assumption) | (have e_ := (Kd.R_reads' HO_10.out).1; omega))
                  obtain ⟨ve124_0, rfl, ge124_0⟩ := hMe124
                  have hv124_0 := hcc124 0 _ rfl
                  rw [Nat.add_zero, show ((Kd.slice 3 (Kd.int .i64))).sz = 1 from rfl, Nat.mul_one] at hv124_0
                  replace hv124_0 := Option.some.inj (hv124_0.symm.trans hx124_0)
                  rw [hv124_0] at ge124_0
                  have HL124_0 := Aside0.mk (show Kd.R (Kd.int .i64) 3 _ _ _ _ (rd_L12 t107 x16_4) from ge124_0)
                  clear hv124_0 ge124_0
                  clear hcc124 hce124
                  have HR124_0 := Aside0.mk hi124_0
                  have HC124_0 := Aside0.mk hl124_0
                  clear hi124_0 hl124_0
                  replace p124 := eq_true p124
                  replace q124 := eq_true q124
                  go_upto_region 17 with (first | ((with_reducible refine gate_callee (f := 35) rfl ?_); refine goesL_ (some 131) rfl rfl Try.func35 (by kernel_rfl) rfl #[.int .i64 a0, .slice A1 l1.length c1, .slice A124_0 (rd_L12 t107 x16_4).length c124_0] rfl (by (try simp only [List.map_toArray, List.map_cons, List.map_nil]); first | done | rfl | (simp only [List.length_drop, List.length_take]; rfl)) ?_; (with_reducible refine (branch_Is.calls k4 a0 _ _ l1 _ _ (rd_L12 t107 x16_4) t125 t126 t127 _ ?side1 ?side2 ?side3 ?side4 A52.out).mono ?_); (case side1 => repeat (first | exact (Kd.C_below HR1.out HB.out) | (with_reducible refine Kd.C_alloc ?_ _) | (with_reducible refine Kd.C_drewN ?_ _) | (with_reducible refine Kd.C_drew ?_))); (case side2 => exact HC1.out); (case side3 => repeat (first | exact (by repeat (first | (with_reducible exact HR124_0.out) | (with_reducible refine Kd.C_alloc ?_ _) | (with_reducible refine Kd.C_drewN ?_ _) | (with_reducible refine Kd.C_drew ?_) | exact HR124_0.out)) | (with_reducible refine Kd.C_alloc ?_ _) | (with_reducible refine Kd.C_drewN ?_ _) | (with_reducible refine Kd.C_drew ?_))); (case side4 => exact HC124_0.out); rintro e w55 ⟨rfl, hb⟩; refine ⟨_, rfl, ?_⟩; have n0_ := Aside0.mk (Kd.R_below (by (with_reducible repeat (first | apply Kd.R_alloc | apply Kd.R_drewN | apply Kd.R_drew)); exact HO_10.out) hb); have n1_ := Aside0.mk (Kd.R_below (by (with_reducible repeat (first | apply Kd.R_alloc | apply Kd.R_drewN | apply Kd.R_drew)); exact HO_15.out) hb); have n2_ := Aside0.mk (Kd.R_below (by (with_reducible repeat (first | apply Kd.R_alloc | apply Kd.R_drewN | apply Kd.R_drew)); exact HL124_0.out) hb); have n3_ := Aside0.mk (Kd.C_below (by repeat (first | (with_reducible exact HR124_0.out) | (with_reducible refine Kd.C_alloc ?_ _) | (with_reducible refine Kd.C_drewN ?_ _) | (with_reducible refine Kd.C_drew ?_) | exact HR124_0.out)) hb); have n4_ := Aside0.mk (below_step (by repeat (first | (with_reducible first | exact HB.out | apply below_alloc | apply pw_below_drewN | apply below_drew1) | exact HB.out)) hb); clear HO_10; clear HO_15; clear HL124_0; clear HR124_0; clear HB; have HO_10 := n0_; have HO_15 := n1_; have HL124_0 := n2_; have HR124_0 := n3_; have HB := n4_; clear n0_ n1_ n2_ n3_ n4_; (try clear hb); (try clear hb2); (try clear hk); (try clear hi)))
                  (try simp only [Act.put, List.setIfInBounds_toArray, List.set_cons_zero, List.set_cons_succ])
                  go_cut [140] (fun v140 wc => ∃ (kq : Nat) (x140_52 : Bool), v140 = .bool x140_52 ∧ Aside0 (trishawlaw03_BranchApart.j4 kq a0 l1 t107 x15_4 x16_4 x140_52 = some r) ∧ Aside0 (kq ≤ k4) ∧ Aside0 (Kd.R (Kd.slice 3 (Kd.int .i64)) 28 wc w.heap.size (fun _ => True) (.slice (some ad124) t107.length co54) t107) ∧ Aside0 (Kd.R Kd.bool 4 wc w.heap.size (fun _ => True) v121 x15_4) ∧ Aside0 (Kd.C (Kd.int .i64) wc A124_0 (rd_L12 t107 x16_4).length (rd_L12 t107 x16_4)) ∧ Aside0 (Below w.heap.size w wc))
                  case first =>
                   have H := HC53.out
                   clear HC53
                   by_cases c56 : t127 = 0
                   ·rw [if_pos c56] at H
                    have c56b0 : (t127 == 0) = true := beq_iff_eq.mpr c56
                    have c56b1 : (t127 != 0) = false := bne_eq_false_iff_eq.mpr c56
                    clear c56
                    (first | rw [c56b0] | (simp only [i64_w, i32_w]; rw [c56b0]) | skip)
                    have H' := Aside0.mk H
                    clear H
                    go_wp2
                    go_meet
                    case rel => exact ⟨_, (!t126), (by first | rfl | (simp; done) | (simp [*]; done)), H', ⟨by have := HJ3.out; have := HJ13.out; have := HJ29.out; have := HK4.out; first | omega | exact Nat.le_refl _⟩, ⟨by (with_reducible repeat (first | apply Kd.R_alloc | apply Kd.R_drewN | apply Kd.R_drew)); exact HO_10.out⟩, ⟨by (with_reducible repeat (first | apply Kd.R_alloc | apply Kd.R_drewN | apply Kd.R_drew)); exact HO_15.out⟩, ⟨by repeat (first | (with_reducible exact HR124_0.out) | (with_reducible refine Kd.C_alloc ?_ _) | (with_reducible refine Kd.C_drewN ?_ _) | (with_reducible refine Kd.C_drew ?_) | exact HR124_0.out)⟩, ⟨by repeat (first | (with_reducible first | exact HB.out | apply below_alloc | apply pw_below_drewN | apply below_drew1) | exact HB.out)⟩⟩
                   ·rw [if_neg c56] at H
                    have c56b0 : (t127 == 0) = false := beq_eq_false_iff_ne.mpr c56
                    have c56b1 : (t127 != 0) = true := bne_iff_ne.mpr c56
                    (first | rw [c56b0] | (simp only [i64_w, i32_w]; rw [c56b0]) | skip)
                    have H' := Aside0.mk H
                    clear H
                    go_wp2
                    go_meet
                    case rel => exact ⟨_, (true), (by first | rfl | (simp; done) | (simp [*]; done)), H', ⟨by have := HJ3.out; have := HJ13.out; have := HJ29.out; have := HK4.out; first | omega | exact Nat.le_refl _⟩, ⟨by (with_reducible repeat (first | apply Kd.R_alloc | apply Kd.R_drewN | apply Kd.R_drew)); exact HO_10.out⟩, ⟨by (with_reducible repeat (first | apply Kd.R_alloc | apply Kd.R_drewN | apply Kd.R_drew)); exact HO_15.out⟩, ⟨by repeat (first | (with_reducible exact HR124_0.out) | (with_reducible refine Kd.C_alloc ?_ _) | (with_reducible refine Kd.C_drewN ?_ _) | (with_reducible refine Kd.C_drew ?_) | exact HR124_0.out)⟩, ⟨by repeat (first | (with_reducible first | exact HB.out | apply below_alloc | apply pw_below_drewN | apply below_drew1) | exact HB.out)⟩⟩
                  case rest =>
                   clear HC53
                   try clear c1
                   try clear p1
                   try clear q1
                   try clear hx1
                   try clear c2
                   try clear p2
                   try clear c3
                   try clear c4
                   try clear c5
                   try clear c6
                   try clear p6
                   try clear c9
                   try clear c12
                   try clear p12
                   try clear q12
                   try clear hx12
                   try clear c14
                   try clear c15
                   try clear c17
                   try clear c17b0
                   try clear c17b1
                   try clear c18
                   try clear c18b0
                   try clear c18b1
                   try clear c19
                   try clear c19b0
                   try clear c19b1
                   try clear c23
                   try clear c26
                   try clear c26b0
                   try clear c26b1
                   try clear c28
                   try clear c28b0
                   try clear c28b1
                   try clear c30
                   try clear c33
                   try clear c33b0
                   try clear c33b1
                   try clear c34
                   try clear c34b0
                   try clear c34b1
                   try clear c35
                   try clear c35b0
                   try clear c35b1
                   try clear c36
                   try clear c36b0
                   try clear c39
                   try clear c39b0
                   try clear c39b1
                   try clear c40
                   try clear c45
                   try clear c46
                   try clear c46b0
                   try clear c46b1
                   try clear c47
                   try clear c47b0
                   try clear c47b1
                   try clear c50
                   try clear c50b0
                   try clear c51
                   try clear c51b0
                   try clear c56
                   try clear c56b0
                   try clear c56b1
                   try clear hx124_0
                   try clear p124
                   try clear p2
                   try clear p6
                   try clear q124
                   obtain ⟨kq, x140_52, rfl, HA, HJ52, HO_10, HO_15, HR124_0, HB⟩ := hcut
                   cases kq with
                   | zero => exact absurd HA.out (by simp [trishawlaw03_BranchApart.j4])
                   | succ kj52 =>
                    have H := HA.out
                    clear HA
                    simp only [trishawlaw03_BranchApart.j4] at H
                    by_cases c57 : x140_52 = true
                    ·subst c57
                     have H1 : (some false) = some r := by rw [if_pos rfl] at H; exact H
                     clear H
                     have H := H1
                     clear H1
                     obtain rfl := Option.some.inj H
                     go_wp2
                     go_ret
                     exact ⟨by first | rfl | (simp [errW_none, errW_some] <;> rfl) | (simp only [← hji25, ← hji27]; first | rfl | (simp [errW_none, errW_some] <;> rfl)) | (simp [*, errW_none, errW_some] <;> rfl), by repeat (first | (with_reducible first | exact HB.out | apply below_alloc | apply pw_below_drewN | apply below_drew1) | exact HB.out)⟩
                    ·replace c57 := Bool.eq_false_iff.mpr c57
                     subst c57
                     have H1 : (trishawlaw03_BranchApart.l1 kj52 a0 l1 t107 x15_4 x16_4 0) = some r := by rw [if_neg (show ¬ (false = true) by decide)] at H; exact H
                     clear H
                     have H := H1
                     clear H1
                     have H' := Aside0.mk H
                     clear H
                     go_wp2
                     go_loopg [20] kj52 (fun kq v20 w' => ∃ (x15_6 : List Bool) (x20_6 : Int), v20 = .int .i64 x20_6 ∧ Aside0 (trishawlaw03_BranchApart.l1 kq a0 l1 t107 x15_6 x16_4 x20_6 = some r) ∧ Aside0 (kq ≤ kj52) ∧ Aside0 (Kd.R (Kd.slice 3 (Kd.int .i64)) 28 w' w.heap.size (fun _ => True) (.slice (some ad124) t107.length co54) t107) ∧ Aside0 (Kd.R Kd.bool 4 w' w.heap.size (fun _ => True) v121 x15_6) ∧ Aside0 (Below w.heap.size w w'))
                     case atStart => exact ⟨(x15_4), (0), (by first | rfl | (simp; done) | (simp [*]; done)), H', ⟨Nat.le_refl _⟩, ⟨by (with_reducible repeat (first | apply Kd.R_alloc | apply Kd.R_drewN | apply Kd.R_drew)); exact HO_10.out⟩, ⟨by (with_reducible repeat (first | apply Kd.R_alloc | apply Kd.R_drewN | apply Kd.R_drew)); exact HO_15.out⟩, ⟨by repeat (first | (with_reducible first | exact HB.out | apply below_alloc | apply pw_below_drewN | apply below_drew1) | exact HB.out)⟩⟩
                     case round =>
                      clear H'
                      try clear c1
                      try clear p1
                      try clear q1
                      try clear hx1
                      try clear c2
                      try clear p2
                      try clear c3
                      try clear c4
                      try clear c5
                      try clear c6
                      try clear p6
                      try clear c9
                      try clear c12
                      try clear p12
                      try clear q12
                      try clear hx12
                      try clear c14
                      try clear c15
                      try clear c17
                      try clear c17b0
                      try clear c17b1
                      try clear c18
                      try clear c18b0
                      try clear c18b1
                      try clear c19
                      try clear c19b0
                      try clear c19b1
                      try clear c23
                      try clear c26
                      try clear c26b0
                      try clear c26b1
                      try clear c28
                      try clear c28b0
                      try clear c28b1
                      try clear c30
                      try clear c33
                      try clear c33b0
                      try clear c33b1
                      try clear c34
                      try clear c34b0
                      try clear c34b1
                      try clear c35
                      try clear c35b0
                      try clear c35b1
                      try clear c36
                      try clear c36b0
                      try clear c39
                      try clear c39b0
                      try clear c39b1
                      try clear c40
                      try clear c45
                      try clear c46
                      try clear c46b0
                      try clear c46b1
                      try clear c47
                      try clear c47b0
                      try clear c47b1
                      try clear c50
                      try clear c50b0
                      try clear c51
                      try clear c51b0
                      try clear c56
                      try clear c56b0
                      try clear c56b1
                      try clear c57
                      try clear hx124_0
                      try clear p1
                      try clear p12
                      try clear p124
                      try clear p2
                      try clear p6
                      try clear q1
                      try clear q12
                      try clear q124
                      obtain ⟨x15_6, x20_6, rfl, HA, HK6, HO_10, HO_15, HB⟩ := hrel
                      cases gk with
                      | zero => exact absurd HA.out (by simp [trishawlaw03_BranchApart.l1])
                      | succ k6 =>
                       have H := HA.out
                       clear HA
                       simp only [trishawlaw03_BranchApart.l1] at H
                       by_cases c58 : 0 ≤ x16_4
                       ·rw [if_pos c58] at H
                        have c58b0 : decide (0 ≤ x16_4) = true := decide_eq_true c58
                        clear c58
                        by_cases c59 : x16_4 < (t107.length : Int)
                        ·rw [if_pos c59] at H
                         have c59b0 : decide (x16_4 < (t107.length : Int)) = true := decide_eq_true c59
                         clear c59
                         by_cases c60 : x20_6 < ((rd_L12 t107 x16_4).length : Int)
                         ·rw [if_pos c60] at H
                          have c60b0 : decide (x20_6 < ((rd_L12 t107 x16_4).length : Int)) = true := decide_eq_true c60
                          clear c60
                          by_cases c61 : 0 ≤ x20_6
                          ·rw [if_pos c61] at H
                           have c61b0 : decide (0 ≤ x20_6) = true := decide_eq_true c61
                           clear c61
                           by_cases c62 : (rd (rd_L12 t107 x16_4) x20_6) < 0
                           ·rw [if_pos c62] at H
                            have c62b0 : decide ((rd (rd_L12 t107 x16_4) x20_6) < 0) = true := decide_eq_true c62
                            clear c62
                            obtain rfl := Option.some.inj H
                            have p128 : 0 ≤ (x16_4 : Int) := of_decide_eq_true (by first | (with_reducible assumption) | assumption)
                            have q128 : x16_4 < (t107.length : Int) := of_decide_eq_true (by first | (with_reducible assumption) | assumption)
                            obtain ⟨ad128, A128_0, c128_0, e128, hx128_0, hl128_0, hi128_0⟩ := at_L12 (Kd.R_reads' HO_10.out).2.2 x16_4 p128 q128
                            obtain rfl : ad124 = ad128 := (by injection e128)
                            obtain ⟨ce128, hce128, hMe128, hcc128⟩ := Kd.R_get HO_10.out [] x16_4 p128 (by first | exact q128 | exact of_decide_eq_true (by first | (with_reducible assumption) | assumption) | (have e_ := (Kd.R_reads' HO_10.out).1; omega))
                            obtain ⟨ve128_0, rfl, ge128_0⟩ := hMe128
                            have hv128_0 := hcc128 0 _ rfl
                            rw [Nat.add_zero, show ((Kd.slice 3 (Kd.int .i64))).sz = 1 from rfl, Nat.mul_one] at hv128_0
                            replace hv128_0 := Option.some.inj (hv128_0.symm.trans hx128_0)
                            rw [hv128_0] at ge128_0
                            have HL128_0 := Aside0.mk (show Kd.R (Kd.int .i64) 3 _ _ _ _ (rd_L12 t107 x16_4) from ge128_0)
                            clear hv128_0 ge128_0
                            clear hcc128 hce128
                            have HR128_0 := Aside0.mk hi128_0
                            have HC128_0 := Aside0.mk hl128_0
                            clear hi128_0 hl128_0
                            replace p128 := eq_true p128
                            replace q128 := eq_true q128
                            have p129 : 0 ≤ (x16_4 : Int) := of_decide_eq_true (by first | (with_reducible assumption) | assumption)
                            have q129 : x16_4 < (t107.length : Int) := of_decide_eq_true (by first | (with_reducible assumption) | assumption)
                            obtain ⟨ad129, A129_0, c129_0, e129, hx129_0, hl129_0, hi129_0⟩ := at_L12 (Kd.R_reads' HO_10.out).2.2 x16_4 p129 q129
                            obtain rfl : ad124 = ad129 := (by injection e129)
                            obtain ⟨ce129, hce129, hMe129, hcc129⟩ := Kd.R_get HO_10.out [] x16_4 p129 (by first | exact q129 | exact of_decide_eq_true (by first | (with_reducible assumption) | assumption) | (have e_ := (Kd.R_reads' HO_10.out).1; omega))
                            obtain ⟨ve129_0, rfl, ge129_0⟩ := hMe129
                            have hv129_0 := hcc129 0 _ rfl
                            rw [Nat.add_zero, show ((Kd.slice 3 (Kd.int .i64))).sz = 1 from rfl, Nat.mul_one] at hv129_0
                            replace hv129_0 := Option.some.inj (hv129_0.symm.trans hx129_0)
                            rw [hv129_0] at ge129_0
                            have HL129_0 := Aside0.mk (show Kd.R (Kd.int .i64) 3 _ _ _ _ (rd_L12 t107 x16_4) from ge129_0)
                            clear hv129_0 ge129_0
                            clear hcc129 hce129
                            have HR129_0 := Aside0.mk hi129_0
                            have HC129_0 := Aside0.mk hl129_0
                            clear hi129_0 hl129_0
                            replace p129 := eq_true p129
                            replace q129 := eq_true q129
                            have ea_ := Option.some.inj (hx128_0.symm.trans hx129_0)
                            injection ea_ with ea_ en_ ec_
                            subst ea_
                            subst ec_
                            clear en_
                            have p130 : 0 ≤ (x20_6 : Int) := of_decide_eq_true (by first | (with_reducible assumption) | assumption)
                            have q130 : x20_6 < ((rd_L12 t107 x16_4).length : Int) := of_decide_eq_true (by first | (with_reducible assumption) | assumption)
                            obtain ⟨ad130, e130, hx130_0⟩ := Kd.at_int (by repeat (first | (with_reducible exact HR129_0.out) | (with_reducible refine Kd.C_alloc ?_ _) | (with_reducible refine Kd.C_drewN ?_ _) | (with_reducible refine Kd.C_drew ?_) | exact HR129_0.out)) x20_6 p130 q130
                            cases e130
                            replace p130 := eq_true p130
                            replace q130 := eq_true q130
                            go_wp2
                            go_ret
                            exact ⟨by first | rfl | (simp [errW_none, errW_some] <;> rfl) | (simp only [← hji25, ← hji27]; first | rfl | (simp [errW_none, errW_some] <;> rfl)) | (simp [*, errW_none, errW_some] <;> rfl), by repeat (first | (with_reducible first | exact HB.out | apply below_alloc | apply pw_below_drewN | apply below_drew1) | exact HB.out)⟩
                           ·rw [if_neg c62] at H
                            have c62b0 : decide ((rd (rd_L12 t107 x16_4) x20_6) < 0) = false := decide_eq_false c62
                            clear c62
                            by_cases c63 : (rd (rd_L12 t107 x16_4) x20_6) ≥ (l1.length : Int)
                            ·rw [if_pos c63] at H
                             have c63b0 : decide ((l1.length : Int) ≤ (rd (rd_L12 t107 x16_4) x20_6)) = true := decide_eq_true c63
                             clear c63
                             obtain rfl := Option.some.inj H
                             have p128 : 0 ≤ (x16_4 : Int) := of_decide_eq_true (by first | (with_reducible assumption) | assumption)
                             have q128 : x16_4 < (t107.length : Int) := of_decide_eq_true (by first | (with_reducible assumption) | assumption)
                             obtain ⟨ad128, A128_0, c128_0, e128, hx128_0, hl128_0, hi128_0⟩ := at_L12 (Kd.R_reads' HO_10.out).2.2 x16_4 p128 q128
                             obtain rfl : ad124 = ad128 := (by injection e128)
                             obtain ⟨ce128, hce128, hMe128, hcc128⟩ := Kd.R_get HO_10.out [] x16_4 p128 (by first | exact q128 | exact of_decide_eq_true (by first | (with_reducible assumption) | assumption) | (have e_ := (Kd.R_reads' HO_10.out).1; omega))
                             obtain ⟨ve128_0, rfl, ge128_0⟩ := hMe128
                             have hv128_0 := hcc128 0 _ rfl
                             rw [Nat.add_zero, show ((Kd.slice 3 (Kd.int .i64))).sz = 1 from rfl, Nat.mul_one] at hv128_0
                             replace hv128_0 := Option.some.inj (hv128_0.symm.trans hx128_0)
                             rw [hv128_0] at ge128_0
                             have HL128_0 := Aside0.mk (show Kd.R (Kd.int .i64) 3 _ _ _ _ (rd_L12 t107 x16_4) from ge128_0)
                             clear hv128_0 ge128_0
                             clear hcc128 hce128
                             have HR128_0 := Aside0.mk hi128_0
                             have HC128_0 := Aside0.mk hl128_0
                             clear hi128_0 hl128_0
                             replace p128 := eq_true p128
                             replace q128 := eq_true q128
                             have p129 : 0 ≤ (x16_4 : Int) := of_decide_eq_true (by first | (with_reducible assumption) | assumption)
                             have q129 : x16_4 < (t107.length : Int) := of_decide_eq_true (by first | (with_reducible assumption) | assumption)
                             obtain ⟨ad129, A129_0, c129_0, e129, hx129_0, hl129_0, hi129_0⟩ := at_L12 (Kd.R_reads' HO_10.out).2.2 x16_4 p129 q129
                             obtain rfl : ad124 = ad129 := (by injection e129)
                             obtain ⟨ce129, hce129, hMe129, hcc129⟩ := Kd.R_get HO_10.out [] x16_4 p129 (by first | exact q129 | exact of_decide_eq_true (by first | (with_reducible assumption) | assumption) | (have e_ := (Kd.R_reads' HO_10.out).1; omega))
                             obtain ⟨ve129_0, rfl, ge129_0⟩ := hMe129
                             have hv129_0 := hcc129 0 _ rfl
                             rw [Nat.add_zero, show ((Kd.slice 3 (Kd.int .i64))).sz = 1 from rfl, Nat.mul_one] at hv129_0
                             replace hv129_0 := Option.some.inj (hv129_0.symm.trans hx129_0)
                             rw [hv129_0] at ge129_0
                             have HL129_0 := Aside0.mk (show Kd.R (Kd.int .i64) 3 _ _ _ _ (rd_L12 t107 x16_4) from ge129_0)
                             clear hv129_0 ge129_0
                             clear hcc129 hce129
                             have HR129_0 := Aside0.mk hi129_0
                             have HC129_0 := Aside0.mk hl129_0
                             clear hi129_0 hl129_0
                             replace p129 := eq_true p129
                             replace q129 := eq_true q129
                             have ea_ := Option.some.inj (hx128_0.symm.trans hx129_0)
                             injection ea_ with ea_ en_ ec_
                             subst ea_
                             subst ec_
                             clear en_
                             have p130 : 0 ≤ (x20_6 : Int) := of_decide_eq_true (by first | (with_reducible assumption) | assumption)
                             have q130 : x20_6 < ((rd_L12 t107 x16_4).length : Int) := of_decide_eq_true (by first | (with_reducible assumption) | assumption)
                             obtain ⟨ad130, e130, hx130_0⟩ := Kd.at_int (by repeat (first | (with_reducible exact HR129_0.out) | (with_reducible refine Kd.C_alloc ?_ _) | (with_reducible refine Kd.C_drewN ?_ _) | (with_reducible refine Kd.C_drew ?_) | exact HR129_0.out)) x20_6 p130 q130
                             cases e130
                             replace p130 := eq_true p130
                             replace q130 := eq_true q130
                             go_wp2
                             go_ret
                             exact ⟨by first | rfl | (simp [errW_none, errW_some] <;> rfl) | (simp only [← hji25, ← hji27]; first | rfl | (simp [errW_none, errW_some] <;> rfl)) | (simp [*, errW_none, errW_some] <;> rfl), by repeat (first | (with_reducible first | exact HB.out | apply below_alloc | apply pw_below_drewN | apply below_drew1) | exact HB.out)⟩
                            ·rw [if_neg c63] at H
                             have c63b0 : decide ((l1.length : Int) ≤ (rd (rd_L12 t107 x16_4) x20_6)) = false := decide_eq_false c63
                             clear c63
                             by_cases c64 : 0 ≤ (rd (rd_L12 t107 x16_4) x20_6)
                             ·rw [if_pos c64] at H
                              have c64b0 : decide (0 ≤ (rd (rd_L12 t107 x16_4) x20_6)) = true := decide_eq_true c64
                              clear c64
                              by_cases c65 : (rd (rd_L12 t107 x16_4) x20_6) < (x15_6.length : Int)
                              ·rw [if_pos c65] at H
                               have c65b0 : decide ((rd (rd_L12 t107 x16_4) x20_6) < (x15_6.length : Int)) = true := decide_eq_true c65
                               clear c65
                               obtain ⟨bq66, hbq66⟩ : ∃ b_ : Bool, b_ = (rdOf false x15_6 (rd (rd_L12 t107 x16_4) x20_6)) := ⟨_, rfl⟩
                               replace H : (if bq66 = true then (some false) else (trishawlaw03_BranchApart.l1 k6 a0 l1 t107 (x15_6.set ((rd (rd_L12 t107 x16_4) x20_6) : Int).toNat true) x16_4 (wrap64 (x20_6 + 1)))) = some r := by rw [← hbq66] at H; exact H
                               have Nbq66 := Aside0.mk hbq66
                               clear hbq66
                               by_cases c67 : bq66 = true
                               ·subst c67
                                have H1 : (some false) = some r := by rw [if_pos rfl] at H; exact H
                                clear H
                                have H := H1
                                clear H1
                                obtain rfl := Option.some.inj H
                                have p128 : 0 ≤ (x16_4 : Int) := of_decide_eq_true (by first | (with_reducible assumption) | assumption)
                                have q128 : x16_4 < (t107.length : Int) := of_decide_eq_true (by first | (with_reducible assumption) | assumption)
                                obtain ⟨ad128, A128_0, c128_0, e128, hx128_0, hl128_0, hi128_0⟩ := at_L12 (Kd.R_reads' HO_10.out).2.2 x16_4 p128 q128
                                obtain rfl : ad124 = ad128 := (by injection e128)
                                obtain ⟨ce128, hce128, hMe128, hcc128⟩ := Kd.R_get HO_10.out [] x16_4 p128 (by first | exact q128 | exact of_decide_eq_true (by first | (with_reducible assumption) | assumption) | (have e_ := (Kd.R_reads' HO_10.out).1; omega))
                                obtain ⟨ve128_0, rfl, ge128_0⟩ := hMe128
                                have hv128_0 := hcc128 0 _ rfl
                                rw [Nat.add_zero, show ((Kd.slice 3 (Kd.int .i64))).sz = 1 from rfl, Nat.mul_one] at hv128_0
                                replace hv128_0 := Option.some.inj (hv128_0.symm.trans hx128_0)
                                rw [hv128_0] at ge128_0
                                have HL128_0 := Aside0.mk (show Kd.R (Kd.int .i64) 3 _ _ _ _ (rd_L12 t107 x16_4) from ge128_0)
                                clear hv128_0 ge128_0
                                clear hcc128 hce128
                                have HR128_0 := Aside0.mk hi128_0
                                have HC128_0 := Aside0.mk hl128_0
                                clear hi128_0 hl128_0
                                replace p128 := eq_true p128
                                replace q128 := eq_true q128
                                have p129 : 0 ≤ (x16_4 : Int) := of_decide_eq_true (by first | (with_reducible assumption) | assumption)
                                have q129 : x16_4 < (t107.length : Int) := of_decide_eq_true (by first | (with_reducible assumption) | assumption)
                                obtain ⟨ad129, A129_0, c129_0, e129, hx129_0, hl129_0, hi129_0⟩ := at_L12 (Kd.R_reads' HO_10.out).2.2 x16_4 p129 q129
                                obtain rfl : ad124 = ad129 := (by injection e129)
                                obtain ⟨ce129, hce129, hMe129, hcc129⟩ := Kd.R_get HO_10.out [] x16_4 p129 (by first | exact q129 | exact of_decide_eq_true (by first | (with_reducible assumption) | assumption) | (have e_ := (Kd.R_reads' HO_10.out).1; omega))
                                obtain ⟨ve129_0, rfl, ge129_0⟩ := hMe129
                                have hv129_0 := hcc129 0 _ rfl
                                rw [Nat.add_zero, show ((Kd.slice 3 (Kd.int .i64))).sz = 1 from rfl, Nat.mul_one] at hv129_0
                                replace hv129_0 := Option.some.inj (hv129_0.symm.trans hx129_0)
                                rw [hv129_0] at ge129_0
                                have HL129_0 := Aside0.mk (show Kd.R (Kd.int .i64) 3 _ _ _ _ (rd_L12 t107 x16_4) from ge129_0)
                                clear hv129_0 ge129_0
                                clear hcc129 hce129
                                have HR129_0 := Aside0.mk hi129_0
                                have HC129_0 := Aside0.mk hl129_0
                                clear hi129_0 hl129_0
                                replace p129 := eq_true p129
                                replace q129 := eq_true q129
                                have ea_ := Option.some.inj (hx128_0.symm.trans hx129_0)
                                injection ea_ with ea_ en_ ec_
                                subst ea_
                                subst ec_
                                clear en_
                                have p130 : 0 ≤ (x20_6 : Int) := of_decide_eq_true (by first | (with_reducible assumption) | assumption)
                                have q130 : x20_6 < ((rd_L12 t107 x16_4).length : Int) := of_decide_eq_true (by first | (with_reducible assumption) | assumption)
                                obtain ⟨ad130, e130, hx130_0⟩ := Kd.at_int (by repeat (first | (with_reducible exact HR129_0.out) | (with_reducible refine Kd.C_alloc ?_ _) | (with_reducible refine Kd.C_drewN ?_ _) | (with_reducible refine Kd.C_drew ?_) | exact HR129_0.out)) x20_6 p130 q130
                                cases e130
                                replace p130 := eq_true p130
                                replace q130 := eq_true q130
                                obtain ⟨Ao68, co68, eo68⟩ := Kd.R_slice HO_15.out
                                subst eo68
                                have p131 : 0 ≤ ((rd (rd_L12 t107 x16_4) x20_6) : Int) := of_decide_eq_true (by first | (with_reducible assumption) | assumption)
                                have q131 : (rd (rd_L12 t107 x16_4) x20_6) < (x15_6.length : Int) := of_decide_eq_true (by first | (with_reducible assumption) | assumption)
                                obtain ⟨ad131, e131, hx131_0⟩ := Kd.at_bool (Kd.R_reads' HO_15.out).2.2 (rd (rd_L12 t107 x16_4) x20_6) p131 q131
                                (try rw [← Nbq66.out] at hx131_0)
                                cases e131
                                replace p131 := eq_true p131
                                replace q131 := eq_true q131
                                go_wp2
                                go_ret
                                exact ⟨by first | rfl | (simp [errW_none, errW_some] <;> rfl) | (simp only [← hji25, ← hji27]; first | rfl | (simp [errW_none, errW_some] <;> rfl)) | (simp [*, errW_none, errW_some] <;> rfl), by repeat (first | (with_reducible first | exact HB.out | apply below_alloc | apply pw_below_drewN | apply below_drew1) | exact HB.out)⟩
                               ·replace c67 := Bool.eq_false_iff.mpr c67
                                subst c67
                                have H1 : (trishawlaw03_BranchApart.l1 k6 a0 l1 t107 (x15_6.set ((rd (rd_L12 t107 x16_4) x20_6) : Int).toNat true) x16_4 (wrap64 (x20_6 + 1))) = some r := by rw [if_neg (show ¬ (false = true) by decide)] at H; exact H
                                clear H
                                have H := H1
                                clear H1
                                obtain ⟨y132, hy132⟩ : ∃ y_ : List Bool, y_ = (x15_6.set ((rd (rd_L12 t107 x16_4) x20_6) : Int).toNat true) := ⟨_, rfl⟩
                                replace H : (trishawlaw03_BranchApart.l1 k6 a0 l1 t107 y132 x16_4 (wrap64 (x20_6 + 1))) = some r := by first | (rw [hy132]; with_reducible exact H) | (have H2_ := (Option.bind_some _ _).symm.trans H; rw [hy132]; with_reducible exact H2_) | (have H2_ := (Option.bind_some _ _).symm.trans H; with_reducible exact H2_) | with_reducible exact H | (rw [hy132]; exact H) | exact H
                                have Ny132 := Aside0.mk hy132
                                clear hy132
                                have H' := Aside0.mk H
                                clear H
                                have p128 : 0 ≤ (x16_4 : Int) := of_decide_eq_true (by first | (with_reducible assumption) | assumption)
                                have q128 : x16_4 < (t107.length : Int) := of_decide_eq_true (by first | (with_reducible assumption) | assumption)
                                obtain ⟨ad128, A128_0, c128_0, e128, hx128_0, hl128_0, hi128_0⟩ := at_L12 (Kd.R_reads' HO_10.out).2.2 x16_4 p128 q128
                                obtain rfl : ad124 = ad128 := (by injection e128)
                                obtain ⟨ce128, hce128, hMe128, hcc128⟩ := Kd.R_get HO_10.out [] x16_4 p128 (by first | exact q128 | exact of_decide_eq_true (by first | (with_reducible assumption) | assumption) | (have e_ := (Kd.R_reads' HO_10.out).1; omega))
                                obtain ⟨ve128_0, rfl, ge128_0⟩ := hMe128
                                have hv128_0 := hcc128 0 _ rfl
                                rw [Nat.add_zero, show ((Kd.slice 3 (Kd.int .i64))).sz = 1 from rfl, Nat.mul_one] at hv128_0
                                replace hv128_0 := Option.some.inj (hv128_0.symm.trans hx128_0)
                                rw [hv128_0] at ge128_0
                                have HL128_0 := Aside0.mk (show Kd.R (Kd.int .i64) 3 _ _ _ _ (rd_L12 t107 x16_4) from ge128_0)
                                clear hv128_0 ge128_0
                                clear hcc128 hce128
                                have HR128_0 := Aside0.mk hi128_0
                                have HC128_0 := Aside0.mk hl128_0
                                clear hi128_0 hl128_0
                                replace p128 := eq_true p128
                                replace q128 := eq_true q128
                                have p129 : 0 ≤ (x16_4 : Int) := of_decide_eq_true (by first | (with_reducible assumption) | assumption)
                                have q129 : x16_4 < (t107.length : Int) := of_decide_eq_true (by first | (with_reducible assumption) | assumption)
                                obtain ⟨ad129, A129_0, c129_0, e129, hx129_0, hl129_0, hi129_0⟩ := at_L12 (Kd.R_reads' HO_10.out).2.2 x16_4 p129 q129
                                obtain rfl : ad124 = ad129 := (by injection e129)
                                obtain ⟨ce129, hce129, hMe129, hcc129⟩ := Kd.R_get HO_10.out [] x16_4 p129 (by first | exact q129 | exact of_decide_eq_true (by first | (with_reducible assumption) | assumption) | (have e_ := (Kd.R_reads' HO_10.out).1; omega))
                                obtain ⟨ve129_0, rfl, ge129_0⟩ := hMe129
                                have hv129_0 := hcc129 0 _ rfl
                                rw [Nat.add_zero, show ((Kd.slice 3 (Kd.int .i64))).sz = 1 from rfl, Nat.mul_one] at hv129_0
                                replace hv129_0 := Option.some.inj (hv129_0.symm.trans hx129_0)
                                rw [hv129_0] at ge129_0
                                have HL129_0 := Aside0.mk (show Kd.R (Kd.int .i64) 3 _ _ _ _ (rd_L12 t107 x16_4) from ge129_0)
                                clear hv129_0 ge129_0
                                clear hcc129 hce129
                                have HR129_0 := Aside0.mk hi129_0
                                have HC129_0 := Aside0.mk hl129_0
                                clear hi129_0 hl129_0
                                replace p129 := eq_true p129
                                replace q129 := eq_true q129
                                have ea_ := Option.some.inj (hx128_0.symm.trans hx129_0)
                                injection ea_ with ea_ en_ ec_
                                subst ea_
                                subst ec_
                                clear en_
                                have p130 : 0 ≤ (x20_6 : Int) := of_decide_eq_true (by first | (with_reducible assumption) | assumption)
                                have q130 : x20_6 < ((rd_L12 t107 x16_4).length : Int) := of_decide_eq_true (by first | (with_reducible assumption) | assumption)
                                obtain ⟨ad130, e130, hx130_0⟩ := Kd.at_int (by repeat (first | (with_reducible exact HR129_0.out) | (with_reducible refine Kd.C_alloc ?_ _) | (with_reducible refine Kd.C_drewN ?_ _) | (with_reducible refine Kd.C_drew ?_) | exact HR129_0.out)) x20_6 p130 q130
                                cases e130
                                replace p130 := eq_true p130
                                replace q130 := eq_true q130
                                obtain ⟨Ao70, co70, eo70⟩ := Kd.R_slice HO_15.out
                                subst eo70
                                have p131 : 0 ≤ ((rd (rd_L12 t107 x16_4) x20_6) : Int) := of_decide_eq_true (by first | (with_reducible assumption) | assumption)
                                have q131 : (rd (rd_L12 t107 x16_4) x20_6) < (x15_6.length : Int) := of_decide_eq_true (by first | (with_reducible assumption) | assumption)
                                obtain ⟨ad131, e131, hx131_0⟩ := Kd.at_bool (Kd.R_reads' HO_15.out).2.2 (rd (rd_L12 t107 x16_4) x20_6) p131 q131
                                (try rw [← Nbq66.out] at hx131_0)
                                cases e131
                                replace p131 := eq_true p131
                                replace q131 := eq_true q131
                                have p69 : 0 ≤ ((rd (rd_L12 t107 x16_4) x20_6) : Int) := of_decide_eq_true (by first | (with_reducible assumption) | assumption)
                                have q69 : ((rd (rd_L12 t107 x16_4) x20_6) : Int) < ((x15_6.length : Int) : Int) := of_decide_eq_true (by first | (with_reducible assumption) | assumption)
                                obtain ⟨go69, co69, eo69, gb69, gl69, cl69, HG69⟩ := Kd.R_form HO_15.out (by omega)
                                (first | cases eo69 | (injection eo69 with ea_ en_ ec_; (first | subst ea_ | (injection ea_ with ea_; subst ea_)); subst ec_; clear en_))
                                have GB69 := Aside0.mk gb69
                                have GG69 := Aside0.mk HG69
                                clear gb69 gl69 HG69
                                (first | simp only [add_plain] at hx131_0 | skip)
                                obtain ⟨hx69_0, hf69_0⟩ := Kd.R_celln false HO_15.out ((rd (rd_L12 t107 x16_4) x20_6) : Int) p69 q69
                                replace p69 := eq_true p69
                                replace q69 := eq_true q69
                                have HP71 := Kd.R_putg HO_15.out ((rd (rd_L12 t107 x16_4) x20_6) : Int) true
                                go_wp2_with (first | ((with_reducible refine gate_store (t := 4) (p := 173) rfl ?_); refine store_event (t := 4) (p := 173) (v := ?vo_w72) (w1 := (wr.setCell ⟨go69, ((rd (rd_L12 t107 x16_4) x20_6) : Int).toNat, none⟩ (.bool true))) ?hg ?ho ?hn ?hr ?_; (case ho => rfl); (case hg => rfl); (case hn => rfl); (case hr => first | (go_simp; done) | (go_simp; rfl)); intro w72 hw; have hg : wr.grownBy w72 (some go69) := (by rw [hw]; exact HP71.2); have hp_ : Kd.R Kd.bool 4 w72 w.heap.size (fun _ => True) (.slice (some ⟨go69, 0, none⟩) x15_6.length co70) y132 := (by rw [hw, Ny132.out]; exact HP71.1); clear HP71; have n0_ := Aside0.mk (Kd.R_over' (v := (.slice (some ⟨go69, 0, none⟩) x15_6.length co70)) (by (with_reducible repeat (first | apply Kd.R_alloc | apply Kd.R_drewN | apply Kd.R_drew)); exact HO_10.out) (Kd.R_typed HO_15.out) (by decide) hg); have n1_ := Aside0.mk (hp_); have n2_ := Aside0.mk (Kd.R_over' (v := (.slice (some ⟨go69, 0, none⟩) x15_6.length co70)) (by (with_reducible repeat (first | apply Kd.R_alloc | apply Kd.R_drewN | apply Kd.R_drew)); exact HL128_0.out) (Kd.R_typed HO_15.out) (by decide) hg); have n3_ := Aside0.mk (Kd.R_over' (v := (.slice (some ⟨go69, 0, none⟩) x15_6.length co70)) (by (with_reducible repeat (first | apply Kd.R_alloc | apply Kd.R_drewN | apply Kd.R_drew)); exact HL129_0.out) (Kd.R_typed HO_15.out) (by decide) hg); have n4_ := Aside0.mk ((by rw [hw]; exact below_set (HB.out) GB69.out : Below w.heap.size w w72)); clear HO_10; clear HO_15; clear HL128_0; clear HL129_0; clear HB; have HO_10 := n0_; have HO_15 := n1_; have HL128_0 := n2_; have HL129_0 := n3_; have HB := n4_; clear n0_ n1_ n2_ n3_ n4_; clear hg hw hp_))
                                go_roundg k6
                                case measure => have := HJ3.out; have := HJ13.out; have := HJ29.out; have := HK4.out; have := HJ52.out; have := HK6.out; omega
                                case rel => exact ⟨(y132), (wrap64 (x20_6 + 1)), (by first | rfl | (simp; done) | (simp [*]; done)), H', ⟨by have := HJ3.out; have := HJ13.out; have := HJ29.out; have := HK4.out; have := HJ52.out; have := HK6.out; omega⟩, ⟨by (with_reducible repeat (first | apply Kd.R_alloc | apply Kd.R_drewN | apply Kd.R_drew)); exact HO_10.out⟩, ⟨by (with_reducible repeat (first | apply Kd.R_alloc | apply Kd.R_drewN | apply Kd.R_drew)); exact HO_15.out⟩, ⟨by repeat (first | (with_reducible first | exact HB.out | apply below_alloc | apply pw_below_drewN | apply below_drew1) | exact HB.out)⟩⟩
                              ·rw [if_neg c65] at H
                               exact absurd H (by simp)
                             ·rw [if_neg c64] at H
                              exact absurd H (by simp)
                          ·rw [if_neg c61] at H
                           exact absurd H (by simp)
                         ·rw [if_neg c60] at H
                          have c60b0 : decide (x20_6 < ((rd_L12 t107 x16_4).length : Int)) = false := decide_eq_false c60
                          clear c60
                          have H' := Aside0.mk H
                          clear H
                          have p128 : 0 ≤ (x16_4 : Int) := of_decide_eq_true (by first | (with_reducible assumption) | assumption)
                          have q128 : x16_4 < (t107.length : Int) := of_decide_eq_true (by first | (with_reducible assumption) | assumption)
                          obtain ⟨ad128, A128_0, c128_0, e128, hx128_0, hl128_0, hi128_0⟩ := at_L12 (Kd.R_reads' HO_10.out).2.2 x16_4 p128 q128
                          obtain rfl : ad124 = ad128 := (by injection e128)
                          obtain ⟨ce128, hce128, hMe128, hcc128⟩ := Kd.R_get HO_10.out [] x16_4 p128 (by first | exact q128 | exact of_decide_eq_true (by first | (with_reducible assumption) | assumption) | (have e_ := (Kd.R_reads' HO_10.out).1; omega))
                          obtain ⟨ve128_0, rfl, ge128_0⟩ := hMe128
                          have hv128_0 := hcc128 0 _ rfl
                          rw [Nat.add_zero, show ((Kd.slice 3 (Kd.int .i64))).sz = 1 from rfl, Nat.mul_one] at hv128_0
                          replace hv128_0 := Option.some.inj (hv128_0.symm.trans hx128_0)
                          rw [hv128_0] at ge128_0
                          have HL128_0 := Aside0.mk (show Kd.R (Kd.int .i64) 3 _ _ _ _ (rd_L12 t107 x16_4) from ge128_0)
                          clear hv128_0 ge128_0
                          clear hcc128 hce128
                          have HR128_0 := Aside0.mk hi128_0
                          have HC128_0 := Aside0.mk hl128_0
                          clear hi128_0 hl128_0
                          replace p128 := eq_true p128
                          replace q128 := eq_true q128
                          go_wp2
                          go_roundg k6
                          case measure => have := HJ3.out; have := HJ13.out; have := HJ29.out; have := HK4.out; have := HJ52.out; have := HK6.out; omega
                          case rel => exact ⟨(x15_6), (wrap64 (x16_4 + 1)), (by first | rfl | (simp; done) | (simp [*]; done)), H', ⟨by have := HJ3.out; have := HJ13.out; have := HJ29.out; have := HK4.out; have := HJ52.out; have := HK6.out; omega⟩, ⟨by (with_reducible repeat (first | apply Kd.R_alloc | apply Kd.R_drewN | apply Kd.R_drew)); exact HO_10.out⟩, ⟨by (with_reducible repeat (first | apply Kd.R_alloc | apply Kd.R_drewN | apply Kd.R_drew)); exact HO_15.out⟩, ⟨by repeat (first | (with_reducible first | exact HB.out | apply below_alloc | apply pw_below_drewN | apply below_drew1) | exact HB.out)⟩⟩
                        ·rw [if_neg c59] at H
                         exact absurd H (by simp)
                       ·rw [if_neg c58] at H
                        exact absurd H (by simp)
                 ·rw [if_neg c51] at H
                  exact absurd H (by simp)
                ·rw [if_neg c50] at H
                 have c50b0 : decide (x16_4 < (t107.length : Int)) = false := decide_eq_false c50
                 clear c50
                 replace H := Option.bind_eq_some_iff.mp H
                 obtain ⟨t123, A730, H⟩ := H
                 replace H : (some t123) = some r := H
                 have A73 := Aside0.mk A730
                 clear A730
                 obtain rfl := Option.some.inj H
                 obtain ⟨Ao74, co74, eo74⟩ := Kd.R_slice HO_10.out
                 subst eo74
                 go_wp2_with (first | ((with_reducible refine gate_callee (f := 17) rfl ?_); refine goesL_ (some 174) rfl rfl Try.func17 (by kernel_rfl) rfl #[] rfl (by (try simp only [List.map_toArray, List.map_cons, List.map_nil]); first | done | rfl | (simp only [List.length_drop, List.length_take]; rfl)) ?_; (with_reducible refine (trishawlaw03_alive.calls k4  t123 _ A73.out).mono ?_); rintro e w75 ⟨rfl, hb⟩; refine ⟨_, rfl, ?_⟩; have n0_ := Aside0.mk (Kd.R_below (by (with_reducible repeat (first | apply Kd.R_alloc | apply Kd.R_drewN | apply Kd.R_drew)); exact HO_10.out) hb); have n1_ := Aside0.mk (Kd.R_below (by (with_reducible repeat (first | apply Kd.R_alloc | apply Kd.R_drewN | apply Kd.R_drew)); exact HO_15.out) hb); have n2_ := Aside0.mk (below_step (by repeat (first | (with_reducible first | exact HB.out | apply below_alloc | apply pw_below_drewN | apply below_drew1) | exact HB.out)) hb); clear HO_10; clear HO_15; clear HB; have HO_10 := n0_; have HO_15 := n1_; have HB := n2_; clear n0_ n1_ n2_; (try clear hb); (try clear hb2); (try clear hk); (try clear hi)))
                 go_ret
                 exact ⟨by first | rfl | (simp [errW_none, errW_some] <;> rfl) | (simp only [← hji25, ← hji27]; first | rfl | (simp [errW_none, errW_some] <;> rfl)) | (simp [*, errW_none, errW_some] <;> rfl), by repeat (first | (with_reducible first | exact HB.out | apply below_alloc | apply pw_below_drewN | apply below_drew1) | exact HB.out)⟩
             ·rw [if_neg c47] at H
              exact absurd H (by simp)
            ·rw [if_neg c46] at H
             exact absurd H (by simp)
       ·rw [if_neg c26] at H
        exact absurd H (by simp)
end Go.Proofs.Ytpmadffgdfholaa.B
namespace Go.Proofs.Ytpmadffgdfholaa.B
open Go.RowKit Go.ChangeShapes Go.WideShapes Go.Deep Go.Proofs.YtpmadffgdfholaaW.PrintWords Go.Proofs.YtpmadffgdfholaaW.PrintLast Go.Proofs.YtpmadffgdfholaaW.PrintMore
/-- A street's three numbers are whole numbers of 64 bits. -/
def okS30 (x : S30) : Prop := (Lit.int .i64 x.f0).wf = true ∧ (Lit.int .i64 x.f1).wf = true ∧ (Lit.int .i64 x.f2).wf = true
section
variable {H : Type} {enc : TypeId × Value → H} {w : World} {spare : Nat → Bool} {held : Bool}
set_option maxRecDepth 100000 in
theorem open_way {fuel : Nat} {cs : List Value} {x : DataW H × List MemPlace} (h : DataW.trod enc Try.prog w 0 spare held fuel 30 cs = some x) : ∃ s : S30, cs = [.int .i64 s.f0, .int .i64 s.f1, .int .i64 s.f2] ∧ okS30 s := by
  obtain ⟨xs, n, _, _, hlen, hxl, hf⟩ := DataW.trod_struct Try.underlying30 h
  have h30 : Try.prog.cellsOf 30 = 3 := by kernel_rfl
  have h3 : Try.prog.cellsOf 3 = 1 := by kernel_rfl
  rw [h30] at hlen
  match cs, hlen with
  | [c0, c1, c2], _ =>
    have hsz : xs.length = 3 := hxl
    match xs, hsz with
    | [y0, y1, y2], _ =>
      have g0 : DataW.trod enc Try.prog w 0 spare held n 3 (([c0, c1, c2].drop 0).take (Try.prog.cellsOf 3)) = some y0 := hf 0 _ rfl
      have g1 : DataW.trod enc Try.prog w 0 spare held n 3 (([c0, c1, c2].drop 1).take (Try.prog.cellsOf 3)) = some y1 := hf 1 _ rfl
      have g2 : DataW.trod enc Try.prog w 0 spare held n 3 (([c0, c1, c2].drop 2).take (Try.prog.cellsOf 3)) = some y2 := hf 2 _ rfl
      rw [h3] at g0 g1 g2
      obtain ⟨n0, e0, _, w0⟩ := DataW.trod_int Try.underlying3 g0
      obtain ⟨n1, e1, _, w1⟩ := DataW.trod_int Try.underlying3 g1
      obtain ⟨n2, e2, _, w2⟩ := DataW.trod_int Try.underlying3 g2
      obtain rfl : c0 = .int .i64 n0 := by injection e0
      obtain rfl : c1 = .int .i64 n1 := by injection e1
      obtain rfl : c2 = .int .i64 n2 := by injection e2
      exact ⟨⟨n0, n1, n2⟩, rfl, w0, w1, w2⟩
theorem open_ways {a : Option Addr} {len cap : Nat} {d : DataW H} {p : List MemPlace} (h : DataW.Trod enc Try.prog w 0 spare held 22 (.slice a len cap) d p) :
    ∃ l : List S30, Kd.C k30 w a l.length l ∧ l.length = len ∧ len ≤ cap ∧ cap ≤ maxLen ∧ ∀ x ∈ l, okS30 x := by
  obtain ⟨fuel, hf⟩ := h
  rcases open_slice Try.underlying22 hf with ⟨hcs, _⟩ | ⟨x, l, c, m, n, D, Pl, hcs, _, hl, hm, hmm, _, hi⟩
  · simp [Value.cells] at hcs
    obtain ⟨rfl, rfl, rfl⟩ := hcs
    exact ⟨[], ⟨rfl, by simp, fun h => absurd h (by simp)⟩, rfl, Nat.le_refl _, by simp, by simp⟩
  · simp [Value.cells] at hcs
    obtain ⟨rfl, rfl, rfl⟩ := hcs
    have hlm : len ≤ m := by rw [hmm]; split <;> omega
    have h30 : Try.prog.cellsOf 30 = 3 := by kernel_rfl
    rw [h30] at hi
    have hex : ∀ i : Nat, ∃ s : S30, i < len → okS30 s ∧ w.cells? 0 (x.add (i * 3)) 3 = some [.int .i64 s.f0, .int .i64 s.f1, .int .i64 s.f2] := by
      intro i
      by_cases h : i < len
      · obtain ⟨cs', hc, ht⟩ := hi i (by omega)
        obtain ⟨s, rfl, hs⟩ := open_way ht
        exact ⟨s, fun _ => ⟨hs, hc⟩⟩
      · exact ⟨z30, fun h' => absurd h' h⟩
    obtain ⟨f, hf⟩ := Classical.axiomOfChoice hex
    have hll : ((List.range len).map f).length = len := by simp
    refine ⟨(List.range len).map f, ⟨rfl, by rw [hll]; simp only [maxLen] at hm; omega, fun _ => ⟨x, rfl, fun j p hj => ?_⟩⟩, hll, hl, hm, fun y hy => ?_⟩
    · have hjl : j < len := by have := (List.getElem?_eq_some_iff.1 hj).1; rw [hll] at this; exact this
      rw [List.getElem?_map, List.getElem?_range hjl] at hj
      injection hj with hj
      subst hj
      obtain ⟨hs, hc⟩ := hf j hjl
      obtain ⟨_, _, hat⟩ := World.cells?_some hc
      refine ⟨[.int .i64 (f j).f0, .int .i64 (f j).f1, .int .i64 (f j).f2], rfl, k30_mk w (f j), fun i u hu => ?_⟩
      have hi3 : i < 3 := (List.getElem?_eq_some_iff.1 hu).1
      show w.cell? (x.add (j * 3 + i)) = some u
      rw [← Go.Deep.add_add, hat i hi3, hu]
    · obtain ⟨j, hj, rfl⟩ := List.mem_map.1 hy
      exact (hf j (List.mem_range.1 hj)).1
end
end Go.Proofs.Ytpmadffgdfholaa.B
namespace Go.Proofs.Ytpmadffgdfholaa.B
open Go.RowKit Go.Proofs.YtpmadffgdfholaaW.PrintWords Go.Proofs.YtpmadffgdfholaaW.PrintLast Go.Proofs.YtpmadffgdfholaaW.PrintMore
def trishawlaw03_BranchApart.Pure : Prop := ∀ (a0 : Int) (l1 : List S30) (a2 : Int), (Lit.int .i64 a0).wf = true → l1.length ≤ maxLen → (∀ x ∈ l1, okS30 x) → (Lit.int .u8 a2).wf = true → ∃ k, trishawlaw03_BranchApart.f k a0 l1 a2 = some true
theorem trishawlaw03_BranchApart.walk (P : trishawlaw03_BranchApart.Pure) (w : World) (a0 : Int) (A1 : Option Addr) (c1 : Nat) (l1 : List S30) (hr1 : Kd.C k30 w A1 l1.length l1) (hc1 : l1.length ≤ c1) (a2 : Int) (h0_0 : (Lit.int .i64 a0).wf = true) (h1_0 : l1.length ≤ maxLen) (h2_0 : (∀ x ∈ l1, okS30 x)) (h3_0 : (Lit.int .u8 a2).wf = true) :
    Calls Try.prog 14 #[.int .i64 a0, .slice A1 l1.length c1, .int .u8 a2] w fun e w' => e = .returned (.bool true) ∧ Below w.heap.size w w' := by
  obtain ⟨k, h⟩ := P a0 l1 a2 h0_0 h1_0 h2_0 h3_0
  refine (trishawlaw03_BranchApart.calls k a0 A1 c1 l1 a2 true w hr1 hc1 h).mono ?_
  rintro e w' ⟨rfl, hd⟩
  exact ⟨rfl, hd⟩
end Go.Proofs.Ytpmadffgdfholaa.B
namespace Go.Proofs.Ytpmadffgdfholaa.B
open Go.RowKit Go.Proofs.YtpmadffgdfholaaW.PrintWords Go.Proofs.YtpmadffgdfholaaW.PrintLast Go.Proofs.YtpmadffgdfholaaW.PrintMore
theorem wrap_nat (i : Nat) (h : i < 4611686018427387904) : wrap64 ((i : Int) + 1) = ((i + 1 : Nat) : Int) := by unfold wrap64; omega
theorem drop_rd30 (l : List S30) (i : Nat) (h : i < l.length) : l.drop i = rd_T30 l (i : Int) :: l.drop (i + 1) := by
  rw [List.drop_eq_getElem_cons h]
  simp [rd_T30, List.getD, List.getElem?_eq_getElem h]
theorem wayOk_iff (n : Int) (x : S30) : wayOk n x = true ↔ 0 ≤ x.f0 ∧ x.f0 < n ∧ 0 ≤ x.f1 ∧ x.f1 < n ∧ x.f0 ≠ x.f1 ∧ 0 ≤ x.f2 ∧ x.f2 ≤ 1000 := by
  unfold wayOk mn mx
  simp only [Bool.not_eq_true', Bool.or_eq_false_iff, decide_eq_false_iff_not, beq_eq_false_iff_ne]
  constructor
  · rintro ⟨⟨⟨⟨h1, h2⟩, h3⟩, h4⟩, h5⟩
    split at h1 <;> split at h2 <;> refine ⟨?_, ?_, ?_, ?_, h3, ?_, ?_⟩ <;> omega
  · rintro ⟨h1, h2, h3, h4, h5, h6, h7⟩
    refine ⟨⟨⟨⟨?_, ?_⟩, h5⟩, ?_⟩, ?_⟩
    · split <;> omega
    · split <;> omega
    · omega
    · omega
theorem town_l0 (n : Int) (l : List S30) (hl : l.length < 1000000) : ∀ d i k : Nat, i + d = l.length → trishawref03_Town.l0 (k + 2 * d + 1) n l (i : Int) = some (if (l.drop i).all (wayOk n) then 0 else 2)
  | 0, i, k, h => by
    simp only [trishawref03_Town.l0]
    rw [if_neg (by omega), List.drop_eq_nil_of_le (by omega)]
    simp
  | d + 1, i, k, h => by
    have hi : i < l.length := by omega
    rw [show k + 2 * (d + 1) + 1 = (k + 2 * d + 1 + 1) + 1 from by omega, drop_rd30 l i hi]
    simp only [trishawref03_Town.l0, List.all_cons]
    rw [if_pos (by omega), if_pos (by omega)]
    have ih := town_l0 n l hl d (i + 1) k (by omega)
    have hw := wrap_nat i (by omega)
    have j2t : trishawref03_Town.j2 (k + 2 * d + 1 + 1) n l (i : Int) true = some 2 := by simp [trishawref03_Town.j2]
    have j2f : trishawref03_Town.j2 (k + 2 * d + 1 + 1) n l (i : Int) false = some (if (l.drop (i + 1)).all (wayOk n) then 0 else 2) := by
      simp only [trishawref03_Town.j2, Bool.false_eq_true, if_false, hw]
      exact ih
    generalize rd_T30 l (i : Int) = x
    have hx := wayOk_iff n x
    by_cases hok : wayOk n x = true
    · obtain ⟨h1, h2, h3, h4, h5, h6, h7⟩ := hx.1 hok
      rw [if_neg (by omega), if_neg (by omega), if_neg (by omega), if_neg (by omega), if_neg h5, if_neg (by omega), show decide (x.f2 > 1000) = false from decide_eq_false (by omega), j2f]
      simp [hok]
    · have hb : wayOk n x = false := Bool.eq_false_iff.mpr hok
      simp only [hb, Bool.false_and, Bool.false_eq_true, if_false]
      by_cases t1 : x.f0 < 0
      · rw [if_pos t1, j2t]
      rw [if_neg t1]
      by_cases t2 : x.f0 ≥ n
      · rw [if_pos t2, j2t]
      rw [if_neg t2]
      by_cases t3 : x.f1 < 0
      · rw [if_pos t3, j2t]
      rw [if_neg t3]
      by_cases t4 : x.f1 ≥ n
      · rw [if_pos t4, j2t]
      rw [if_neg t4]
      by_cases t5 : x.f0 = x.f1
      · rw [if_pos t5, j2t]
      rw [if_neg t5]
      by_cases t6 : x.f2 < 0
      · rw [if_pos t6, j2t]
      rw [if_neg t6]
      by_cases t7 : x.f2 > 1000
      · rw [show decide (x.f2 > 1000) = true from decide_eq_true t7, j2t]
      · exact absurd (hx.2 ⟨by omega, by omega, by omega, by omega, t5, by omega, by omega⟩) hok
theorem town_eq (n : Int) (l : List S30) (k : Nat) (hk : 2 * l.length + 2 ≤ k ∨ 62 ≤ k) : trishawref03_Town.f k n l = some (readB n l) := by
  have key : ∀ k, (2 * l.length + 2 ≤ k ∨ 62 ≤ k) → ∀ b : Bool, trishawref03_Town.j0 k n l b = some (if b = true then 2 else if 30 < l.length then 3 else if l.all (wayOk n) then 0 else 2) := by
    intro k hk b
    obtain ⟨k, rfl⟩ : ∃ k', k = k' + 1 := ⟨k - 1, by omega⟩
    simp only [trishawref03_Town.j0]
    cases b with
    | true => simp
    | false =>
      simp only [Bool.false_eq_true, if_false]
      by_cases h3 : 30 < l.length
      · rw [if_pos (by omega), if_pos h3]
      · rw [if_neg (by omega), if_neg h3]
        have := town_l0 n l (by omega) l.length 0 (k - 2 * l.length - 1) (by omega)
        rw [show k - 2 * l.length - 1 + 2 * l.length + 1 = k from by omega] at this
        simpa using this
  unfold trishawref03_Town.f readB
  by_cases h1 : n < 2
  · rw [if_pos h1, key k hk, if_pos rfl, if_pos (Or.inl h1)]
  · rw [if_neg h1, key k hk]
    by_cases h2 : n > 7
    · rw [show decide (n > 7) = true from decide_eq_true h2, if_pos rfl, if_pos (Or.inr h2)]
    · rw [show decide (n > 7) = false from decide_eq_false h2, if_neg (show ¬ (false = true) by decide), if_neg (show ¬ (n < 2 ∨ 7 < n) by omega)]
/-- A town that is taken. -/
theorem readB_ok {n : Int} {l : List S30} (h : readB n l = 0) : 2 ≤ n ∧ n ≤ 7 ∧ l.length ≤ 30 ∧ ∀ x ∈ l, wayOk n x = true := by
  unfold readB at h
  split at h
  · exact absurd h (by decide)
  split at h
  · exact absurd h (by decide)
  split at h
  · rename_i h1 h2 h3
    exact ⟨by omega, by omega, by omega, List.all_eq_true.1 h3⟩
  · exact absurd h (by decide)
end Go.Proofs.Ytpmadffgdfholaa.B
namespace Go.Proofs.Ytpmadffgdfholaa.B
open Go.RowKit Go.Proofs.YtpmadffgdfholaaW.PrintWords Go.Proofs.YtpmadffgdfholaaW.PrintLast Go.Proofs.YtpmadffgdfholaaW.PrintMore
def cnt (s : Nat) : Nat := ((List.range 7).filter fun b => s.testBit b).length
theorem fin_and : ∀ s : Fin 128, ∀ a : Fin 7, (Go.bits .and .i64 (shr .i64 ((s.val : Nat) : Int) ((a.val : Nat) : Int)) 1 = 1) ↔ s.val.testBit a.val = true := by decide +kernel
theorem fin_or : ∀ s : Fin 128, ∀ a : Fin 7, Go.bits .or .i64 ((s.val : Nat) : Int) (shl .i64 1 ((a.val : Nat) : Int)) = ((s.val ||| (1 <<< a.val) : Nat) : Int) := by decide +kernel
theorem fin_mod : ∀ s : Fin 128, ∀ a : Fin 7, Int.tmod (shr .i64 ((s.val : Nat) : Int) ((a.val : Nat) : Int)) 2 = if s.val.testBit a.val then 1 else 0 := by decide +kernel
theorem fin_add : ∀ s : Fin 128, ∀ a : Fin 7, s.val.testBit a.val = false → wrap64 (((s.val : Nat) : Int) + shl .i64 1 ((a.val : Nat) : Int)) = ((s.val ||| (1 <<< a.val) : Nat) : Int) := by decide +kernel
theorem fin_lt : ∀ n : Fin 8, ∀ s : Fin 128, ∀ a : Fin 7, s.val < 2 ^ n.val → a.val < n.val → s.val ||| (1 <<< a.val) < 2 ^ n.val := by decide +kernel
theorem fin_cnt : ∀ s : Fin 128, ∀ a : Fin 7, s.val.testBit a.val = false → cnt (s.val ||| (1 <<< a.val)) = cnt s.val + 1 := by decide +kernel
theorem fin_same : ∀ s : Fin 128, ∀ a : Fin 7, s.val.testBit a.val = true → s.val ||| (1 <<< a.val) = s.val := by decide +kernel
theorem fin_le : ∀ n : Fin 8, ∀ s : Fin 128, s.val < 2 ^ n.val → cnt s.val ≤ n.val := by decide +kernel
/-- A set that a street has been gone along. -/
def stepS (s : Nat) (x : S30) : Nat := if s.testBit x.f0.toNat then s ||| (1 <<< x.f1.toNat) else s
def passS (l : List S30) (L : List Int) (s : Nat) : Nat := L.foldl (fun s i => stepS s (rd_T30 l i)) s
def itS (l : List S30) (L : List Int) : Nat → Nat → Nat
  | 0, s => s
  | d + 1, s => itS l L d (passS l L s)
theorem it_fix {l : List S30} {L : List Int} {s : Nat} (h : passS l L s = s) : ∀ d, itS l L d s = s
  | 0 => rfl
  | d + 1 => by rw [itS, h]; exact it_fix h d
section
variable {n : Nat} {l : List S30} {L : List Int}
theorem step_facts (hn : n ≤ 7) {s : Nat} (hs : s < 2 ^ n) {x : S30} (hx : wayOk n x = true) : stepS s x < 2 ^ n ∧ (stepS s x = s ∨ cnt (stepS s x) = cnt s + 1) := by
  obtain ⟨h1, h2, h3, h4, _⟩ := (wayOk_iff n x).1 hx
  have h128 : s < 128 := Nat.lt_of_lt_of_le hs (show 2 ^ n ≤ 2 ^ 7 from Nat.pow_le_pow_right (by decide) hn)
  unfold stepS
  split
  · refine ⟨fin_lt ⟨n, by omega⟩ ⟨s, h128⟩ ⟨x.f1.toNat, by omega⟩ hs (by simp only []; omega), ?_⟩
    cases hb : s.testBit x.f1.toNat with
    | true => exact .inl (fin_same ⟨s, h128⟩ ⟨x.f1.toNat, by omega⟩ hb)
    | false => exact .inr (fin_cnt ⟨s, h128⟩ ⟨x.f1.toNat, by omega⟩ hb)
  · exact ⟨hs, .inl rfl⟩
/-- The indices of a list are streets, and the streets are streets of the town. -/
def InL (n : Nat) (l : List S30) (L : List Int) : Prop := ∀ i ∈ L, 0 ≤ i ∧ i < (l.length : Int) ∧ wayOk n (rd_T30 l i) = true
theorem pass_facts (hn : n ≤ 7) : ∀ (L : List Int), InL n l L → ∀ s, s < 2 ^ n → passS l L s < 2 ^ n ∧ (passS l L s = s ∨ cnt s < cnt (passS l L s))
  | [], _, s, hs => ⟨hs, .inl rfl⟩
  | i :: L, hL, s, hs => by
    obtain ⟨a1, a2⟩ := step_facts hn hs (hL i List.mem_cons_self).2.2
    obtain ⟨b1, b2⟩ := pass_facts hn L (fun j hj => hL j (List.mem_cons_of_mem _ hj)) _ a1
    refine ⟨b1, ?_⟩
    show passS l L (stepS s (rd_T30 l i)) = s ∨ cnt s < cnt (passS l L (stepS s (rd_T30 l i)))
    rcases a2 with a2 | a2
    · rw [a2] at b2 ⊢
      exact b2
    · rcases b2 with b2 | b2
      · rw [b2]; exact .inr (by omega)
      · exact .inr (by omega)
theorem it_lt (hn : n ≤ 7) (hL : InL n l L) : ∀ d s, s < 2 ^ n → itS l L d s < 2 ^ n
  | 0, _, h => h
  | d + 1, s, h => it_lt hn hL d _ (pass_facts hn L hL s h).1
/-- Enough rounds are enough. -/
theorem it_stop (hn : n ≤ 7) (hL : InL n l L) : ∀ c s, s < 2 ^ n → n ≤ cnt s + c → itS l L (c + 1) s = itS l L c s
  | 0, s, hs, h => by
    rcases (pass_facts hn L hL s hs).2 with e | e
    · exact it_fix e 1
    · have := fin_le ⟨n, by omega⟩ ⟨passS l L s, Nat.lt_of_lt_of_le (pass_facts hn L hL s hs).1 (show 2 ^ n ≤ 2 ^ 7 from Nat.pow_le_pow_right (by decide) hn)⟩ (pass_facts hn L hL s hs).1
      simp only [] at this
      omega
  | c + 1, s, hs, h => by
    rcases (pass_facts hn L hL s hs).2 with e | e
    · rw [it_fix e, it_fix e]
    · show itS l L (c + 1) (passS l L s) = itS l L c (passS l L s)
      exact it_stop hn hL c _ (pass_facts hn L hL s hs).1 (by omega)
theorem drop_rdI4 (ps : List Int) (i : Nat) (h : i < ps.length) : ps.drop i = rd ps (i : Int) :: ps.drop (i + 1) := by
  rw [List.drop_eq_getElem_cons h]
  simp [rd, List.getD, List.getElem?_eq_getElem h]
theorem rd_mem4 (cols : List Int) (p : Nat) (h : p < cols.length) : rd cols (p : Int) ∈ cols := by
  simp [rd, List.getD, List.getElem?_eq_getElem h]
theorem int_nat {a : Int} (h : 0 ≤ a) : a = ((a.toNat : Nat) : Int) := by omega
/-- One round of the code's. -/
theorem reach_l1 (hn : n ≤ 7) (hL : InL n l L) (hl : L.length < 1000) (N j : Int) : ∀ (d q k s : Nat), q + d = L.length → s < 2 ^ n →
    branch_town_reach.l1 (k + d + 1) L (s : Int) N j L (L.length : Int) (q : Int) (n : Int) l = branch_town_reach.l0 k L ((passS l (L.drop q) s : Nat) : Int) N (wrap64 (j + 1)) (n : Int) l
  | 0, q, k, s, h, _ => by
    simp only [branch_town_reach.l1]
    rw [if_neg (by omega), List.drop_eq_nil_of_le (by omega)]
    rfl
  | d + 1, q, k, s, h, hs => by
    have hq : q < L.length := by omega
    have hw := wrap_nat q (by omega)
    obtain ⟨i0, i1, hx⟩ := hL _ (rd_mem4 L q hq)
    have ih := reach_l1 hn hL hl N j d (q + 1) k (stepS s (rd_T30 l (rd L (q : Int)))) (by omega) (step_facts hn hs hx).1
    have h128 : s < 128 := Nat.lt_of_lt_of_le hs (show 2 ^ n ≤ 2 ^ 7 from Nat.pow_le_pow_right (by decide) hn)
    rw [drop_rdI4 L q hq]
    show _ = branch_town_reach.l0 k L ((passS l (L.drop (q + 1)) (stepS s (rd_T30 l (rd L (q : Int)))) : Nat) : Int) N (wrap64 (j + 1)) (n : Int) l
    rw [← ih, show k + (d + 1) + 1 = (k + d + 1) + 1 from by omega]
    clear ih
    generalize k + d + 1 = qq
    simp only [branch_town_reach.l1, hw]
    rw [if_pos (by omega), if_pos (by omega), if_pos (by omega), if_pos i0, if_pos i1]
    generalize rd_T30 l (rd L (q : Int)) = x at hx
    obtain ⟨h1, h2, h3, h4, _⟩ := (wayOk_iff n x).1 hx
    have f1 := fin_and ⟨s, h128⟩ ⟨x.f0.toNat, by omega⟩
    have f2 := fin_or ⟨s, h128⟩ ⟨x.f1.toNat, by omega⟩
    simp only [← int_nat h1, ← int_nat h3] at f1 f2
    rw [if_pos h1]
    unfold stepS
    by_cases t : s.testBit x.f0.toNat = true
    · rw [if_pos (f1.2 t), if_pos h3, if_pos t, f2]
    · rw [if_neg (fun hh => t (f1.1 hh)), if_neg t]
theorem reach_l0 (hn : n ≤ 7) (hL : InL n l L) (hl : L.length < 1000) : ∀ (d j k s : Nat), j + d = n → s < 2 ^ n →
    branch_town_reach.l0 (k + (L.length + 2) * d + 1) L (s : Int) (n : Int) (j : Int) (n : Int) l = some ((itS l L d s : Nat) : Int)
  | 0, j, k, s, h, _ => by
    simp only [branch_town_reach.l0, Nat.mul_zero, Nat.add_zero]
    rw [if_neg (by omega)]
    rfl
  | d + 1, j, k, s, h, hs => by
    have hw := wrap_nat j (by omega)
    have ih := reach_l0 hn hL hl d (j + 1) k (passS l L s) (by omega) (pass_facts hn L hL s hs).1
    have h1 := reach_l1 hn hL hl (n : Int) (j : Int) L.length 0 (k + (L.length + 2) * d + 1) s (by omega) hs
    rw [show k + (L.length + 2) * (d + 1) + 1 = (k + (L.length + 2) * d + 1 + L.length + 1) + 1 from by rw [Nat.mul_succ]; omega]
    generalize hq : k + (L.length + 2) * d + 1 + L.length + 1 = qq at h1
    simp only [branch_town_reach.l0]
    rw [if_pos (by omega)]
    rw [List.drop_zero, hw] at h1
    exact h1.trans ih
/-- One round of the reference's. -/
theorem reached_l1 (hn : n ≤ 7) (hL : InL n l L) (hl : L.length < 1000) : ∀ (d q k s : Nat) (g : Bool), q + d = L.length → s < 2 ^ n →
    trishawref03_reached.l1 (k + d + 1) l L (s : Int) g (q : Int) = trishawref03_reached.l0 k l L ((passS l (L.drop q) s : Nat) : Int) (g || decide (passS l (L.drop q) s ≠ s))
  | 0, q, k, s, g, h, _ => by
    simp only [trishawref03_reached.l1]
    rw [if_neg (by omega), List.drop_eq_nil_of_le (by omega)]
    simp [passS]
  | d + 1, q, k, s, g, h, hs => by
    have hq : q < L.length := by omega
    have hw := wrap_nat q (by omega)
    obtain ⟨i0, i1, hx⟩ := hL _ (rd_mem4 L q hq)
    have sf := step_facts hn hs hx
    have ih := fun g => reached_l1 hn hL hl d (q + 1) k (stepS s (rd_T30 l (rd L (q : Int)))) g (by omega) sf.1
    have pf := pass_facts (l := l) hn (L.drop (q + 1)) (fun i hi => hL i (List.mem_of_mem_drop hi)) _ sf.1
    have h128 : s < 128 := Nat.lt_of_lt_of_le hs (show 2 ^ n ≤ 2 ^ 7 from Nat.pow_le_pow_right (by decide) hn)
    rw [drop_rdI4 L q hq]
    show _ = trishawref03_reached.l0 k l L ((passS l (L.drop (q + 1)) (stepS s (rd_T30 l (rd L (q : Int)))) : Nat) : Int) (g || decide (passS l (L.drop (q + 1)) (stepS s (rd_T30 l (rd L (q : Int)))) ≠ s))
    rw [show k + (d + 1) + 1 = (k + d + 1) + 1 from by omega]
    generalize k + d + 1 = qq at ih
    simp only [trishawref03_reached.l1, hw]
    rw [if_pos (by omega), if_pos (by omega), if_pos i0, if_pos i1]
    generalize rd_T30 l (rd L (q : Int)) = x at hx ih sf pf
    obtain ⟨h1, h2, h3, h4, _⟩ := (wayOk_iff n x).1 hx
    have f1 := fin_mod ⟨s, h128⟩ ⟨x.f0.toNat, by omega⟩
    have f2 := fin_mod ⟨s, h128⟩ ⟨x.f1.toNat, by omega⟩
    have f3 := fin_add ⟨s, h128⟩ ⟨x.f1.toNat, by omega⟩
    have f4 := fin_same ⟨s, h128⟩ ⟨x.f1.toNat, by omega⟩
    have f5 := fin_cnt ⟨s, h128⟩ ⟨x.f1.toNat, by omega⟩
    simp only [← int_nat h1, ← int_nat h3] at f1 f2 f3 f4 f5
    rw [if_pos h1, f1]
    unfold stepS at ih sf pf ⊢
    by_cases t : s.testBit x.f0.toNat = true
    · simp only [t, if_true] at ih sf pf ⊢
      rw [if_pos h3, f2]
      cases tb : s.testBit x.f1.toNat with
      | true =>
        rw [f4 tb] at ih ⊢
        rw [if_neg (by decide)]
        exact ih g
      | false =>
        rw [if_pos (by decide), f3 tb, ih true]
        have hne : passS l (L.drop (q + 1)) (s ||| 1 <<< x.f1.toNat) ≠ s := by
          intro hh
          have := f5 tb
          rcases pf.2 with e | e
          · rw [e] at hh; rw [hh] at this; omega
          · rw [hh] at e; omega
        simp [hne]
    · simp only [t, if_false, Bool.false_eq_true] at ih sf pf ⊢
      rw [if_neg (by decide)]
      exact ih g
theorem reached_l0 (hn : n ≤ 7) (hL : InL n l L) (hl : L.length < 1000) : ∀ (c k s : Nat), s < 2 ^ n → n ≤ cnt s + c →
    trishawref03_reached.l0 (k + (L.length + 2) * (c + 1) + 1) l L (s : Int) true = some ((itS l L c s : Nat) : Int)
  | c, k, s, hs, h => by
    have h1 := reached_l1 hn hL hl L.length 0 (k + (L.length + 2) * c + 1) s false (by omega) hs
    rw [show k + (L.length + 2) * (c + 1) + 1 = (k + (L.length + 2) * c + 1 + L.length + 1) + 1 from by rw [Nat.mul_succ]; omega]
    generalize hq : k + (L.length + 2) * c + 1 + L.length + 1 = qq at h1
    simp only [trishawref03_reached.l0, if_true]
    rw [List.drop_zero] at h1
    refine h1.trans ?_
    have pf := pass_facts hn L hL s hs
    by_cases e : passS l L s = s
    · rw [e, it_fix e]
      simp only [ne_eq, not_true_eq_false, decide_false, Bool.or_false]
      simp only [trishawref03_reached.l0]
      rfl
    · simp only [ne_eq, e, not_false_eq_true, decide_true, Bool.or_true]
      cases c with
      | zero =>
        have := it_stop hn hL 0 s hs (by omega)
        exact absurd this e
      | succ c =>
        have := reached_l0 hn hL hl c k (passS l L s) pf.1 (by rcases pf.2 with e2 | e2; exact absurd e2 e; omega)
        exact this
end
/-- Both closures. -/
theorem reach_both {n : Nat} {l : List S30} {L : List Int} (hn2 : 1 ≤ n) (hn : n ≤ 7) (hL : InL n l L) (hl : L.length < 1000) :
    ∃ r : Nat, r < 2 ^ n ∧ ∃ K, ∀ k, K ≤ k → branch_town_reach.f k (n : Int) l L = some (r : Int) ∧ trishawref03_reached.f k l L = some (r : Int) := by
  have h1 : (1 : Nat) < 2 ^ n := Nat.one_lt_two_pow (by omega)
  have hc : cnt 1 = 1 := by decide +kernel
  refine ⟨itS l L n 1, it_lt hn hL n 1 h1, (L.length + 2) * (n + 1) + 1, fun k hk => ⟨?_, ?_⟩⟩
  · have := reach_l0 hn hL hl n 0 (k - (L.length + 2) * n - 1) 1 (by omega) h1
    rw [show k - (L.length + 2) * n - 1 + (L.length + 2) * n + 1 = k from by have : (L.length + 2) * (n + 1) = (L.length + 2) * n + (L.length + 2) := Nat.mul_succ _ _; omega] at this
    exact this
  · have := reached_l0 hn hL hl n (k - (L.length + 2) * (n + 1) - 1) 1 h1 (by omega)
    rw [show k - (L.length + 2) * (n + 1) - 1 + (L.length + 2) * (n + 1) + 1 = k from by omega] at this
    exact this
end Go.Proofs.Ytpmadffgdfholaa.B
namespace Go.Proofs.Ytpmadffgdfholaa.B
open Go.RowKit Go.Proofs.YtpmadffgdfholaaW.PrintWords Go.Proofs.YtpmadffgdfholaaW.PrintLast Go.Proofs.YtpmadffgdfholaaW.PrintMore
def idx (l : List S30) : List Int := (List.range l.length).map fun q : Nat => (q : Int)
theorem idx_length (l : List S30) : (idx l).length = l.length := by simp [idx]
theorem all_code (l : List S30) (hl : l.length < 1000) : ∀ (d i k : Nat), i + d = l.length → branch_town_all.l0 (k + d + 1) ((List.range i).map fun q : Nat => (q : Int)) (l.length : Int) (i : Int) = some (idx l)
  | 0, i, k, h => by
    obtain rfl : i = l.length := by omega
    simp only [branch_town_all.l0]
    rw [if_neg (by omega)]
    rfl
  | d + 1, i, k, h => by
    have ih := all_code l hl d (i + 1) k (by omega)
    have hw := wrap_nat i (by omega)
    rw [← ih, show k + (d + 1) + 1 = (k + d + 1) + 1 from by omega]
    clear ih
    generalize k + d + 1 = qq
    simp only [branch_town_all.l0, hw]
    rw [if_pos (by omega), if_pos (by simp; omega), List.range_succ, List.map_append]
    rfl
theorem all_ref (l : List S30) (hl : l.length < 1000) : ∀ (d i k : Nat), i + d = l.length → trishawref03_all.l0 (k + d + 1) l ((List.range i).map fun q : Nat => (q : Int)) (i : Int) = some (idx l)
  | 0, i, k, h => by
    obtain rfl : i = l.length := by omega
    simp only [trishawref03_all.l0]
    rw [if_neg (by omega)]
    rfl
  | d + 1, i, k, h => by
    have ih := all_ref l hl d (i + 1) k (by omega)
    have hw := wrap_nat i (by omega)
    rw [← ih, show k + (d + 1) + 1 = (k + d + 1) + 1 from by omega]
    clear ih
    generalize k + d + 1 = qq
    simp only [trishawref03_all.l0, hw]
    rw [if_pos (by omega), if_pos (by simp; omega), List.range_succ, List.map_append]
    rfl
theorem rd_T30_mem (l : List S30) (i : Nat) (h : i < l.length) : rd_T30 l (i : Int) ∈ l := by
  simp [rd_T30, List.getD, List.getElem?_eq_getElem h]
theorem idx_in {n : Nat} {l : List S30} (hx : ∀ x ∈ l, wayOk n x = true) : InL n l (idx l) := by
  intro i hi
  obtain ⟨q, hq, rfl⟩ := List.mem_map.1 hi
  have := List.mem_range.1 hq
  exact ⟨by omega, by omega, hx _ (rd_T30_mem l q this)⟩
theorem reach_eq (n : Int) (l : List S30) : ∃ r t : Int, ∃ K, ∀ k, K ≤ k → branch_Reach.f k n l = some (r, t) ∧ trishawref03_Reach.f k n l = some (r, t) := by
  by_cases hr : readB n l = 0
  · obtain ⟨h2, h7, h30, hx⟩ := readB_ok hr
    obtain ⟨m, rfl⟩ := Int.eq_ofNat_of_zero_le (show 0 ≤ n by omega)
    obtain ⟨r, _, K, hK⟩ := reach_both (n := m) (l := l) (L := idx l) (by omega) (by omega) (idx_in hx) (by rw [idx_length]; omega)
    refine ⟨r, 0, K + l.length + 100, fun k hk => ?_⟩
    obtain ⟨a, b⟩ := hK k (by omega)
    have c1 := all_code l (by omega) l.length 0 (k - l.length - 1) (by omega)
    have c2 := all_ref l (by omega) l.length 0 (k - l.length - 1) (by omega)
    rw [show k - l.length - 1 + l.length + 1 = k from by omega] at c1 c2
    replace c1 : branch_town_all.l0 k [] (l.length : Int) 0 = some (idx l) := c1
    replace c2 : trishawref03_all.l0 k l [] 0 = some (idx l) := c2
    unfold branch_Reach.f trishawref03_Reach.f branch_read.f branch_town_all.f trishawref03_all.f
    rw [town_eq _ _ k (.inr (by omega)), hr]
    simp only [Option.bind_some, if_true]
    rw [c1, c2, Option.bind_some, Option.bind_some, a, b]
    exact ⟨rfl, rfl⟩
  · refine ⟨0, readB n l, 100, fun k hk => ?_⟩
    unfold branch_Reach.f trishawref03_Reach.f branch_read.f
    rw [town_eq _ _ k (.inr (by omega)), Option.bind_some, Option.bind_some]
    exact ⟨by rw [if_neg hr], by rw [if_neg hr]⟩
theorem fin_par : ∀ s : Fin 128, (Go.bits .and .i64 ((s.val : Nat) : Int) 1 == 0) = (Int.tmod ((s.val : Nat) : Int) 2 == 0) := by decide +kernel
theorem fin_and0 : ∀ s : Fin 128, ∀ a : Fin 7, (Go.bits .and .i64 (shr .i64 ((s.val : Nat) : Int) ((a.val : Nat) : Int)) 1 = 0) ↔ s.val.testBit a.val = false := by decide +kernel
theorem fin_shl : ∀ n : Fin 8, shl .i64 1 ((n.val : Nat) : Int) = ((2 ^ n.val : Nat) : Int) := by decide +kernel
theorem isSet_eq {m : Nat} (hm : m ≤ 7) (l : List S30) (s : Int) : branch_town_isSet.f (m : Int) l s = trishawref03_IsSet.f (m : Int) s ∧ ∃ b, trishawref03_IsSet.f (m : Int) s = some b ∧ (b = true → 0 < s ∧ s < 128) := by
  have e1 := fin_shl ⟨m, by omega⟩
  simp only [] at e1
  have hp : 2 ^ m ≤ 2 ^ 7 := Nat.pow_le_pow_right (by decide) hm
  have hp1 : 1 ≤ 2 ^ m := Nat.one_le_two_pow
  unfold branch_town_isSet.f trishawref03_IsSet.f branch_town_everybody.f
  rw [e1]
  generalize 2 ^ m = p at hp hp1
  have e2 : wrap64 (((p : Nat) : Int) - 1) = (p : Int) - 1 := by unfold wrap64; omega
  rw [e2]
  by_cases h0 : s > 0
  · rw [if_pos h0, if_pos h0, if_pos (by omega), if_pos (by omega), Option.bind_some]
    by_cases h1 : s < (p : Int)
    · rw [if_pos (by omega), if_pos h1]
      have := fin_par ⟨s.toNat, by omega⟩
      simp only [← int_nat (show 0 ≤ s by omega)] at this
      exact ⟨by rw [this], _, rfl, fun _ => ⟨by omega, by omega⟩⟩
    · rw [if_neg (by omega), if_neg h1]
      exact ⟨rfl, false, rfl, fun h => absurd h (by decide)⟩
  · rw [if_neg h0, if_neg h0]
    exact ⟨rfl, false, rfl, fun h => absurd h (by decide)⟩
/-- The streets that enter, from street i on. -/
def entR (l : List S30) (s : Nat) : Nat → Nat → List Int → List Int
  | 0, _, acc => acc
  | d + 1, i, acc => entR l s d (i + 1) (if s.testBit (rd_T30 l (i : Int)).f0.toNat = false ∧ s.testBit (rd_T30 l (i : Int)).f1.toNat = true then acc ++ [(i : Int)] else acc)
section
variable {n : Int} {l : List S30} {s : Nat}
theorem ent_code (hn : n ≤ 7) (hl : l.length < 1000) (hx : ∀ x ∈ l, wayOk n x = true) (hs : s < 128) : ∀ (d i k : Nat) (acc : List Int), i + d = l.length → acc.length ≤ i →
    branch_town_entering.l0 (k + d + 1) (s : Int) acc l (l.length : Int) (i : Int) = some (entR l s d i acc)
  | 0, i, k, acc, h, _ => by
    simp only [branch_town_entering.l0]
    rw [if_neg (by omega)]
    rfl
  | d + 1, i, k, acc, h, ha => by
    have hi : i < l.length := by omega
    have hw := wrap_nat i (by omega)
    have hok := hx _ (rd_T30_mem l i hi)
    have ih := fun acc ha => ent_code hn hl hx hs d (i + 1) k acc (by omega) ha
    rw [show k + (d + 1) + 1 = (k + d + 1) + 1 from by omega]
    generalize k + d + 1 = qq at ih
    simp only [branch_town_entering.l0, hw, entR]
    rw [if_pos (by omega), if_pos (by omega), if_pos (by omega)]
    generalize rd_T30 l (i : Int) = x at hok
    obtain ⟨h1, h2, h3, h4, _⟩ := (wayOk_iff n x).1 hok
    have f1 := fin_and0 ⟨s, hs⟩ ⟨x.f0.toNat, by omega⟩
    have f2 := fin_and ⟨s, hs⟩ ⟨x.f1.toNat, by omega⟩
    simp only [← int_nat h1, ← int_nat h3] at f1 f2
    rw [if_pos h1]
    by_cases t0 : s.testBit x.f0.toNat = false
    · rw [if_pos (f1.2 t0), if_pos h3]
      by_cases t1 : s.testBit x.f1.toNat = true
      · rw [if_pos (f2.2 t1), if_pos (by omega), if_pos ⟨t0, t1⟩]
        exact ih _ (by simp; omega)
      · rw [if_neg (fun hh => t1 (f2.1 hh)), if_neg (fun hh => t1 hh.2)]
        exact ih _ (by omega)
    · rw [if_neg (fun hh => t0 (f1.1 hh)), if_neg (fun hh => t0 hh.1)]
      exact ih _ (by omega)
end
end Go.Proofs.Ytpmadffgdfholaa.B
namespace Go.Proofs.Ytpmadffgdfholaa.B
/-- Corners that are reached from s along streets of T. -/
inductive Rc (a b : Nat → Nat) (T : Nat → Prop) (s : Nat) : Nat → Prop
  | refl : Rc a b T s s
  | step {i : Nat} : T i → Rc a b T s (a i) → Rc a b T s (b i)
section
variable {n : Nat} {a b : Nat → Nat} {T U : Nat → Prop} {s c d : Nat}
theorem Rc.mono (h : ∀ i, T i → U i) (r : Rc a b T s c) : Rc a b U s c := by
  induction r with
  | refl => exact .refl
  | step t _ ih => exact .step (h _ t) ih
theorem Rc.trans (r : Rc a b T s c) (q : Rc a b T c d) : Rc a b T s d := by
  induction q with
  | refl => exact r
  | step t _ ih => exact .step t ih
theorem Rc.one {i : Nat} (t : T i) : Rc a b T (a i) (b i) := .step t .refl
/-- What is closed under the streets and has s has all that is reached. -/
theorem Rc.closed {S : Nat → Prop} (hs : S s) (h : ∀ i, T i → S (a i) → S (b i)) (r : Rc a b T s c) : S c := by
  induction r with
  | refl => exact hs
  | step t _ ih => exact h _ t ih
theorem least_nat {P : Nat → Prop} (h : ∃ k, P k) : ∃ k, P k ∧ ∀ j, j < k → ¬ P j := by
  obtain ⟨k, hk⟩ := h
  induction k using Nat.strongRecOn with
  | _ k ih =>
    by_cases hj : ∃ j, j < k ∧ P j
    · obtain ⟨j, h1, h2⟩ := hj; exact ih j h1 h2
    · exact ⟨k, hk, fun j h1 h2 => hj ⟨j, h1, h2⟩⟩
/-- A branching: the street that leads to each corner but 0. -/
structure IsB (n : Nat) (a b : Nat → Nat) (T : Nat → Prop) (f : Nat → Nat) : Prop where
  on : ∀ c, 0 < c → c < n → T (f c) ∧ b (f c) = c
  all : ∀ c, c < n → Rc a b (fun i => ∃ c, 0 < c ∧ c < n ∧ i = f c) 0 c
theorem IsB.mono {f : Nat → Nat} (h : IsB n a b T f) (hT : ∀ i, T i → U i) : IsB n a b U f :=
  ⟨fun c h0 h1 => ⟨hT _ (h.on c h0 h1).1, (h.on c h0 h1).2⟩, h.all⟩
theorem IsB.within {f : Nat → Nat} (h : IsB n a b T f) (hU : ∀ c, 0 < c → c < n → U (f c)) : IsB n a b U f :=
  ⟨fun c h0 h1 => ⟨hU c h0 h1, (h.on c h0 h1).2⟩, h.all⟩
theorem IsB.congr {f g : Nat → Nat} (h : IsB n a b T f) (e : ∀ c, 0 < c → c < n → f c = g c) : IsB n a b T g :=
  ⟨fun c h0 h1 => e c h0 h1 ▸ h.on c h0 h1, fun c hc => (h.all c hc).mono fun _ ⟨c, h0, h1, q⟩ => ⟨c, h0, h1, q.trans (e c h0 h1)⟩⟩
def sumZ (g : Nat → Int) : Nat → Int
  | 0 => 0
  | k + 1 => sumZ g k + g k
theorem sumZ_congr {g h : Nat → Int} : ∀ k, (∀ i, i < k → g i = h i) → sumZ g k = sumZ h k
  | 0, _ => rfl
  | k + 1, e => by simp only [sumZ]; rw [sumZ_congr k (fun i hi => e i (by omega)), e k (by omega)]
theorem sumZ_add (g h : Nat → Int) : ∀ k, sumZ (fun i => g i + h i) k = sumZ g k + sumZ h k
  | 0 => rfl
  | k + 1 => by simp only [sumZ]; rw [sumZ_add g h k]; omega
theorem sumZ_zero : ∀ k, sumZ (fun _ => 0) k = 0
  | 0 => rfl
  | k + 1 => by simp only [sumZ]; rw [sumZ_zero k]; rfl
/-- What a branching costs. -/
def costF (n : Nat) (p : Nat → Int) (f : Nat → Nat) : Int := sumZ (fun c => if c = 0 then 0 else p (f c)) n
theorem costF_congr {p q : Nat → Int} {f g : Nat → Nat} (h : ∀ c, 0 < c → c < n → p (f c) = q (g c)) : costF n p f = costF n q g := by
  refine sumZ_congr n fun c hc => ?_
  split
  · rfl
  · exact h c (by omega) hc
end
end Go.Proofs.Ytpmadffgdfholaa.B
namespace Go.Proofs.Ytpmadffgdfholaa.B
set_option linter.unusedVariables false
open Go.RowKit Go.Proofs.YtpmadffgdfholaaW.PrintWords Go.Proofs.YtpmadffgdfholaaW.PrintLast Go.Proofs.YtpmadffgdfholaaW.PrintMore
/-- Where street i begins, and where it ends. -/
def aW (l : List S30) (i : Nat) : Nat := (rd_T30 l (i : Int)).f0.toNat
def bW (l : List S30) (i : Nat) : Nat := (rd_T30 l (i : Int)).f1.toNat
theorem tb_one (b c : Nat) : (1 <<< b).testBit c = decide (c = b) := by
  rw [Nat.shiftLeft_eq, Nat.one_mul, Nat.testBit_two_pow]
  exact decide_eq_decide.mpr eq_comm
theorem tb_or (s b c : Nat) : (s ||| 1 <<< b).testBit c = (s.testBit c || decide (c = b)) := by
  rw [Nat.testBit_or, tb_one]
theorem step_sub (s : Nat) (x : S30) (c : Nat) (h : s.testBit c = true) : (stepS s x).testBit c = true := by
  unfold stepS
  split
  · rw [tb_or, h]; rfl
  · exact h
theorem pass_sub (l : List S30) : ∀ (L : List Int) (s c : Nat), s.testBit c = true → (passS l L s).testBit c = true
  | [], _, _, h => h
  | i :: L, s, c, h => pass_sub l L (stepS s (rd_T30 l i)) c (step_sub s _ c h)
theorem it_sub (l : List S30) (L : List Int) : ∀ (d s c : Nat), s.testBit c = true → (itS l L d s).testBit c = true
  | 0, _, _, h => h
  | d + 1, s, c, h => it_sub l L d _ c (pass_sub l L s c h)
theorem it_iter (l : List S30) (L : List Int) : ∀ d s, itS l L (d + 1) s = passS l L (itS l L d s)
  | 0, _ => rfl
  | d + 1, s => by show itS l L (d + 1) (passS l L s) = passS l L (itS l L d (passS l L s)); exact it_iter l L d _
theorem pass_closed (l : List S30) : ∀ (L : List Int) (s : Nat), passS l L s = s → ∀ i ∈ L, s.testBit (rd_T30 l i).f0.toNat = true → s.testBit (rd_T30 l i).f1.toNat = true
  | [], _, _, i, hi, _ => absurd hi (by simp)
  | j :: L, s, h, i, hi, ha => by
    have h1 : passS l L (stepS s (rd_T30 l j)) = s := h
    have e : stepS s (rd_T30 l j) = s := by
      refine Nat.eq_of_testBit_eq fun c => ?_
      cases hc : s.testBit c with
      | true => exact step_sub s _ c hc
      | false =>
        cases hd : (stepS s (rd_T30 l j)).testBit c with
        | false => rfl
        | true =>
          have := pass_sub l L _ c hd
          rw [h1, hc] at this
          exact absurd this (by decide)
    rw [e] at h1
    rcases List.mem_cons.1 hi with rfl | hi
    · rw [← e]
      unfold stepS
      rw [if_pos ha, tb_or]
      simp
    · exact pass_closed l L s h1 i hi ha
section
variable {n : Nat} {l : List S30} {L : List Int}
theorem pass_sound (hL : InL n l L) : ∀ (L' : List Int), (∀ i ∈ L', i ∈ L) → ∀ (s c : Nat), (passS l L' s).testBit c = true → ∃ e, s.testBit e = true ∧ Rc (aW l) (bW l) (fun i => (i : Int) ∈ L) e c
  | [], _, _, c, h => ⟨c, h, .refl⟩
  | i :: L', hs, s, c, h => by
    obtain ⟨e, he, hr⟩ := pass_sound hL L' (fun j hj => hs j (List.mem_cons_of_mem _ hj)) (stepS s (rd_T30 l i)) c h
    unfold stepS at he
    split at he
    · rename_i ha
      rw [tb_or] at he
      rcases Bool.or_eq_true_iff.1 he with he | he
      · exact ⟨e, he, hr⟩
      · have h2 := hL i (hs i List.mem_cons_self)
        have hi : ((i.toNat : Nat) : Int) = i := by omega
        have e1 : e = bW l i.toNat := by unfold bW; rw [hi]; exact of_decide_eq_true he
        have ea : (rd_T30 l i).f0.toNat = aW l i.toNat := by unfold aW; rw [hi]
        rw [ea] at ha
        refine ⟨aW l i.toNat, ha, Rc.trans (Rc.one (i := i.toNat) (by rw [hi]; exact hs i List.mem_cons_self)) (e1 ▸ hr)⟩
    · exact ⟨e, he, hr⟩
theorem it_sound (hL : InL n l L) : ∀ (d s c : Nat), (itS l L d s).testBit c = true → ∃ e, s.testBit e = true ∧ Rc (aW l) (bW l) (fun i => (i : Int) ∈ L) e c
  | 0, _, c, h => ⟨c, h, .refl⟩
  | d + 1, s, c, h => by
    obtain ⟨e, he, hr⟩ := it_sound hL d _ c h
    obtain ⟨e2, he2, hr2⟩ := pass_sound hL L (fun _ h => h) s e he
    exact ⟨e2, he2, hr2.trans hr⟩
/-- The closure of a set is what is reached from it. -/
theorem closure_iff (hn : n ≤ 7) (hL : InL n l L) {d c : Nat} (hd : d < n) : (itS l L n (1 <<< d)).testBit c = true ↔ Rc (aW l) (bW l) (fun i => (i : Int) ∈ L) d c := by
  have hlt : 1 <<< d < 2 ^ n := by rw [Nat.shiftLeft_eq, Nat.one_mul]; exact Nat.pow_lt_pow_right (by decide) hd
  constructor
  · intro h
    obtain ⟨e, he, hr⟩ := it_sound hL n _ c h
    rw [tb_one] at he
    rw [of_decide_eq_true he] at hr
    exact hr
  · intro hr
    have hfix : passS l L (itS l L n (1 <<< d)) = itS l L n (1 <<< d) := by
      rw [← it_iter]
      exact it_stop hn hL n _ hlt (by omega)
    refine hr.closed (S := fun c => (itS l L n (1 <<< d)).testBit c = true) (it_sub l L n _ d (by rw [tb_one]; simp)) fun i hi ha => ?_
    exact pass_closed l L _ hfix _ hi ha
theorem Rc.lt (hL : InL n l L) {d c : Nat} (hd : d < n) (hr : Rc (aW l) (bW l) (fun i => (i : Int) ∈ L) d c) : c < n := by
  refine hr.closed (S := fun c => c < n) hd fun i hi _ => ?_
  have h := (wayOk_iff n _).1 (hL _ hi).2.2
  unfold bW
  omega
end
end Go.Proofs.Ytpmadffgdfholaa.B
namespace Go.Proofs.Ytpmadffgdfholaa.B
set_option linter.unusedVariables false
open Go.RowKit Go.Proofs.YtpmadffgdfholaaW.PrintWords Go.Proofs.YtpmadffgdfholaaW.PrintLast Go.Proofs.YtpmadffgdfholaaW.PrintMore
def cntN (P : Nat → Bool) : Nat → Nat
  | 0 => 0
  | k + 1 => cntN P k + if P k then 1 else 0
theorem cntN_le {P Q : Nat → Bool} : ∀ k, (∀ i, i < k → P i = true → Q i = true) → cntN P k ≤ cntN Q k
  | 0, _ => Nat.le_refl _
  | k + 1, h => by
    have ih := cntN_le k (fun i hi => h i (by omega))
    have hk := h k (by omega)
    simp only [cntN]
    cases hP : P k with
    | false => simp; split <;> omega
    | true => simp [hk hP]; exact ih
theorem hasB_nat {s c : Nat} (hs : s < 128) (hc : c < 7) : hasB (s : Int) (c : Int) = s.testBit c := by
  have h := fin_and ⟨s, hs⟩ ⟨c, hc⟩
  simp only [] at h
  unfold hasB
  cases ht : s.testBit c with
  | true => exact beq_iff_eq.mpr (h.2 ht)
  | false => exact beq_eq_false_iff_ne.mpr fun e => by rw [h.1 e] at ht; exact absurd ht (by decide)
/-- The streets that are not out. -/
def onT (l : List S30) (og : Int → Bool) (i : Nat) : Prop := i < l.length ∧ og (i : Int) = false
section
variable {n : Nat} {l : List S30}
end
end Go.Proofs.Ytpmadffgdfholaa.B
namespace Go.Proofs.Ytpmadffgdfholaa.B
set_option linter.unusedVariables false
open Go.RowKit Go.Proofs.YtpmadffgdfholaaW.PrintWords Go.Proofs.YtpmadffgdfholaaW.PrintLast Go.Proofs.YtpmadffgdfholaaW.PrintMore
/-- Street i enters the set q. -/
def entB (l : List S30) (q : Nat) (i : Nat) : Bool := !q.testBit (aW l i) && q.testBit (bW l i)
def entL (l : List S30) (q : Nat) : List Int := ((List.range l.length).filter (entB l q)).map fun i : Nat => (i : Int)
theorem entL_nat (l : List S30) (q : Nat) : ∀ x ∈ entL l q, ∃ i : Nat, x = (i : Int) ∧ i < l.length := by
  intro x hx
  unfold entL at hx
  obtain ⟨i, hi, rfl⟩ := List.mem_map.1 hx
  exact ⟨i, rfl, by have := (List.mem_filter.1 hi).1; simpa using this⟩
theorem entL_length (l : List S30) (q : Nat) : (entL l q).length ≤ l.length := by
  unfold entL
  rw [List.length_map]
  exact Nat.le_trans (List.length_filter_le _ _) (by simp)
theorem entR_eq (l : List S30) (q : Nat) : ∀ (d i : Nat) (acc : List Int), i + d = l.length → acc = ((List.range i).filter (entB l q)).map (fun i : Nat => (i : Int)) → entR l q d i acc = entL l q
  | 0, i, acc, h, e => by
    obtain rfl : i = l.length := by omega
    exact e
  | d + 1, i, acc, h, e => by
    rw [entR]
    refine entR_eq l q d (i + 1) _ (by omega) ?_
    rw [List.range_succ, List.filter_append, List.map_append, ← e]
    have hb : (entB l q i = true) ↔ (q.testBit (rd_T30 l (i : Int)).f0.toNat = false ∧ q.testBit (rd_T30 l (i : Int)).f1.toNat = true) := by
      unfold entB aW bW
      rw [Bool.and_eq_true, Bool.not_eq_true']
    by_cases hc : entB l q i = true
    · rw [if_pos (hb.1 hc), List.filter_cons_of_pos hc]
      rfl
    · rw [if_neg (fun h => hc (hb.2 h)), List.filter_cons_of_neg hc]
      simp
theorem entering_f {n : Nat} {l : List S30} (hn : n ≤ 7) (hl : l.length ≤ 30) (hx : ∀ x ∈ l, wayOk n x = true) {q : Nat} (hq : q < 128) (k : Nat) (hk : 40 ≤ k) : branch_town_entering.f k (n : Int) l (q : Int) = some (entL l q) := by
  have c1 := ent_code (n := (n : Int)) (l := l) (s := q) (by omega) (by omega) hx hq l.length 0 (k - l.length - 1) [] (by omega) (by simp)
  rw [show k - l.length - 1 + l.length + 1 = k from by omega, entR_eq l q l.length 0 [] (by omega) (by simp)] at c1
  unfold branch_town_entering.f
  exact c1
section
variable {n : Nat} {l : List S30}
end
/-- A set of corners, as_ a price names it. -/
def IsSetN (n : Nat) (s : Int) : Prop := 0 < s ∧ s < 2 ^ n ∧ s.toNat.testBit 0 = false
section
variable {n : Nat} {l : List S30}
end
end Go.Proofs.Ytpmadffgdfholaa.B
namespace Go.Proofs.Ytpmadffgdfholaa.B
set_option linter.unusedVariables false
open Go.RowKit Go.Proofs.YtpmadffgdfholaaW.PrintWords Go.Proofs.YtpmadffgdfholaaW.PrintLast Go.Proofs.YtpmadffgdfholaaW.PrintMore
/-- Is street j one of the branching's? -/
def useB (n : Nat) (b : Nat → Nat) (f : Nat → Nat) (j : Nat) : Bool := decide (0 < b j) && decide (b j < n) && decide (f (b j) = j)
theorem useB_iff {n : Nat} {b f : Nat → Nat} {j : Nat} : useB n b f j = true ↔ 0 < b j ∧ b j < n ∧ f (b j) = j := by
  unfold useB
  simp [and_assoc]
/-- The indices of a choice of streets, ascending. -/
def selL (X : Nat → Bool) (i : Nat) : List Int := ((List.range i).filter X).map fun j : Nat => (j : Int)
theorem selL_succ (X : Nat → Bool) (i : Nat) : selL X (i + 1) = if X i = true then selL X i ++ [(i : Int)] else selL X i := by
  unfold selL
  rw [List.range_succ, List.filter_append, List.map_append]
  by_cases h : X i = true
  · rw [if_pos h, List.filter_cons_of_pos h]; rfl
  · rw [if_neg h, List.filter_cons_of_neg h]; simp
theorem selL_mem (X : Nat → Bool) (i j : Nat) : (j : Int) ∈ selL X i ↔ j < i ∧ X j = true := by
  unfold selL
  simp only [List.mem_map, List.mem_filter, List.mem_range]
  constructor
  · rintro ⟨q, h, e⟩
    obtain rfl : q = j := by omega
    exact h
  · exact fun h => ⟨j, h, rfl⟩
theorem selL_nat (X : Nat → Bool) (i : Nat) : ∀ x ∈ selL X i, ∃ j : Nat, x = (j : Int) ∧ j < i ∧ X j = true := by
  intro x hx
  unfold selL at hx
  obtain ⟨j, hj, rfl⟩ := List.mem_map.1 hx
  have := List.mem_filter.1 hj
  exact ⟨j, rfl, List.mem_range.1 this.1, this.2⟩
/-- Streets X come first before streets Y, up to i: they are the same, or where they differ for the first time, X has the street. -/
def Ahead (X Y : Nat → Bool) (i : Nat) : Prop := (∀ j, j < i → X j = Y j) ∨ ∃ j, j < i ∧ (∀ q, q < j → X q = Y q) ∧ X j = true ∧ Y j = false
/-- The first branching of the least cost. -/
structure FirstB (n : Nat) (l : List S30) (p : Nat → Int) (v : Int) (f : Nat → Nat) : Prop where
  is : IsB n (aW l) (bW l) (fun i => i < l.length) f
  cost : costF n p f = v
  least : ∀ g, IsB n (aW l) (bW l) (fun i => i < l.length) g → v ≤ costF n p g
  ahead : ∀ g, IsB n (aW l) (bW l) (fun i => i < l.length) g → costF n p g = v → Ahead (useB n (bW l) f) (useB n (bW l) g) l.length
/-- What stands ahead of street i. -/
structure FsInv (n : Nat) (l : List S30) (p : Nat → Int) (v : Int) (i : Nat) (X : Nat → Bool) (gone : Int → Bool) : Prop where
  some : ∃ f, IsB n (aW l) (bW l) (onT l gone) f ∧ costF n p f = v
  below : ∀ j, j < i → (X j = true ↔ gone (j : Int) = false)
  lone : ∀ j, j < i → X j = true → 0 < bW l j ∧ ∀ q, q < l.length → bW l q = bW l j → q ≠ j → gone (q : Int) = true
  why : ∀ q, i ≤ q → q < l.length → gone (q : Int) = true → ∃ j, j < i ∧ X j = true ∧ bW l q = bW l j
  first : ∀ g, IsB n (aW l) (bW l) (fun i => i < l.length) g → costF n p g = v → Ahead X (useB n (bW l) g) i
section
variable {n : Nat} {l : List S30} {p : Nat → Int} {v : Int}
theorem bW_eq {n : Nat} (hx : ∀ x ∈ l, wayOk n x = true) (i : Nat) (h : i < l.length) : (rd_T30 l (i : Int)).f1 = (bW l i : Int) ∧ (rd_T30 l (i : Int)).f0 = (aW l i : Int) ∧ bW l i < n ∧ aW l i < n := by
  have := (wayOk_iff n _).1 (hx _ (rd_T30_mem l i h))
  unfold bW aW
  omega
/-- Streets that agree with the list up to i are not gone. -/
theorem FsInv.agree {i : Nat} {X : Nat → Bool} {gone : Int → Bool} (h : FsInv n l p v i X gone) {g : Nat → Nat} (hg : IsB n (aW l) (bW l) (fun i => i < l.length) g) (ha : ∀ j, j < i → X j = useB n (bW l) g j) : IsB n (aW l) (bW l) (onT l gone) g := by
  refine hg.within fun c c0 c1 => ⟨(hg.on c c0 c1).1, ?_⟩
  have hb := (hg.on c c0 c1).2
  have hu : useB n (bW l) g (g c) = true := useB_iff.2 ⟨by omega, by omega, by rw [hb]⟩
  by_cases hlt : g c < i
  · exact (h.below _ hlt).1 ((ha _ hlt).trans hu)
  · cases hgo : gone ((g c : Nat) : Int) with
    | false => rfl
    | true =>
      obtain ⟨j, hj, hX, hbj⟩ := h.why (g c) (by omega) (hg.on c c0 c1).1 hgo
      have h2 := useB_iff.1 ((ha j hj).symm.trans hX)
      rw [← hbj, hb] at h2
      omega
theorem FsInv.skip {i : Nat} {X : Nat → Bool} {gone : Int → Bool} (h : FsInv n l p v i X gone) (hX : X i = false) (hno : ∀ g, IsB n (aW l) (bW l) (onT l gone) g → costF n p g = v → useB n (bW l) g i = false) :
    FsInv n l p v (i + 1) X (fun j => decide (j = (i : Int)) || gone j) := by
  refine ⟨?_, fun j hj => ?_, fun j hj hXj => ?_, fun q hq hql hgo => ?_, fun g hg hc => ?_⟩
  · obtain ⟨f, hf, hc⟩ := h.some
    refine ⟨f, hf.within fun c c0 c1 => ⟨(hf.on c c0 c1).1.1, ?_⟩, hc⟩
    dsimp only
    rw [(hf.on c c0 c1).1.2, Bool.or_false, decide_eq_false_iff_not]
    intro e
    have e2 : f c = i := by omega
    have := hno f hf hc
    have hu : useB n (bW l) f (f c) = true := useB_iff.2 ⟨by rw [(hf.on c c0 c1).2]; omega, by rw [(hf.on c c0 c1).2]; omega, by rw [(hf.on c c0 c1).2]⟩
    rw [e2, this] at hu
    exact absurd hu (by decide)
  · by_cases e : j = i
    · subst e; simp [hX]
    · rw [h.below j (by omega), decide_eq_false (by omega), Bool.false_or]
  · have hne : j ≠ i := by rintro rfl; rw [hX] at hXj; exact absurd hXj (by decide)
    obtain ⟨h1, h2⟩ := h.lone j (by omega) hXj
    exact ⟨h1, fun q hq hb hqj => by rw [h2 q hq hb hqj, Bool.or_true]⟩
  · rw [decide_eq_false (by omega), Bool.false_or] at hgo
    obtain ⟨j, hj, h2⟩ := h.why q (by omega) hql hgo
    exact ⟨j, by omega, h2⟩
  · rcases h.first g hg hc with ha | ⟨j, hj, h2⟩
    · refine .inl fun j hj => ?_
      by_cases e : j = i
      · subst e; rw [hX, hno g (h.agree hg ha) hc]
      · exact ha j (by omega)
    · exact .inr ⟨j, by omega, h2⟩
theorem FsInv.take {i : Nat} {X : Nat → Bool} {gone : Int → Bool} (h : FsInv n l p v i X gone) (hX : X i = false) (hb0 : 0 < bW l i) (hil : i < l.length) (more : Int → Bool) (hmore : ∀ q : Nat, q < l.length → (more (q : Int) = true ↔ bW l q = bW l i ∧ q ≠ i)) (hgi : gone (i : Int) = false)
    (hyes : ∃ g, IsB n (aW l) (bW l) (onT l (fun j => gone j || more j)) g ∧ costF n p g = v) (hfree : ∀ j, j < i → X j = true → bW l j ≠ bW l i) :
    FsInv n l p v (i + 1) (fun j => X j || decide (j = i)) (fun j => gone j || more j) := by
  refine ⟨hyes, fun j hj => ?_, fun j hj hXj => ?_, fun q hq hql hgo => ?_, fun g hg hc => ?_⟩
  · by_cases e : j = i
    · subst e
      rw [hgi, Bool.false_or]
      simp only [decide_true, Bool.or_true, true_iff]
      refine Bool.eq_false_iff.mpr fun hm => ?_
      exact ((hmore j hil).1 hm).2 rfl
    · rw [decide_eq_false e, Bool.or_false, h.below j (by omega), Bool.or_eq_false_iff]
      constructor
      · intro hgj
        refine ⟨hgj, Bool.eq_false_iff.mpr fun hm => ?_⟩
        have hXj := (h.below j (by omega)).2 hgj
        exact hfree j (by omega) hXj ((hmore j (by omega)).1 hm).1
      · exact fun hh => hh.1
  · by_cases e : j = i
    · subst e
      exact ⟨hb0, fun q hq hb hqj => by rw [(hmore q hq).2 ⟨hb, hqj⟩, Bool.or_true]⟩
    · rw [decide_eq_false e, Bool.or_false] at hXj
      obtain ⟨h1, h2⟩ := h.lone j (by omega) hXj
      exact ⟨h1, fun q hq hb hqj => by rw [h2 q hq hb hqj, Bool.true_or]⟩
  · rcases Bool.or_eq_true_iff.1 hgo with hgo | hgo
    · obtain ⟨j, hj, hXj, hb⟩ := h.why q (by omega) hql hgo
      exact ⟨j, by omega, by rw [hXj, Bool.true_or], hb⟩
    · exact ⟨i, by omega, by simp, ((hmore q hql).1 hgo).1⟩
  · rcases h.first g hg hc with ha | ⟨j, hj, hq, h2⟩
    · cases hu : useB n (bW l) g i with
      | true =>
        refine .inl fun j hj => ?_
        by_cases e : j = i
        · subst e; rw [hu]; simp
        · dsimp only; rw [decide_eq_false e, Bool.or_false]; exact ha j (by omega)
      | false =>
        refine .inr ⟨i, by omega, fun q hq => ?_, by simp, hu⟩
        dsimp only
        rw [decide_eq_false (by omega), Bool.or_false]; exact ha q hq
    · refine .inr ⟨j, by omega, fun q hq2 => ?_, by dsimp only; rw [h2.1, Bool.true_or], h2.2⟩
      dsimp only
      rw [decide_eq_false (by omega), Bool.or_false]; exact hq q hq2
end
end Go.Proofs.Ytpmadffgdfholaa.B
namespace Go.Proofs.Ytpmadffgdfholaa.B
set_option linter.unusedVariables false
open Go.RowKit Go.Proofs.YtpmadffgdfholaaW.PrintWords Go.Proofs.YtpmadffgdfholaaW.PrintLast Go.Proofs.YtpmadffgdfholaaW.PrintMore
def costW (l : List S30) (i : Nat) : Int := (rd_T30 l (i : Int)).f2
theorem sumZ_swap (g : Nat → Nat → Int) (n : Nat) : ∀ m, sumZ (fun i => sumZ (g i) n) m = sumZ (fun c => sumZ (fun i => g i c) m) n
  | 0 => (sumZ_zero n).symm
  | m + 1 => by
    simp only [sumZ]
    rw [sumZ_swap g n m, ← sumZ_add]
theorem sumZ_pick (x : Int) (t : Nat) : ∀ m, sumZ (fun i => if i = t then x else 0) m = if t < m then x else 0
  | 0 => by simp [sumZ]
  | m + 1 => by
    simp only [sumZ]
    rw [sumZ_pick x t m]
    by_cases h1 : t < m
    · rw [if_pos h1, if_neg (by omega), if_pos (by omega)]; omega
    · by_cases h2 : m = t
      · rw [if_neg h1, if_pos h2, if_pos (by omega)]; omega
      · rw [if_neg h1, if_neg h2, if_neg (by omega)]; rfl
section
variable {n : Nat} {l : List S30} {f : Nat → Nat}
/-- What is summed over the streets of a branching is summed over its corners. -/
theorem sum_used (b : Nat → Nat) (m : Nat) (hf : ∀ c, 0 < c → c < n → f c < m ∧ b (f c) = c) (p : Nat → Int) : sumZ (fun j => if useB n b f j = true then p j else 0) m = costF n p f := by
  have h1 : ∀ j, j < m → (if useB n b f j = true then p j else 0) = sumZ (fun c => if c = 0 then 0 else if j = f c then p j else 0) n := by
    intro j hj
    by_cases hu : useB n b f j = true
    · obtain ⟨u1, u2, u3⟩ := useB_iff.1 hu
      rw [if_pos hu]
      have : sumZ (fun c => if c = 0 then 0 else if j = f c then p j else 0) n = sumZ (fun c => if c = b j then p j else 0) n := by
        refine sumZ_congr n fun c hc => ?_
        by_cases e : c = b j
        · subst e; rw [if_neg (by omega), if_pos u3.symm, if_pos rfl]
        · rw [if_neg e]
          by_cases h0 : c = 0
          · rw [if_pos h0]
          · rw [if_neg h0, if_neg]
            intro h
            have := (hf c (by omega) hc).2
            rw [← h] at this
            exact e this.symm
      rw [this, sumZ_pick, if_pos u2]
    · rw [if_neg hu]
      refine ((sumZ_congr n fun c hc => ?_).trans (sumZ_zero n)).symm
      by_cases h0 : c = 0
      · rw [if_pos h0]
      · rw [if_neg h0, if_neg]
        intro h
        have h2 := (hf c (by omega) hc).2
        rw [← h] at h2
        exact hu (useB_iff.2 ⟨by omega, by omega, by rw [h2, h]⟩)
  rw [sumZ_congr m h1, sumZ_swap (fun j c => if c = 0 then 0 else if j = f c then p j else 0) n m]
  unfold costF
  refine sumZ_congr n fun c hc => ?_
  by_cases h0 : c = 0
  · rw [if_pos h0]
    refine (sumZ_congr m fun i _ => ?_).trans (sumZ_zero m)
    rw [if_pos h0]
  · rw [if_neg h0]
    have : sumZ (fun i => if c = 0 then 0 else if i = f c then p i else 0) m = sumZ (fun i => if i = f c then p (f c) else 0) m := by
      refine sumZ_congr m fun i _ => ?_
      rw [if_neg h0]
      by_cases e : i = f c
      · rw [if_pos e, if_pos e, e]
      · rw [if_neg e, if_neg e]
    rw [this, sumZ_pick, if_pos (hf c (by omega) hc).1]
theorem selL_count (X : Nat → Bool) : ∀ m, ((selL X m).length : Int) = sumZ (fun j => if X j = true then 1 else 0) m
  | 0 => rfl
  | m + 1 => by
    simp only [sumZ]
    rw [selL_succ, ← selL_count X m]
    split
    · rw [List.length_append, List.length_singleton]; omega
    · omega
theorem costF_one (n : Nat) (f : Nat → Nat) : ∀ m, m ≤ n → 1 ≤ m → sumZ (fun c => if c = 0 then 0 else (fun _ => (1 : Int)) (f c)) m = (m : Int) - 1
  | 0, _, h => absurd h (by decide)
  | 1, _, _ => rfl
  | m + 2, h, _ => by
    have ih := costF_one n f (m + 1) (by omega) (by omega)
    rw [sumZ, ih, if_neg (by omega)]
    dsimp only
    omega
theorem IsB.selLen (hn : 1 ≤ n) (hf : IsB n (aW l) (bW l) (fun i => i < l.length) f) : (selL (useB n (bW l) f) l.length).length = n - 1 := by
  have h1 := selL_count (useB n (bW l) f) l.length
  rw [sum_used (n := n) (f := f) (bW l) l.length hf.on (fun _ => 1)] at h1
  unfold costF at h1
  rw [costF_one n f n (Nat.le_refl _) hn] at h1
  omega
theorem asc_ext : ∀ (L M : List Int), L.Pairwise (· < ·) → M.Pairwise (· < ·) → (∀ x, x ∈ L ↔ x ∈ M) → L = M
  | [], [], _, _, _ => rfl
  | [], y :: M, _, _, h => absurd ((h y).2 List.mem_cons_self) (by simp)
  | x :: L, [], _, _, h => absurd ((h x).1 List.mem_cons_self) (by simp)
  | x :: L, y :: M, h1, h2, h => by
    rw [List.pairwise_cons] at h1 h2
    have hxy : x = y := by
      have a := (h x).1 List.mem_cons_self
      have b := (h y).2 List.mem_cons_self
      rcases List.mem_cons.1 a with a | a
      · exact a
      · rcases List.mem_cons.1 b with b | b
        · exact b.symm
        · have := h2.1 x a; have := h1.1 y b; omega
    subst hxy
    rw [asc_ext L M h1.2 h2.2 fun z => ?_]
    constructor
    · intro hz
      rcases List.mem_cons.1 ((h z).1 (List.mem_cons_of_mem _ hz)) with e | e
      · subst e; have := h1.1 z hz; omega
      · exact e
    · intro hz
      rcases List.mem_cons.1 ((h z).2 (List.mem_cons_of_mem _ hz)) with e | e
      · subst e; have := h2.1 z hz; omega
      · exact e
theorem selL_asc (X : Nat → Bool) : ∀ m, (selL X m).Pairwise (· < ·)
  | 0 => List.Pairwise.nil
  | m + 1 => by
    rw [selL_succ]
    split
    · rw [List.pairwise_append]
      refine ⟨selL_asc X m, List.pairwise_singleton _ _, fun a ha b hb => ?_⟩
      obtain ⟨j, rfl, hj, _⟩ := selL_nat X m a ha
      rw [List.mem_singleton] at hb
      omega
    · exact selL_asc X m
structure PreOk (l : List S30) (L : List Int) (q : Nat) : Prop where
  rng : ∀ j : Nat, j < q → 0 ≤ rd L (j : Int) ∧ rd L (j : Int) < (l.length : Int)
  asc : ∀ j : Nat, j + 1 < q → rd L (j : Int) < rd L ((j + 1 : Nat) : Int)
  far : ∀ i j : Nat, i < j → j < q → bW l (rd L (i : Int)).toNat ≠ bW l (rd L (j : Int)).toNat
  pos : ∀ j : Nat, j < q → bW l (rd L (j : Int)).toNat ≠ 0
theorem PreOk.le {L : List Int} {q r : Nat} (h : PreOk l L q) (hr : r ≤ q) : PreOk l L r :=
  ⟨fun j hj => h.rng j (by omega), fun j hj => h.asc j (by omega), fun i j hi hj => h.far i j hi (by omega), fun j hj => h.pos j (by omega)⟩
def metN (l : List S30) (L : List Int) : Nat → Nat
  | 0 => 1
  | q + 1 => metN l L q ||| 1 <<< bW l (rd L (q : Int)).toNat
def costN (l : List S30) (L : List Int) : Nat → Int
  | 0 => 0
  | q + 1 => costN l L q + costW l (rd L (q : Int)).toNat
theorem metN_bit (l : List S30) (L : List Int) (c : Nat) : ∀ q, (metN l L q).testBit c = true ↔ c = 0 ∨ ∃ j, j < q ∧ bW l (rd L (j : Int)).toNat = c
  | 0 => by
    rw [metN, show (1 : Nat) = 1 <<< 0 from rfl, tb_one, decide_eq_true_eq]
    exact ⟨.inl, fun h => h.resolve_right (fun ⟨j, hj, _⟩ => by omega)⟩
  | q + 1 => by
    rw [metN, tb_or, Bool.or_eq_true, metN_bit l L c q, decide_eq_true_eq]
    constructor
    · rintro ((h | ⟨j, hj, h⟩) | h)
      · exact .inl h
      · exact .inr ⟨j, by omega, h⟩
      · exact .inr ⟨q, by omega, h.symm⟩
    · rintro (h | ⟨j, hj, h⟩)
      · exact .inl (.inl h)
      · by_cases e : j = q
        · subst e; exact .inr h.symm
        · exact .inl (.inr ⟨j, by omega, h⟩)
theorem metN_lt (hn1 : 1 ≤ n) (hn : n ≤ 7) (hx : ∀ x ∈ l, wayOk n x = true) {L : List Int} : ∀ q, PreOk l L q → metN l L q < 128
  | 0, _ => (by decide : (1 : Nat) < 128)
  | q + 1, h => by
    have ih := metN_lt hn1 hn hx q (h.le (by omega))
    have hr := h.rng q (by omega)
    have hb := (bW_eq hx (rd L (q : Int)).toNat (by omega)).2.2.1
    exact fin_lt ⟨7, by decide⟩ ⟨metN l L q, ih⟩ ⟨bW l (rd L (q : Int)).toNat, by omega⟩ ih (by simp only []; omega)
theorem costN_bound (hx : ∀ x ∈ l, wayOk n x = true) {L : List Int} : ∀ q, PreOk l L q → 0 ≤ costN l L q ∧ costN l L q ≤ 1000 * q
  | 0, _ => by simp [costN]
  | q + 1, h => by
    have ih := costN_bound hx q (h.le (by omega))
    have hr := h.rng q (by omega)
    have hw := (wayOk_iff n _).1 (hx _ (rd_T30_mem l (rd L (q : Int)).toNat (by omega)))
    simp only [costN, costW]
    omega
/-- What stops at street q. -/
theorem PreOk.next {L : List Int} {q : Nat} (h : PreOk l L q) (h0 : 0 ≤ rd L (q : Int)) (h1 : rd L (q : Int) < (l.length : Int)) (h2 : 0 < q → rd L ((q - 1 : Nat) : Int) < rd L (q : Int)) (h3 : (metN l L q).testBit (bW l (rd L (q : Int)).toNat) = false) : PreOk l L (q + 1) := by
  have hm : ¬ (bW l (rd L (q : Int)).toNat = 0 ∨ ∃ j, j < q ∧ bW l (rd L (j : Int)).toNat = bW l (rd L (q : Int)).toNat) := fun hh => by
    rw [(metN_bit l L _ q).2 hh] at h3; exact absurd h3 (by decide)
  refine ⟨fun j hj => ?_, fun j hj => ?_, fun i j hi hj => ?_, fun j hj => ?_⟩
  · by_cases e : j = q
    · subst e; exact ⟨h0, h1⟩
    · exact h.rng j (by omega)
  · by_cases e : j + 1 = q
    · have := h2 (by omega)
      rw [show q - 1 = j by omega] at this
      rw [e]; exact this
    · exact h.asc j (by omega)
  · by_cases e : j = q
    · subst e; exact fun hh => hm (.inr ⟨i, hi, hh⟩)
    · exact h.far i j hi (by omega)
  · by_cases e : j = q
    · subst e; exact fun hh => hm (.inl hh)
    · exact h.pos j (by omega)
theorem PreOk.not_met {L : List Int} {q : Nat} (h : PreOk l L (q + 1)) : (metN l L q).testBit (bW l (rd L (q : Int)).toNat) = false := by
  refine Bool.eq_false_iff.mpr fun hh => ?_
  rcases (metN_bit l L _ q).1 hh with h1 | ⟨j, hj, h1⟩
  · exact h.pos q (by omega) h1
  · exact h.far j q hj (by omega) h1
theorem is_code (hn1 : 1 ≤ n) (hn : n ≤ 7) (hx : ∀ x ∈ l, wayOk n x = true) (hl : l.length ≤ 30) {L : List Int} (hL : L.length ≤ 60) : ∀ (d q k : Nat), q + d = L.length → PreOk l L q →
    (PreOk l L L.length → branch_town_is.l0 (k + 2 * d + 1) L (costN l L q) (metN l L q : Int) L (L.length : Int) (q : Int) (n : Int) l = (branch_town_reach.f k (n : Int) l L).bind fun t => (branch_town_everybody.f (n : Int) l).bind fun u => if t = u then some (costN l L L.length, true) else some (0, false)) ∧
    (¬ PreOk l L L.length → branch_town_is.l0 (k + 2 * d + 1) L (costN l L q) (metN l L q : Int) L (L.length : Int) (q : Int) (n : Int) l = some (0, false))
  | 0, q, k, h, hP => by
    obtain rfl : q = L.length := by omega
    refine ⟨fun _ => ?_, fun h => absurd hP h⟩
    rw [show k + 2 * 0 + 1 = k + 1 from rfl, branch_town_is.l0, if_neg (by omega)]
  | d + 1, q, k, h, hP => by
    have hq : q < L.length := by omega
    have hw := wrap_nat q (by omega)
    rw [show k + 2 * (d + 1) + 1 = (k + 2 * d + 1) + 1 + 1 from by omega]
    have ih := fun hP => is_code hn1 hn hx hl hL d (q + 1) k (by omega) hP
    simp only [costN, metN] at ih
    generalize hkk : k + 2 * d + 1 = kk at ih
    have hj1 : ∀ c m x, branch_town_is.j1 (kk + 1) L c m x L (L.length : Int) (q : Int) true (n : Int) l = some (0, false) := fun c m x => by rw [branch_town_is.j1, if_pos rfl]
    have hl0 : branch_town_is.l0 (kk + 1 + 1) L (costN l L q) (metN l L q : Int) L (L.length : Int) (q : Int) (n : Int) l =
        if rd L (q : Int) < 0 ∨ rd L (q : Int) ≥ (l.length : Int) ∨ (0 < q ∧ rd L (q : Int) ≤ rd L ((q - 1 : Nat) : Int)) then some (0, false) else branch_town_is.j1 (kk + 1) L (costN l L q) (metN l L q : Int) (rd L (q : Int)) L (L.length : Int) (q : Int) ((metN l L q).testBit (bW l (rd L (q : Int)).toNat)) (n : Int) l := by
      rw [branch_town_is.l0]
      rw [if_pos (by omega), if_pos (by omega), if_pos (by omega)]
      by_cases t1 : rd L (q : Int) < 0
      · rw [if_pos t1, hj1, if_pos (.inl t1)]
      rw [if_neg t1]
      by_cases t2 : rd L (q : Int) ≥ (l.length : Int)
      · rw [if_pos t2, hj1, if_pos (.inr (.inl t2))]
      rw [if_neg t2]
      obtain ⟨i, hi⟩ : ∃ i : Nat, rd L (q : Int) = (i : Int) := Int.eq_ofNat_of_zero_le (by omega)
      have hil : i < l.length := by omega
      obtain ⟨e1, _, e3, _⟩ := bW_eq hx i hil
      have hm7 := metN_lt hn1 hn hx q hP
      have hb := hasB_nat (s := metN l L q) (c := bW l i) hm7 (by omega)
      unfold hasB at hb
      by_cases t3 : 0 < q
      · have hw2 : wrap64 ((q : Int) - 1) = ((q - 1 : Nat) : Int) := by unfold wrap64; omega
        rw [if_pos (by omega), hw2, if_pos (by omega), if_pos (by omega)]
        by_cases t4 : rd L (q : Int) ≤ rd L ((q - 1 : Nat) : Int)
        · rw [if_pos t4, hj1, if_pos (.inr (.inr ⟨t3, t4⟩))]
        · have t : ¬ (rd L (q : Int) < 0 ∨ rd L (q : Int) ≥ (l.length : Int) ∨ (0 < q ∧ rd L (q : Int) ≤ rd L ((q - 1 : Nat) : Int))) := by omega
          rw [if_neg t4, if_pos (by omega), if_pos (by omega), if_neg t, hi, e1, if_pos (by omega), hb, Int.toNat_natCast]
      · have t : ¬ (rd L (q : Int) < 0 ∨ rd L (q : Int) ≥ (l.length : Int) ∨ (0 < q ∧ rd L (q : Int) ≤ rd L ((q - 1 : Nat) : Int))) := by omega
        rw [if_neg (by omega), if_pos (by omega), if_pos (by omega), if_neg t, hi, e1, if_pos (by omega), hb, Int.toNat_natCast]
    rw [hl0]
    by_cases t : rd L (q : Int) < 0 ∨ rd L (q : Int) ≥ (l.length : Int) ∨ (0 < q ∧ rd L (q : Int) ≤ rd L ((q - 1 : Nat) : Int))
    · rw [if_pos t]
      refine ⟨fun hF => ?_, fun _ => rfl⟩
      exfalso
      have h1 := hF.rng q hq
      rcases t with t | t | ⟨t0, t⟩
      · omega
      · omega
      · have := hF.asc (q - 1) (by omega)
        rw [show q - 1 + 1 = q by omega] at this
        omega
    · rw [if_neg t]
      have t1 : ¬ rd L (q : Int) < 0 := fun h => t (.inl h)
      have t2 : ¬ rd L (q : Int) ≥ (l.length : Int) := fun h => t (.inr (.inl h))
      have t3 : 0 < q → rd L ((q - 1 : Nat) : Int) < rd L (q : Int) := fun h0 => by
        refine Classical.byContradiction fun hh => t (.inr (.inr ⟨h0, by omega⟩))
      cases hb : (metN l L q).testBit (bW l (rd L (q : Int)).toNat) with
      | true =>
        rw [hj1]
        refine ⟨fun hF => ?_, fun _ => rfl⟩
        have := (hF.le (show q + 1 ≤ L.length by omega)).not_met
        rw [hb] at this
        exact absurd this (by decide)
      | false =>
        have hP2 := hP.next (by omega) (by omega) t3 hb
        have ih := ih hP2
        obtain ⟨i, hi⟩ : ∃ i : Nat, rd L (q : Int) = (i : Int) := Int.eq_ofNat_of_zero_le (by omega)
        have hil : i < l.length := by omega
        obtain ⟨e1, _, e3, _⟩ := bW_eq hx i hil
        have hm7 := metN_lt hn1 hn hx q hP
        have f2 := fin_or ⟨metN l L q, hm7⟩ ⟨bW l i, by omega⟩
        simp only [] at f2
        have hcb := costN_bound hx q hP
        have hwy := (wayOk_iff n _).1 (hx _ (rd_T30_mem l i hil))
        have hj : branch_town_is.j1 (kk + 1) L (costN l L q) (metN l L q : Int) (rd L (q : Int)) L (L.length : Int) (q : Int) false (n : Int) l = branch_town_is.l0 kk L (costN l L q + costW l (rd L (q : Int)).toNat) ((metN l L q ||| 1 <<< bW l (rd L (q : Int)).toNat : Nat) : Int) L (L.length : Int) ((q + 1 : Nat) : Int) (n : Int) l := by
          rw [branch_town_is.j1]
          rw [if_neg (by decide), if_pos (by omega), if_pos (by omega), hi, e1, if_pos (by omega), f2, hw, Int.toNat_natCast]
          rw [show wrap64 (costN l L q + (rd_T30 l (i : Int)).f2) = costN l L q + costW l i from by unfold costW wrap64; omega]
        rw [hj]
        exact ih
theorem is_ref (hn1 : 1 ≤ n) (hn : n ≤ 7) (hx : ∀ x ∈ l, wayOk n x = true) (hl : l.length ≤ 30) {L : List Int} (hL : L.length ≤ 60) : ∀ (d q k : Nat), q + d = L.length → PreOk l L q →
    (PreOk l L L.length → trishawref03_IsBranching.l0 (k + 2 * d + 1) (n : Int) l L (metN l L q : Int) (q : Int) = (trishawref03_reached.f k l L).bind fun t => some (t == (wrap64 ((shl .i64 1 (n : Int)) - 1)))) ∧
    (¬ PreOk l L L.length → trishawref03_IsBranching.l0 (k + 2 * d + 1) (n : Int) l L (metN l L q : Int) (q : Int) = some false)
  | 0, q, k, h, hP => by
    obtain rfl : q = L.length := by omega
    refine ⟨fun _ => ?_, fun h => absurd hP h⟩
    rw [show k + 2 * 0 + 1 = k + 1 from rfl, trishawref03_IsBranching.l0, if_neg (by omega)]
    refine congrArg _ (funext fun t => ?_)
    rw [if_pos (by omega)]
  | d + 1, q, k, h, hP => by
    have hq : q < L.length := by omega
    have hw := wrap_nat q (by omega)
    rw [show k + 2 * (d + 1) + 1 = (k + 2 * d + 1) + 1 + 1 from by omega]
    have ih := fun hP => is_ref hn1 hn hx hl hL d (q + 1) k (by omega) hP
    simp only [metN] at ih
    generalize hkk : k + 2 * d + 1 = kk at ih
    have hj1 : ∀ m, trishawref03_IsBranching.j1 (kk + 1) (n : Int) l L m (q : Int) true = some false := fun m => by rw [trishawref03_IsBranching.j1, if_pos rfl]
    have hl0 : trishawref03_IsBranching.l0 (kk + 1 + 1) (n : Int) l L (metN l L q : Int) (q : Int) =
        if rd L (q : Int) < 0 ∨ rd L (q : Int) ≥ (l.length : Int) ∨ (0 < q ∧ rd L (q : Int) ≤ rd L ((q - 1 : Nat) : Int)) then some false else trishawref03_IsBranching.j1 (kk + 1) (n : Int) l L (metN l L q : Int) (q : Int) ((metN l L q).testBit (bW l (rd L (q : Int)).toNat)) := by
      rw [trishawref03_IsBranching.l0]
      rw [if_pos (by omega), if_pos (by omega)]
      by_cases t1 : rd L (q : Int) < 0
      · rw [if_pos t1, hj1, if_pos (.inl t1)]
      rw [if_neg t1]
      by_cases t2 : rd L (q : Int) ≥ (l.length : Int)
      · rw [if_pos t2, hj1, if_pos (.inr (.inl t2))]
      rw [if_neg t2]
      obtain ⟨i, hi⟩ : ∃ i : Nat, rd L (q : Int) = (i : Int) := Int.eq_ofNat_of_zero_le (by omega)
      have hil : i < l.length := by omega
      obtain ⟨e1, _, e3, _⟩ := bW_eq hx i hil
      have hm7 := metN_lt hn1 hn hx q hP
      have f1 := fin_mod ⟨metN l L q, hm7⟩ ⟨bW l i, by omega⟩
      simp only [] at f1
      have hb : (Int.tmod (shr .i64 (metN l L q : Int) (bW l i : Int)) 2 == 1) = (metN l L q).testBit (bW l i) := by
        rw [f1]
        cases (metN l L q).testBit (bW l i) <;> rfl
      by_cases t3 : 0 < q
      · have hw2 : wrap64 ((q : Int) - 1) = ((q - 1 : Nat) : Int) := by unfold wrap64; omega
        rw [if_pos (by omega), hw2, if_pos (by omega), if_pos (by omega)]
        by_cases t4 : rd L (q : Int) ≤ rd L ((q - 1 : Nat) : Int)
        · rw [if_pos t4, hj1, if_pos (.inr (.inr ⟨t3, t4⟩))]
        · have t : ¬ (rd L (q : Int) < 0 ∨ rd L (q : Int) ≥ (l.length : Int) ∨ (0 < q ∧ rd L (q : Int) ≤ rd L ((q - 1 : Nat) : Int))) := by omega
          rw [if_neg t4, if_pos (by omega), if_pos (by omega), if_neg t, hi, e1, if_pos (by omega), hb, Int.toNat_natCast]
      · have t : ¬ (rd L (q : Int) < 0 ∨ rd L (q : Int) ≥ (l.length : Int) ∨ (0 < q ∧ rd L (q : Int) ≤ rd L ((q - 1 : Nat) : Int))) := by omega
        rw [if_neg (by omega), if_pos (by omega), if_pos (by omega), if_neg t, hi, e1, if_pos (by omega), hb, Int.toNat_natCast]
    rw [hl0]
    by_cases t : rd L (q : Int) < 0 ∨ rd L (q : Int) ≥ (l.length : Int) ∨ (0 < q ∧ rd L (q : Int) ≤ rd L ((q - 1 : Nat) : Int))
    · rw [if_pos t]
      refine ⟨fun hF => ?_, fun _ => rfl⟩
      exfalso
      have h1 := hF.rng q hq
      rcases t with t | t | ⟨t0, t⟩
      · omega
      · omega
      · have := hF.asc (q - 1) (by omega)
        rw [show q - 1 + 1 = q by omega] at this
        omega
    · rw [if_neg t]
      have t1 : ¬ rd L (q : Int) < 0 := fun h => t (.inl h)
      have t2 : ¬ rd L (q : Int) ≥ (l.length : Int) := fun h => t (.inr (.inl h))
      have t3 : 0 < q → rd L ((q - 1 : Nat) : Int) < rd L (q : Int) := fun h0 => by
        refine Classical.byContradiction fun hh => t (.inr (.inr ⟨h0, by omega⟩))
      cases hb : (metN l L q).testBit (bW l (rd L (q : Int)).toNat) with
      | true =>
        rw [hj1]
        refine ⟨fun hF => ?_, fun _ => rfl⟩
        have := (hF.le (show q + 1 ≤ L.length by omega)).not_met
        rw [hb] at this
        exact absurd this (by decide)
      | false =>
        have hP2 := hP.next (by omega) (by omega) t3 hb
        have ih := ih hP2
        obtain ⟨i, hi⟩ : ∃ i : Nat, rd L (q : Int) = (i : Int) := Int.eq_ofNat_of_zero_le (by omega)
        have hil : i < l.length := by omega
        obtain ⟨e1, _, e3, _⟩ := bW_eq hx i hil
        have hm7 := metN_lt hn1 hn hx q hP
        rw [hi, Int.toNat_natCast] at hb
        have f2 := fin_add ⟨metN l L q, hm7⟩ ⟨bW l i, by omega⟩ hb
        simp only [] at f2
        have hj : trishawref03_IsBranching.j1 (kk + 1) (n : Int) l L (metN l L q : Int) (q : Int) false = trishawref03_IsBranching.l0 kk (n : Int) l L ((metN l L q ||| 1 <<< bW l (rd L (q : Int)).toNat : Nat) : Int) ((q + 1 : Nat) : Int) := by
          rw [trishawref03_IsBranching.j1]
          rw [if_neg (by decide), if_pos (by omega), if_pos (by omega), if_pos (by omega), if_pos (by omega), hi, e1, if_pos (by omega), f2, hw, Int.toNat_natCast]
        rw [hj]
        exact ih
end
end Go.Proofs.Ytpmadffgdfholaa.B
namespace Go.Proofs.Ytpmadffgdfholaa.B
set_option linter.unusedVariables false
open Go.RowKit Go.Proofs.YtpmadffgdfholaaW.PrintWords Go.Proofs.YtpmadffgdfholaaW.PrintLast Go.Proofs.YtpmadffgdfholaaW.PrintMore
section
variable {n : Nat} {l : List S30} {f : Nat → Nat}
/-- The list of the streets of a branching. -/
def listB (n : Nat) (l : List S30) (f : Nat → Nat) : List Int := selL (useB n (bW l) f) l.length
abbrev BrB (n : Nat) (l : List S30) (f : Nat → Nat) : Prop := IsB n (aW l) (bW l) (fun i => i < l.length) f
theorem rd_get (L : List Int) (j : Nat) (h : j < L.length) : rd L (j : Int) = L[j] := by
  simp [rd, List.getD, List.getElem?_eq_getElem h]
theorem mem_rd (L : List Int) (x : Int) : x ∈ L ↔ ∃ j : Nat, j < L.length ∧ rd L (j : Int) = x := by
  constructor
  · intro h
    obtain ⟨j, hj, e⟩ := List.mem_iff_getElem.1 h
    exact ⟨j, hj, (rd_get L j hj).trans e⟩
  · rintro ⟨j, hj, e⟩
    rw [rd_get L j hj] at e
    exact e ▸ List.getElem_mem hj
theorem asc_pair (L : List Int) : (∀ j : Nat, j + 1 < L.length → rd L (j : Int) < rd L ((j + 1 : Nat) : Int)) ↔ L.Pairwise (· < ·) := by
  rw [List.pairwise_iff_getElem]
  constructor
  · intro h i j hi hj hij
    have key : ∀ d, i + 1 + d < L.length → rd L (i : Int) < rd L ((i + 1 + d : Nat) : Int) := by
      intro d
      induction d with
      | zero => exact fun h2 => h i h2
      | succ d ih => exact fun h2 => Int.lt_trans (ih (by omega)) (h (i + 1 + d) h2)
    have := key (j - i - 1) (by omega)
    rw [show i + 1 + (j - i - 1) = j by omega, rd_get L i hi, rd_get L j hj] at this
    exact this
  · intro h j hj
    rw [rd_get L j (by omega), rd_get L (j + 1) hj]
    exact h j (j + 1) (by omega) hj (by omega)
structure Full (n : Nat) (l : List S30) (L : List Int) : Prop where
  len : L.length = n - 1
  pre : PreOk l L L.length
  all : ∀ c, c < n → Rc (aW l) (bW l) (fun i => (i : Int) ∈ L) 0 c
theorem full_iff (hn1 : 1 ≤ n) (hn : n ≤ 7) (hx : ∀ x ∈ l, wayOk n x = true) (L : List Int) : Full n l L ↔ ∃ f, BrB n l f ∧ L = listB n l f := by
  constructor
  · intro hF
    have hnat : ∀ x ∈ L, ∃ i : Nat, x = (i : Int) ∧ i < l.length ∧ bW l i ≠ 0 := by
      intro x hxL
      obtain ⟨j, hj, e⟩ := (mem_rd L x).1 hxL
      have h1 := hF.pre.rng j hj
      have h2 := hF.pre.pos j hj
      rw [e] at h1 h2
      exact ⟨x.toNat, by omega, by omega, h2⟩
    have hone : ∀ i j : Nat, (i : Int) ∈ L → (j : Int) ∈ L → bW l i = bW l j → i = j := by
      intro i j hi hj hb
      obtain ⟨p, hp, e1⟩ := (mem_rd L i).1 hi
      obtain ⟨q, hq, e2⟩ := (mem_rd L j).1 hj
      rcases Nat.lt_trichotomy p q with h | h | h
      · have := hF.pre.far p q h hq
        rw [e1, e2] at this
        exact absurd hb this
      · subst h; omega
      · have := hF.pre.far q p h hp
        rw [e1, e2] at this
        exact absurd hb.symm this
    have hex : ∀ c, ∃ i : Nat, 0 < c → c < n → (i : Int) ∈ L ∧ bW l i = c := by
      intro c
      by_cases hc : 0 < c ∧ c < n
      · have hr := hF.all c hc.2
        generalize hz : (0 : Nat) = z at hr
        cases hr with
        | refl => omega
        | @step i t _ => exact ⟨i, fun _ _ => ⟨t, rfl⟩⟩
      · exact ⟨0, fun h1 h2 => absurd ⟨h1, h2⟩ hc⟩
    obtain ⟨f, hf⟩ : ∃ f : Nat → Nat, ∀ c, 0 < c → c < n → (f c : Int) ∈ L ∧ bW l (f c) = c := ⟨fun c => Classical.choose (hex c), fun c => Classical.choose_spec (hex c)⟩
    have hlt : ∀ i : Nat, (i : Int) ∈ L → i < l.length ∧ bW l i ≠ 0 := by
      intro i hi
      obtain ⟨j, e, h1, h2⟩ := hnat _ hi
      obtain rfl : i = j := by omega
      exact ⟨h1, h2⟩
    have hmem : ∀ i : Nat, (i : Int) ∈ L ↔ i < l.length ∧ useB n (bW l) f i = true := by
      intro i
      constructor
      · intro hi
        obtain ⟨h1, h2⟩ := hlt i hi
        have hb := (bW_eq hx i h1).2.2.1
        obtain ⟨g1, g2⟩ := hf (bW l i) (by omega) hb
        exact ⟨h1, useB_iff.2 ⟨by omega, hb, hone _ _ g1 hi g2⟩⟩
      · rintro ⟨h1, h2⟩
        obtain ⟨u1, u2, u3⟩ := useB_iff.1 h2
        have := (hf (bW l i) u1 u2).1
        rwa [u3] at this
    refine ⟨f, ⟨fun c c0 c1 => ⟨(hlt _ (hf c c0 c1).1).1, (hf c c0 c1).2⟩, fun c hc => (hF.all c hc).mono fun i hi => ?_⟩, ?_⟩
    · obtain ⟨h1, h2⟩ := (hmem i).1 hi
      obtain ⟨u1, u2, u3⟩ := useB_iff.1 h2
      exact ⟨bW l i, u1, u2, u3.symm⟩
    · refine asc_ext L _ ((asc_pair L).1 hF.pre.asc) (selL_asc _ _) fun x => ?_
      constructor
      · intro hxL
        obtain ⟨i, rfl, _⟩ := hnat x hxL
        exact (selL_mem _ _ _).2 ((hmem i).1 hxL)
      · intro hxS
        obtain ⟨i, rfl, h1, h2⟩ := selL_nat _ _ x hxS
        exact (hmem i).2 ⟨h1, h2⟩
  · rintro ⟨f, hf, rfl⟩
    have hnat : ∀ j : Nat, j < (listB n l f).length → ∃ i : Nat, rd (listB n l f) (j : Int) = (i : Int) ∧ i < l.length ∧ useB n (bW l) f i = true := by
      intro j hj
      exact selL_nat _ _ _ ((mem_rd _ _).2 ⟨j, hj, rfl⟩)
    have hasc := (asc_pair (listB n l f)).2 (selL_asc _ _)
    refine ⟨hf.selLen hn1, ⟨fun j hj => ?_, hasc, fun i j hij hj => ?_, fun j hj => ?_⟩, fun c hc => (hf.all c hc).mono ?_⟩
    · obtain ⟨i, e, h1, _⟩ := hnat j hj
      rw [e]; omega
    · obtain ⟨x, e1, _, u1⟩ := hnat i (by omega)
      obtain ⟨y, e2, _, u2⟩ := hnat j hj
      have hp := List.pairwise_iff_getElem.1 (selL_asc (useB n (bW l) f) l.length) i j (by exact (by omega : i < (listB n l f).length)) hj hij
      have hlt : rd (listB n l f) (i : Int) < rd (listB n l f) (j : Int) := by
        rw [rd_get _ i (by omega), rd_get _ j hj]; exact hp
      rw [e1, e2] at hlt ⊢
      rw [Int.toNat_natCast, Int.toNat_natCast]
      intro hb
      have h1 := (useB_iff.1 u1).2.2
      have h2 := (useB_iff.1 u2).2.2
      rw [hb, h2] at h1
      omega
    · obtain ⟨i, e, _, u⟩ := hnat j hj
      rw [e, Int.toNat_natCast]
      have := (useB_iff.1 u).1
      omega
    · rintro i ⟨c, c0, c1, rfl⟩
      obtain ⟨t, tb⟩ := hf.on c c0 c1
      exact (selL_mem _ _ _).2 ⟨t, useB_iff.2 ⟨by omega, by omega, by rw [tb]⟩⟩
theorem costN_app (l : List S30) (L M : List Int) : ∀ q, q ≤ L.length → costN l (L ++ M) q = costN l L q
  | 0, _ => rfl
  | q + 1, h => by
    simp only [costN]
    rw [costN_app l L M q (by omega)]
    have : rd (L ++ M) (q : Int) = rd L (q : Int) := by
      simp only [rd, Int.toNat_natCast, List.getD]
      rw [List.getElem?_append_left (by omega)]
    rw [this]
theorem costN_sel (l : List S30) (X : Nat → Bool) : ∀ m, costN l (selL X m) (selL X m).length = sumZ (fun j => if X j = true then costW l j else 0) m
  | 0 => rfl
  | m + 1 => by
    simp only [sumZ]
    rw [selL_succ, ← costN_sel l X m]
    split
    · rw [List.length_append, List.length_singleton]
      simp only [costN]
      rw [costN_app l _ _ _ (Nat.le_refl _)]
      have : rd (selL X m ++ [(m : Int)]) ((selL X m).length : Int) = (m : Int) := by
        simp [rd, List.getD]
      rw [this, Int.toNat_natCast]
    · omega
theorem costN_list (hf : BrB n l f) : costN l (listB n l f) (listB n l f).length = costF n (costW l) f := by
  unfold listB
  rw [costN_sel, sum_used (bW l) l.length hf.on]
theorem reach_code (hn1 : 1 ≤ n) (hn : n ≤ 7) {L : List Int} (hL : InL n l L) (hl : L.length ≤ 60) (k : Nat) (hk : 600 ≤ k) : branch_town_reach.f k (n : Int) l L = some ((itS l L n 1 : Nat) : Int) := by
  have h1 : (1 : Nat) < 2 ^ n := Nat.one_lt_two_pow (by omega)
  have hb : (L.length + 2) * n ≤ 62 * 7 := Nat.mul_le_mul (by omega) hn
  have := reach_l0 hn hL (by omega) n 0 (k - (L.length + 2) * n - 1) 1 (by omega) h1
  rw [show k - (L.length + 2) * n - 1 + (L.length + 2) * n + 1 = k from by omega] at this
  exact this
theorem reach_ref (hn1 : 1 ≤ n) (hn : n ≤ 7) {L : List Int} (hL : InL n l L) (hl : L.length ≤ 60) (k : Nat) (hk : 600 ≤ k) : trishawref03_reached.f k l L = some ((itS l L n 1 : Nat) : Int) := by
  have h1 : (1 : Nat) < 2 ^ n := Nat.one_lt_two_pow (by omega)
  have hb : (L.length + 2) * (n + 1) ≤ 62 * 8 := Nat.mul_le_mul (by omega) (by omega)
  have := reached_l0 hn hL (by omega) n (k - (L.length + 2) * (n + 1) - 1) 1 h1 (by omega)
  rw [show k - (L.length + 2) * (n + 1) - 1 + (L.length + 2) * (n + 1) + 1 = k from by omega] at this
  exact this
theorem all_reached (hn1 : 1 ≤ n) (hn : n ≤ 7) {L : List Int} (hL : InL n l L) : ((itS l L n 1 : Nat) : Int) = 2 ^ n - 1 ↔ ∀ c, c < n → Rc (aW l) (bW l) (fun i => (i : Int) ∈ L) 0 c := by
  have hlt : itS l L n 1 < 2 ^ n := it_lt hn hL n 1 (Nat.one_lt_two_pow (by omega))
  have hp : 1 ≤ 2 ^ n := Nat.one_le_two_pow
  have hiff : ∀ c, (itS l L n 1).testBit c = true ↔ Rc (aW l) (bW l) (fun i => (i : Int) ∈ L) 0 c := fun c => closure_iff (d := 0) hn hL (by omega)
  have h2 : ((2 : Int) ^ n) = ((2 ^ n : Nat) : Int) := by norm_cast
  rw [h2]
  constructor
  · intro e c hc
    have e2 : itS l L n 1 = 2 ^ n - 1 := by omega
    rw [← hiff, e2, Nat.testBit_two_pow_sub_one]
    exact decide_eq_true hc
  · intro h
    have : itS l L n 1 = 2 ^ n - 1 := by
      refine Nat.eq_of_testBit_eq fun c => ?_
      rw [Nat.testBit_two_pow_sub_one]
      by_cases hc : c < n
      · rw [(hiff c).2 (h c hc), decide_eq_true hc]
      · rw [decide_eq_false hc]
        exact Nat.testBit_lt_two_pow (Nat.lt_of_lt_of_le hlt (Nat.pow_le_pow_right (by decide) (by omega)))
    omega
theorem everybody_f (hn : n ≤ 7) (l : List S30) : branch_town_everybody.f (n : Int) l = some ((2 : Int) ^ n - 1) := by
  have e1 := fin_shl ⟨n, by omega⟩
  simp only [] at e1
  have hp : 2 ^ n ≤ 2 ^ 7 := Nat.pow_le_pow_right (by decide) hn
  have hp1 : 1 ≤ 2 ^ n := Nat.one_le_two_pow
  have h2 : ((2 : Int) ^ n) = ((2 ^ n : Nat) : Int) := by norm_cast
  unfold branch_town_everybody.f
  rw [e1, if_pos (by omega), h2]
  generalize 2 ^ n = p at hp hp1
  refine congrArg some ?_
  unfold wrap64; omega
theorem everyone_ref (hn : n ≤ 7) : wrap64 ((shl .i64 1 (n : Int)) - 1) = (2 : Int) ^ n - 1 := by
  have e1 := fin_shl ⟨n, by omega⟩
  simp only [] at e1
  have hp : 2 ^ n ≤ 2 ^ 7 := Nat.pow_le_pow_right (by decide) hn
  have hp1 : 1 ≤ 2 ^ n := Nat.one_le_two_pow
  have h2 : ((2 : Int) ^ n) = ((2 ^ n : Nat) : Int) := by norm_cast
  rw [e1, h2]
  generalize 2 ^ n = p at hp hp1
  unfold wrap64; omega
theorem preOk_in (hx : ∀ x ∈ l, wayOk n x = true) {L : List Int} (h : PreOk l L L.length) : InL n l L := by
  intro i hi
  obtain ⟨j, hj, rfl⟩ := (mem_rd L i).1 hi
  have := h.rng j hj
  refine ⟨this.1, this.2, ?_⟩
  have := hx _ (rd_T30_mem l (rd L (j : Int)).toNat (by omega))
  rwa [Int.toNat_of_nonneg (h.rng j hj).1] at this
theorem cost_ref (hx : ∀ x ∈ l, wayOk n x = true) {L : List Int} (hl : L.length ≤ 60) (hP : PreOk l L L.length) : ∀ (d q k : Nat), q + d = L.length → trishawref03_cost.l0 (k + d + 1) l L (costN l L q) (q : Int) = some (costN l L L.length)
  | 0, q, k, h => by
    obtain rfl : q = L.length := by omega
    rw [show k + 0 + 1 = k + 1 from rfl, trishawref03_cost.l0, if_neg (by omega)]
  | d + 1, q, k, h => by
    have hq : q < L.length := by omega
    have hw := wrap_nat q (by omega)
    have ih := cost_ref hx hl hP d (q + 1) k (by omega)
    have h1 := hP.rng q hq
    have hcb := costN_bound hx q (hP.le (by omega))
    have hwy := (wayOk_iff (n : Int) _).1 (hx _ (rd_T30_mem l (rd L (q : Int)).toNat (by omega)))
    rw [show k + (d + 1) + 1 = (k + d + 1) + 1 from by omega, trishawref03_cost.l0, if_pos (by omega), if_pos (by omega), if_pos (by omega), if_pos (by omega), hw]
    rw [show wrap64 (costN l L q + (rd_T30 l (rd L (q : Int))).f2) = costN l L (q + 1) from by
      simp only [costN, costW]
      rw [Int.toNat_of_nonneg h1.1] at hwy ⊢
      unfold wrap64; omega]
    exact ih
/-- Is, of both. -/
theorem is_spec (hr : readB (n : Int) l = 0) (L : List Int) : ∃ (c : Int) (b : Bool), (b = true → ∃ f, BrB n l f ∧ L = listB n l f ∧ c = costF n (costW l) f) ∧ (b = false → c = 0 ∧ ∀ f, BrB n l f → L ≠ listB n l f) ∧
    (∀ k, 2000 ≤ k → branch_Is.f k (n : Int) l L = some (c, b, 0)) ∧ (∀ k, 2000 ≤ k → trishawref03_Is.f k (n : Int) l L = some (c, b, 0)) ∧ ∀ k, 2000 ≤ k → trishawref03_IsBranching.f k (n : Int) l L = some b := by
  obtain ⟨h2, h7, h30, hx⟩ := readB_ok hr
  have hn1 : 1 ≤ n := by omega
  have hn : n ≤ 7 := by omega
  have hw : wrap64 ((n : Int) - 1) = (n : Int) - 1 := by unfold wrap64; omega
  have hcode : ∀ k, branch_Is.f k (n : Int) l L = (branch_town_is.f k (n : Int) l L).bind fun bt115 => some (bt115.1, bt115.2, 0) := by
    intro k
    unfold branch_Is.f branch_read.f
    rw [hr, Option.bind_some, if_pos rfl]
  have href : ∀ k, 2000 ≤ k → trishawref03_Is.f k (n : Int) l L = (trishawref03_IsBranching.f k (n : Int) l L).bind fun t162 => (if t162 = true then ((trishawref03_cost.f k l L).bind fun t163 => (some (t163, true, 0))) else (some (0, false, 0))) := by
    intro k hk
    unfold trishawref03_Is.f
    rw [town_eq _ _ k (.inr (by omega)), hr, Option.bind_some, if_pos rfl]
  have hno : ¬ Full n l L → ∀ f, BrB n l f → L ≠ listB n l f := fun h f hf e => h ((full_iff hn1 hn hx L).2 ⟨f, hf, e⟩)
  by_cases hlen : (L.length : Int) = (n : Int) - 1
  · have hP0 : PreOk l L 0 := ⟨fun j hj => absurd hj (by omega), fun j hj => absurd hj (by omega), fun i j hi hj => absurd hj (by omega), fun j hj => absurd hj (by omega)⟩
    have hc := fun k => is_code hn1 hn hx h30 (L := L) (by omega) L.length 0 k (by omega) hP0
    have hf := fun k => is_ref hn1 hn hx h30 (L := L) (by omega) L.length 0 k (by omega) hP0
    have e1 : ∀ k, branch_town_is.f k (n : Int) l L = branch_town_is.l0 k L 0 1 L (L.length : Int) 0 (n : Int) l := fun k => by
      unfold branch_town_is.f; rw [hw, if_pos hlen]
    have e2 : ∀ k, trishawref03_IsBranching.f k (n : Int) l L = trishawref03_IsBranching.l0 k (n : Int) l L 1 0 := fun k => by
      unfold trishawref03_IsBranching.f; rw [hw, if_pos hlen]
    by_cases hP : PreOk l L L.length
    · have hin := preOk_in hx hP
      have hrc := fun k hk => reach_code hn1 hn hin (by omega) k hk
      have hrr := fun k hk => reach_ref hn1 hn hin (by omega) k hk
      have hall := all_reached hn1 hn hin
      have c1 : ∀ k, 2000 ≤ k → branch_town_is.f k (n : Int) l L = if ((itS l L n 1 : Nat) : Int) = 2 ^ n - 1 then some (costN l L L.length, true) else some (0, false) := by
        intro k hk
        have := (hc (k - 2 * L.length - 1)).1 hP
        rw [show k - 2 * L.length - 1 + 2 * L.length + 1 = k from by omega, hrc _ (by omega), Option.bind_some, everybody_f hn, Option.bind_some] at this
        rw [e1]
        exact this
      have c2 : ∀ k, 2000 ≤ k → trishawref03_IsBranching.f k (n : Int) l L = some (((itS l L n 1 : Nat) : Int) == 2 ^ n - 1) := by
        intro k hk
        have := (hf (k - 2 * L.length - 1)).1 hP
        rw [show k - 2 * L.length - 1 + 2 * L.length + 1 = k from by omega, hrr _ (by omega), Option.bind_some, everyone_ref hn] at this
        rw [e2]
        exact this
      have c3 : ∀ k, 2000 ≤ k → trishawref03_cost.f k l L = some (costN l L L.length) := by
        intro k hk
        have := cost_ref hx (L := L) (by omega) hP L.length 0 (k - L.length - 1) (by omega)
        rw [show k - L.length - 1 + L.length + 1 = k from by omega] at this
        unfold trishawref03_cost.f
        exact this
      by_cases hA : ((itS l L n 1 : Nat) : Int) = 2 ^ n - 1
      · have hF : Full n l L := ⟨by omega, hP, hall.1 hA⟩
        obtain ⟨f, hfB, e⟩ := (full_iff hn1 hn hx L).1 hF
        refine ⟨costN l L L.length, true, fun _ => ⟨f, hfB, e, ?_⟩, fun h => absurd h (by decide), fun k hk => ?_, fun k hk => ?_, fun k hk => ?_⟩
        · rw [e]; exact costN_list hfB
        · rw [hcode, c1 k hk, if_pos hA]; rfl
        · rw [href k hk, c2 k hk, beq_iff_eq.mpr hA, Option.bind_some, if_pos rfl, c3 k hk]; rfl
        · rw [c2 k hk, beq_iff_eq.mpr hA]
      · have hA2 : (((itS l L n 1 : Nat) : Int) == 2 ^ n - 1) = false := beq_eq_false_iff_ne.mpr hA
        refine ⟨0, false, fun h => absurd h (by decide), fun _ => ⟨rfl, hno fun hF => hA (hall.2 hF.all)⟩, fun k hk => ?_, fun k hk => ?_, fun k hk => ?_⟩
        · rw [hcode, c1 k hk, if_neg hA]; rfl
        · rw [href k hk, c2 k hk, hA2]; rfl
        · rw [c2 k hk, hA2]
    · refine ⟨0, false, fun h => absurd h (by decide), fun _ => ⟨rfl, hno fun hF => hP hF.pre⟩, fun k hk => ?_, fun k hk => ?_, fun k hk => ?_⟩
      · have := (hc (k - 2 * L.length - 1)).2 hP
        rw [show k - 2 * L.length - 1 + 2 * L.length + 1 = k from by omega] at this
        rw [hcode, e1]
        exact congrArg (fun x : Option (Int × Bool) => x.bind fun bt115 => some (bt115.1, bt115.2, (0 : Int))) this
      · have := (hf (k - 2 * L.length - 1)).2 hP
        rw [show k - 2 * L.length - 1 + 2 * L.length + 1 = k from by omega] at this
        rw [href k hk, e2]
        exact congrArg (fun x : Option Bool => x.bind fun t162 => (if t162 = true then ((trishawref03_cost.f k l L).bind fun t163 => (some (t163, true, (0 : Int)))) else (some (0, false, 0)))) this
      · have := (hf (k - 2 * L.length - 1)).2 hP
        rw [show k - 2 * L.length - 1 + 2 * L.length + 1 = k from by omega] at this
        rw [e2]
        exact this
  · refine ⟨0, false, fun h => absurd h (by decide), fun _ => ⟨rfl, hno fun hF => hlen (by have := hF.len; omega)⟩, fun k hk => ?_, fun k hk => ?_, fun k hk => ?_⟩
    · rw [hcode]; unfold branch_town_is.f; rw [hw, if_neg hlen]; rfl
    · rw [href k hk]; unfold trishawref03_IsBranching.f; rw [hw, if_neg hlen]; rfl
    · unfold trishawref03_IsBranching.f; rw [hw, if_neg hlen]
end
end Go.Proofs.Ytpmadffgdfholaa.B
namespace Go.Proofs.Ytpmadffgdfholaa.B
set_option linter.unusedVariables false
open Go.RowKit Go.Proofs.YtpmadffgdfholaaW.PrintWords Go.Proofs.YtpmadffgdfholaaW.PrintLast Go.Proofs.YtpmadffgdfholaaW.PrintMore
section
variable {n : Nat} {l : List S30} {f : Nat → Nat}
theorem FirstB.congr {p q : Nat → Int} {v : Int} (h : FirstB n l p v f) (e : ∀ i, i < l.length → p i = q i) : FirstB n l q v f := by
  have hc : ∀ g, BrB n l g → costF n p g = costF n q g := fun g hg => costF_congr fun c c0 c1 => e _ (hg.on c c0 c1).1
  exact ⟨h.is, (hc f h.is) ▸ h.cost, fun g hg => (hc g hg) ▸ h.least g hg, fun g hg hv => h.ahead g hg ((hc g hg).trans hv)⟩
end
end Go.Proofs.Ytpmadffgdfholaa.B
namespace Go.Proofs.Ytpmadffgdfholaa.B
set_option linter.unusedVariables false
open Go.RowKit Go.Proofs.YtpmadffgdfholaaW.PrintWords Go.Proofs.YtpmadffgdfholaaW.PrintLast Go.Proofs.YtpmadffgdfholaaW.PrintMore
/-- How many of a list are not gone. -/
def keptL (g : Int → Bool) (E : List Int) : Nat := (E.filter fun i => !g i).length
/-- How many streets, not gone, enter the set s. -/
def entN (l : List S30) (g : Int → Bool) (s : Nat) : Nat := keptL g (entL l s)
theorem keptL_le (g : Int → Bool) (E : List Int) : keptL g E ≤ E.length := List.length_filter_le _ _
section
variable {n : Nat} {l : List S30}
def nrEnd (n : Int) (l : List S30) (k : Nat) (o : Int → Option Bool) (x6 x7 x8 m : Int) : Option (Int × Int) :=
  if x6 < 0 then branch_town_narrow.l0 k o m x8 (wrap64 (x8 + 2)) n l else if m < x6 then branch_town_narrow.l0 k o m x8 (wrap64 (x8 + 2)) n l else branch_town_narrow.l0 k o x6 x7 (wrap64 (x8 + 2)) n l
theorem nr_l1 (o : Int → Option Bool) (g : Int → Bool) (x6 x7 x8 : Int) (E : List Int) (ho : ∀ x ∈ E, o x = some (g x)) (hE : E.length < 1000) : ∀ (d q k acc : Nat), q + d = E.length → acc ≤ q →
    branch_town_narrow.l1 (k + d + 1) o x6 x7 x8 (acc : Int) E (E.length : Int) (q : Int) (n : Int) l = nrEnd (n : Int) l k o x6 x7 x8 ((acc + keptL g (E.drop q) : Nat) : Int)
  | 0, q, k, acc, h, _ => by
    rw [show k + 0 + 1 = k + 1 from rfl, branch_town_narrow.l1, if_neg (by omega), List.drop_eq_nil_of_le (by omega)]
    rfl
  | d + 1, q, k, acc, h, ha => by
    have hq : q < E.length := by omega
    have hw := wrap_nat q (by omega)
    have hw2 := wrap_nat acc (by omega)
    have hox := ho _ (rd_mem4 E q hq)
    rw [show k + (d + 1) + 1 = (k + d + 1) + 1 from by omega, branch_town_narrow.l1, if_pos (by omega), if_pos (by omega), if_pos (by omega), hox, Option.bind_some, drop_rdI4 E q hq, hw, hw2]
    unfold keptL
    by_cases hg : g (rd E (q : Int)) = true
    · rw [if_pos hg, List.filter_cons_of_neg (by rw [hg]; decide)]
      exact nr_l1 o g x6 x7 x8 E ho hE d (q + 1) k acc (by omega) (by omega)
    · rw [if_neg hg, List.filter_cons_of_pos (by rw [Bool.not_eq_true] at hg; rw [hg]; rfl), List.length_cons]
      have := nr_l1 o g x6 x7 x8 E ho hE d (q + 1) k (acc + 1) (by omega) (by omega)
      rw [this]
      unfold keptL
      rw [show acc + 1 + ((E.drop (q + 1)).filter fun i => !g i).length = acc + (((E.drop (q + 1)).filter fun i => !g i).length + 1) by omega]
/-- The least of the sets 2, 4, .., 2 j. -/
structure LeastS (l : List S30) (g : Int → Bool) (j : Nat) (x6 x7 : Int) : Prop where
  pos : 1 ≤ j
  set : ∃ t, 1 ≤ t ∧ t ≤ j ∧ x7 = ((2 * t : Nat) : Int) ∧ x6 = ((entN l g (2 * t) : Nat) : Int) ∧ ∀ u, 1 ≤ u → u < t → entN l g (2 * t) < entN l g (2 * u)
  low : ∀ u, 1 ≤ u → u ≤ j → x6 ≤ ((entN l g (2 * u) : Nat) : Int)
theorem nr_l0 (hn1 : 2 ≤ n) (hn : n ≤ 7) (hl : l.length ≤ 30) (hx : ∀ x ∈ l, wayOk n x = true) (o : Int → Option Bool) (g : Int → Bool) (ho : ∀ i : Nat, i < l.length → o (i : Int) = some (g (i : Int))) (p : Nat) (hp : 2 ^ n = 2 * p) : ∀ (d j : Nat) (x6 x7 : Int), j + d = p - 1 → (j = 0 ∧ x6 = -1 ∧ x7 = 0 ∨ LeastS l g j x6 x7) →
    ∃ y6 y7, LeastS l g (p - 1) y6 y7 ∧ ∀ k, 100 + 40 * d ≤ k → branch_town_narrow.l0 k o x6 x7 ((2 * (j + 1) : Nat) : Int) (n : Int) l = some (y6, y7)
  | 0, j, x6, x7, h, hI => by
    have hp2 : 2 ≤ p := by
      have : 2 ^ 2 ≤ 2 ^ n := Nat.pow_le_pow_right (by decide) hn1
      omega
    have hp7 : 2 ^ n ≤ 2 ^ 7 := Nat.pow_le_pow_right (by decide) hn
    have hL : LeastS l g j x6 x7 := by
      rcases hI with ⟨h0, _⟩ | h
      · omega
      · exact h
    refine ⟨x6, x7, by rw [show p - 1 = j by omega]; exact hL, fun k hk => ?_⟩
    obtain ⟨k, rfl⟩ : ∃ k', k = k' + 1 := ⟨k - 1, by omega⟩
    have hz : ((2 : Int) ^ n) = ((2 ^ n : Nat) : Int) := by norm_cast
    rw [branch_town_narrow.l0, everybody_f hn, Option.bind_some, if_neg (by rw [hz]; omega)]
  | d + 1, j, x6, x7, h, hI => by
    have hp7 : 2 ^ n ≤ 2 ^ 7 := Nat.pow_le_pow_right (by decide) hn
    have hz : ((2 : Int) ^ n) = ((2 ^ n : Nat) : Int) := by norm_cast
    have hs7 : 2 * (j + 1) < 128 := by omega
    have hE := fun k (hk : 40 ≤ k) => entering_f (n := n) hn hl hx hs7 k hk
    have hEl := entL_length l (2 * (j + 1))
    have hEn := entL_nat l (2 * (j + 1))
    have hw : wrap64 (((2 * (j + 1) : Nat) : Int) + 2) = ((2 * (j + 1 + 1) : Nat) : Int) := by unfold wrap64; omega
    have hstep : ∀ k, 100 ≤ k → branch_town_narrow.l0 k o x6 x7 ((2 * (j + 1) : Nat) : Int) (n : Int) l = nrEnd (n : Int) l (k - (entL l (2 * (j + 1))).length - 2) o x6 x7 ((2 * (j + 1) : Nat) : Int) ((entN l g (2 * (j + 1)) : Nat) : Int) := by
      intro k hk
      obtain ⟨k, rfl⟩ : ∃ k', k = k' + 1 := ⟨k - 1, by omega⟩
      have h1 := nr_l1 (n := n) (l := l) o g x6 x7 ((2 * (j + 1) : Nat) : Int) (entL l (2 * (j + 1))) (fun x hxE => by obtain ⟨i, rfl, hi⟩ := hEn x hxE; exact ho i hi) (by omega) (entL l (2 * (j + 1))).length 0 (k - (entL l (2 * (j + 1))).length - 1) 0 (by omega) (by omega)
      rw [show k - (entL l (2 * (j + 1))).length - 1 + (entL l (2 * (j + 1))).length + 1 = k from by omega, List.drop_zero, Nat.zero_add] at h1
      rw [branch_town_narrow.l0, everybody_f hn, Option.bind_some, if_pos (by rw [hz]; omega), hE k (by omega), Option.bind_some]
      rw [show k + 1 - (entL l (2 * (j + 1))).length - 2 = k - (entL l (2 * (j + 1))).length - 1 from by omega]
      exact h1
    by_cases hless : x6 < 0 ∨ ((entN l g (2 * (j + 1)) : Nat) : Int) < x6
    · have hL : LeastS l g (j + 1) ((entN l g (2 * (j + 1)) : Nat) : Int) ((2 * (j + 1) : Nat) : Int) := by
        rcases hI with ⟨h0, h6, _⟩ | hI
        · subst h0
          refine ⟨by omega, ⟨1, by omega, by omega, rfl, rfl, fun u h1 h2 => by omega⟩, fun u h1 h2 => ?_⟩
          obtain rfl : u = 1 := by omega
          exact Int.le_refl _
        · obtain ⟨t, t1, t2, t3, t4, t5⟩ := hI.set
          refine ⟨by omega, ⟨j + 1, by omega, by omega, rfl, rfl, fun u h1 h2 => ?_⟩, fun u h1 h2 => ?_⟩
          · have := hI.low u h1 (by omega); omega
          · by_cases e : u = j + 1
            · subst e; exact Int.le_refl _
            · have := hI.low u h1 (by omega); omega
      obtain ⟨y6, y7, hy, hk⟩ := nr_l0 hn1 hn hl hx o g ho p hp d (j + 1) _ _ (by omega) (.inr hL)
      refine ⟨y6, y7, hy, fun k hk2 => ?_⟩
      rw [hstep k (by omega)]
      unfold nrEnd
      rw [hw]
      by_cases h0 : x6 < 0
      · rw [if_pos h0]; exact hk _ (by omega)
      · rw [if_neg h0, if_pos (by omega)]; exact hk _ (by omega)
    · have hI : LeastS l g j x6 x7 := by
        rcases hI with ⟨_, h6, _⟩ | hI
        · omega
        · exact hI
      have hL : LeastS l g (j + 1) x6 x7 := by
        obtain ⟨t, t1, t2, t3, t4, t5⟩ := hI.set
        refine ⟨by omega, ⟨t, t1, by omega, t3, t4, t5⟩, fun u h1 h2 => ?_⟩
        by_cases e : u = j + 1
        · subst e; omega
        · exact hI.low u h1 (by omega)
      obtain ⟨y6, y7, hy, hk⟩ := nr_l0 hn1 hn hl hx o g ho p hp d (j + 1) _ _ (by omega) (.inr hL)
      refine ⟨y6, y7, hy, fun k hk2 => ?_⟩
      rw [hstep k (by omega)]
      unfold nrEnd
      rw [hw, if_neg (by omega), if_neg (by omega)]
      exact hk _ (by omega)
/-- The least number of streets that enter a set. -/
structure NarrowS (n : Nat) (l : List S30) (g : Int → Bool) (least at_ : Nat) : Prop where
  set : IsSetN n (at_ : Int)
  val : entN l g at_ = least
  low : ∀ s : Nat, IsSetN n (s : Int) → least ≤ entN l g s
  first : ∀ s : Nat, IsSetN n (s : Int) → entN l g s = least → at_ ≤ s
theorem narrow_spec (hn1 : 2 ≤ n) (hn : n ≤ 7) (hl : l.length ≤ 30) (hx : ∀ x ∈ l, wayOk n x = true) (o : Int → Option Bool) (g : Int → Bool) (ho : ∀ i : Nat, i < l.length → o (i : Int) = some (g (i : Int))) :
    ∃ least at_ : Nat, NarrowS n l g least at_ ∧ ∀ k, 3000 ≤ k → branch_town_narrow.f k (n : Int) l o = some ((least : Int), (at_ : Int)) := by
  obtain ⟨p, hp⟩ : ∃ p, 2 ^ n = 2 * p := ⟨2 ^ (n - 1), by rw [← Nat.pow_succ']; congr 1; omega⟩
  have hp2 : 2 ≤ p := by
    have : 2 ^ 2 ≤ 2 ^ n := Nat.pow_le_pow_right (by decide) hn1
    omega
  have hp7 : 2 ^ n ≤ 2 ^ 7 := Nat.pow_le_pow_right (by decide) hn
  have hz : ((2 : Int) ^ n) = ((2 ^ n : Nat) : Int) := by norm_cast
  obtain ⟨y6, y7, hL, hk⟩ := nr_l0 hn1 hn hl hx o g ho p hp (p - 1) 0 (-1) 0 (by omega) (.inl ⟨rfl, rfl, rfl⟩)
  obtain ⟨t, t1, t2, rfl, rfl, t5⟩ := hL.set
  have hset : ∀ s : Nat, IsSetN n (s : Int) ↔ ∃ u, 1 ≤ u ∧ u ≤ p - 1 ∧ s = 2 * u := by
    intro s
    unfold IsSetN
    rw [hz, Int.toNat_natCast]
    constructor
    · rintro ⟨h0, h1, h2⟩
      refine ⟨s / 2, ?_⟩
      rw [Nat.testBit_zero] at h2
      have := of_decide_eq_false h2
      omega
    · rintro ⟨u, u1, u2, rfl⟩
      refine ⟨by omega, by omega, ?_⟩
      rw [Nat.testBit_zero]
      exact decide_eq_false (by omega)
  refine ⟨entN l g (2 * t), 2 * t, ⟨(hset _).2 ⟨t, t1, t2, rfl⟩, rfl, fun s hs => ?_, fun s hs he => ?_⟩, fun k hk2 => ?_⟩
  · obtain ⟨u, u1, u2, rfl⟩ := (hset s).1 hs
    have := hL.low u u1 u2; omega
  · obtain ⟨u, u1, u2, rfl⟩ := (hset s).1 hs
    have := t5 u u1
    omega
  · unfold branch_town_narrow.f
    exact hk k (by omega)
end
end Go.Proofs.Ytpmadffgdfholaa.B
namespace Go.Proofs.Ytpmadffgdfholaa.B
set_option linter.unusedSimpArgs false
set_option linter.unusedVariables false
open Go.RowKit Go.Proofs.YtpmadffgdfholaaW.PrintWords Go.Proofs.YtpmadffgdfholaaW.PrintLast Go.Proofs.YtpmadffgdfholaaW.PrintMore
def IsSetM (n s : Nat) : Prop := 0 < s ∧ s < 2 ^ n ∧ s.testBit 0 = false
theorem setM_iff (n s : Nat) : IsSetN n (s : Int) ↔ IsSetM n s := by
  have hz : ((2 : Int) ^ n) = ((2 ^ n : Nat) : Int) := by norm_cast
  unfold IsSetN IsSetM
  rw [hz, Int.toNat_natCast]
  refine and_congr ?_ (and_congr ?_ Iff.rfl) <;> omega
/-- How many streets, not gone, enter the set s, counted street by street. -/
def entC (l : List S30) (g : Int → Bool) (s : Nat) : Nat := cntN (fun i => entB l s i && !g (i : Int)) l.length
theorem cntN_filter (P Q : Nat → Bool) : ∀ m, ((((List.range m).filter P).map fun i : Nat => (i : Int)).filter fun x => Q x.toNat).length = cntN (fun i => P i && Q i) m
  | 0 => rfl
  | m + 1 => by
    rw [List.range_succ, List.filter_append, List.map_append, List.filter_append, List.length_append, cntN_filter P Q m, cntN]
    congr 1
    by_cases hP : P m = true
    · rw [List.filter_cons_of_pos hP]
      by_cases hQ : Q m = true
      · simp [hP, hQ]
      · simp [hP, hQ]
    · rw [List.filter_cons_of_neg hP]
      simp [hP]
theorem entN_entC (l : List S30) (g : Int → Bool) (s : Nat) : entN l g s = entC l g s := by
  unfold entN keptL entC entL
  have := cntN_filter (entB l s) (fun i => !g (i : Int)) l.length
  rw [← this]
  congr 1
  refine List.filter_congr fun x hx => ?_
  obtain ⟨i, _, rfl⟩ := List.mem_map.1 hx
  rw [Int.toNat_natCast]
theorem cntN_sub {P Q U V : Nat → Bool} : ∀ m, (∀ i, i < m → (if P i = true then 1 else 0) + (if Q i = true then 1 else 0) ≤ (if U i = true then 1 else 0) + (if V i = true then (1 : Nat) else 0)) → cntN P m + cntN Q m ≤ cntN U m + cntN V m
  | 0, _ => Nat.le_refl _
  | m + 1, h => by
    have ih := cntN_sub m fun i hi => h i (by omega)
    have := h m (by omega)
    simp only [cntN]
    omega
theorem cntN_pos {P : Nat → Bool} : ∀ m, 0 < cntN P m → ∃ i, i < m ∧ P i = true
  | 0, h => absurd h (Nat.lt_irrefl 0)
  | m + 1, h => by
    by_cases hP : P m = true
    · exact ⟨m, by omega, hP⟩
    · simp only [cntN, if_neg hP, Nat.add_zero] at h
      obtain ⟨i, hi, hp⟩ := cntN_pos m h
      exact ⟨i, by omega, hp⟩
theorem cntN_gone {P Q : Nat → Bool} {i : Nat} (hQ : ∀ j, j ≠ i → Q j = P j) (hi : Q i = false) : ∀ m, i < m → cntN Q m + (if P i = true then 1 else 0) = cntN P m
  | 0, h => absurd h (by omega)
  | m + 1, h => by
    simp only [cntN]
    by_cases e : i = m
    · subst e
      have : ∀ k, k ≤ i → cntN Q k = cntN P k := by
        intro k
        induction k with
        | zero => exact fun _ => rfl
        | succ k ih => intro hk; simp only [cntN]; rw [ih (by omega), hQ k (by omega)]
      rw [this i (Nat.le_refl _), hi]
      simp
    · have ih := cntN_gone hQ hi m (by omega)
      rw [hQ m (fun h => e h.symm)]
      omega
section
variable {n : Nat} {l : List S30}
theorem entC_sub (g : Int → Bool) (S T : Nat) : entC l g (S &&& T) + entC l g (S ||| T) ≤ entC l g S + entC l g T := by
  refine cntN_sub _ fun i _ => ?_
  unfold entB
  rw [Nat.testBit_and, Nat.testBit_and, Nat.testBit_or, Nat.testBit_or]
  cases S.testBit (aW l i) <;> cases S.testBit (bW l i) <;> cases T.testBit (aW l i) <;> cases T.testBit (bW l i) <;> cases g (i : Int) <;> decide
theorem entC_gone (g : Int → Bool) (S i : Nat) (hi : i < l.length) (hg : g (i : Int) = false) : entC l (fun j => decide (j = (i : Int)) || g j) S + (if entB l S i = true then 1 else 0) = entC l g S := by
  have := cntN_gone (P := fun j => entB l S j && !g (j : Int)) (Q := fun j => entB l S j && !(decide ((j : Int) = (i : Int)) || g (j : Int))) (i := i) (fun j hj => by rw [decide_eq_false (by omega), Bool.false_or]) (by simp) l.length hi
  rw [hg] at this
  simp only [Bool.not_false, Bool.and_true] at this
  exact this
theorem bit_lt {s c : Nat} (hs : s < 2 ^ n) (hc : s.testBit c = true) : c < n := by
  refine Classical.byContradiction fun h => ?_
  rw [Nat.testBit_lt_two_pow (Nat.lt_of_lt_of_le hs (Nat.pow_le_pow_right (by decide) (by omega)))] at hc
  exact absurd hc (by decide)
theorem setM_of {s c : Nat} (hs : s < 2 ^ n) (hc : s.testBit c = true) (h0 : s.testBit 0 = false) : IsSetM n s := by
  refine ⟨Nat.pos_of_ne_zero fun e => ?_, hs, h0⟩
  rw [e, Nat.zero_testBit] at hc
  exact absurd hc (by decide)
theorem lovasz (hx : ∀ x ∈ l, wayOk n x = true) (gone : Int → Bool) (k R : Nat) (hR : R < 2 ^ n) (hR0 : R.testBit 0 = true) {c0 : Nat} (hc0 : c0 < n) (hout : R.testBit c0 = false)
    (h1 : ∀ S, IsSetM n S → k ≤ entC l gone S) (h2 : ∀ S, IsSetM n S → (∀ c, S.testBit c = true → R.testBit c = false) → k + 1 ≤ entC l gone S) :
    ∃ i, i < l.length ∧ gone (i : Int) = false ∧ R.testBit (aW l i) = true ∧ R.testBit (bW l i) = false ∧ ∀ S, IsSetM n S → k ≤ entC l (fun j => decide (j = (i : Int)) || gone j) S := by
  obtain ⟨C, hC⟩ : ∃ C, C = 2 ^ n - (R + 1) := ⟨_, rfl⟩
  have hCb : ∀ c, C.testBit c = (decide (c < n) && !R.testBit c) := fun c => by rw [hC]; exact Nat.testBit_two_pow_sub_succ hR c
  have hClt : C < 2 ^ n := by rw [hC]; have : 0 < 2 ^ n := Nat.pow_pos (by decide); omega
  by_cases hcrit : ∃ S, IsSetM n S ∧ entC l gone S = k ∧ ∃ c, S.testBit c = true ∧ R.testBit c = false
  · obtain ⟨S, ⟨hS, hSk, c, hcS, hcR⟩, hmin⟩ := least_nat hcrit
    have hD : (S &&& C).testBit c = true := by rw [Nat.testBit_and, hcS, hCb, decide_eq_true (bit_lt hS.2.1 hcS), hcR]; rfl
    have hDs : IsSetM n (S &&& C) := setM_of (Nat.lt_of_le_of_lt Nat.and_le_left hS.2.1) hD (by rw [Nat.testBit_and, hS.2.2, Bool.false_and])
    have hDk := h2 (S &&& C) hDs fun d hd => by
      rw [Nat.testBit_and, Bool.and_eq_true, hCb, Bool.and_eq_true] at hd
      simpa using hd.2.2
    obtain ⟨i, hi, hent, hno⟩ : ∃ i, i < l.length ∧ (entB l (S &&& C) i && !gone (i : Int)) = true ∧ (entB l S i && !gone (i : Int)) = false := by
      refine Classical.byContradiction fun hh => ?_
      have : entC l gone (S &&& C) ≤ entC l gone S := cntN_le _ fun i hi h => by
        cases hb : (entB l S i && !gone (i : Int)) with
        | true => rfl
        | false => exact absurd ⟨i, hi, h, hb⟩ hh
      omega
    rw [Bool.and_eq_true] at hent
    obtain ⟨he, hg⟩ := hent
    have hg' : gone (i : Int) = false := by simpa using hg
    rw [hg, Bool.and_true] at hno
    unfold entB at he hno
    rw [Bool.and_eq_true, Nat.testBit_and, Nat.testBit_and] at he
    obtain ⟨ha, hb⟩ := he
    rw [Bool.and_eq_true] at hb
    rw [hb.1, Bool.and_true] at hno
    have haS : S.testBit (aW l i) = true := by simpa using hno
    have haC : C.testBit (aW l i) = false := by rw [haS, Bool.true_and] at ha; simpa using ha
    have hend := bW_eq hx i hi
    have haR : R.testBit (aW l i) = true := by
      rw [hCb, decide_eq_true hend.2.2.2, Bool.true_and] at haC
      simpa using haC
    have hbR : R.testBit (bW l i) = false := by
      have := hb.2
      rw [hCb, Bool.and_eq_true] at this
      simpa using this.2
    refine ⟨i, hi, hg', haR, hbR, fun T hT => ?_⟩
    have hrm := entC_gone gone T i hi hg'
    have hTk := h1 T hT
    by_cases hTi : entB l T i = true
    · rw [if_pos hTi] at hrm
      refine Classical.byContradiction fun hlt => ?_
      have hTe : entC l gone T = k := by omega
      unfold entB at hTi
      rw [Bool.and_eq_true] at hTi
      have haT : T.testBit (aW l i) = false := by simpa using hTi.1
      have hI : IsSetM n (S &&& T) := setM_of (c := bW l i) (Nat.lt_of_le_of_lt Nat.and_le_left hS.2.1) (by rw [Nat.testBit_and, hb.1, hTi.2]; rfl) (by rw [Nat.testBit_and, hS.2.2, Bool.false_and])
      have hU : IsSetM n (S ||| T) := setM_of (c := bW l i) (Nat.or_lt_two_pow hS.2.1 hT.2.1) (by rw [Nat.testBit_or, hb.1]; rfl) (by rw [Nat.testBit_or, hS.2.2, hT.2.2]; rfl)
      have hsub := entC_sub (l := l) gone S T
      have g1 := h1 _ hI
      have g2 := h1 _ hU
      have hlt2 : (S &&& T) < S := by
        refine Nat.lt_of_le_of_ne Nat.and_le_left fun e => ?_
        have : (S &&& T).testBit (aW l i) = S.testBit (aW l i) := by rw [e]
        rw [Nat.testBit_and, haS, haT] at this
        exact absurd this (by decide)
      exact hmin _ hlt2 ⟨hI, by omega, bW l i, by rw [Nat.testBit_and, hb.1, hTi.2]; rfl, hbR⟩
    · rw [if_neg hTi] at hrm
      omega
  · have hCs : IsSetM n C := setM_of (c := c0) hClt (by rw [hCb, decide_eq_true hc0, hout]; rfl) (by rw [hCb, hR0]; simp)
    have hCk := h2 C hCs fun d hd => by
      rw [hCb, Bool.and_eq_true] at hd
      simpa using hd.2
    obtain ⟨i, hi, hent⟩ := cntN_pos l.length (show 0 < entC l gone C by omega)
    rw [Bool.and_eq_true] at hent
    obtain ⟨he, hg⟩ := hent
    have hg' : gone (i : Int) = false := by simpa using hg
    unfold entB at he
    rw [Bool.and_eq_true] at he
    obtain ⟨ha, hb⟩ := he
    have hend := bW_eq hx i hi
    have haR : R.testBit (aW l i) = true := by
      have : C.testBit (aW l i) = false := by simpa using ha
      rw [hCb, decide_eq_true hend.2.2.2, Bool.true_and] at this
      simpa using this
    have hbR : R.testBit (bW l i) = false := by
      rw [hCb, Bool.and_eq_true] at hb
      simpa using hb.2
    refine ⟨i, hi, hg', haR, hbR, fun T hT => ?_⟩
    have hrm := entC_gone gone T i hi hg'
    have hTk := h1 T hT
    by_cases hTi : entB l T i = true
    · rw [if_pos hTi] at hrm
      refine Classical.byContradiction fun hlt => hcrit ⟨T, hT, by omega, bW l i, ?_, hbR⟩
      unfold entB at hTi
      rw [Bool.and_eq_true] at hTi
      exact hTi.2
    · rw [if_neg hTi] at hrm
      omega
end
end Go.Proofs.Ytpmadffgdfholaa.B
namespace Go.Proofs.Ytpmadffgdfholaa.B
set_option linter.unusedVariables false
set_option linter.unusedSimpArgs false
open Go.RowKit Go.Proofs.YtpmadffgdfholaaW.PrintWords Go.Proofs.YtpmadffgdfholaaW.PrintLast Go.Proofs.YtpmadffgdfholaaW.PrintMore
section
variable {n : Nat} {l : List S30}
/-- May street j be taken? -/
structure GoodW (n : Nat) (l : List S30) (gone : Int → Bool) (c R j : Nat) : Prop where
  left : gone (j : Int) = false
  frm : R.testBit (aW l j) = true
  unto : R.testBit (bW l j) = false
  low : ∀ S, IsSetM n S → c ≤ entC l (fun i => decide (i = (j : Int)) || gone i) S
theorem way_at (hx : ∀ x ∈ l, wayOk n x = true) {i : Nat} (hi : i < l.length) : 0 ≤ (rd_T30 l (i : Int)).f0 ∧ (rd_T30 l (i : Int)).f0 < (n : Int) ∧ 0 ≤ (rd_T30 l (i : Int)).f1 ∧ (rd_T30 l (i : Int)).f1 < (n : Int) ∧ (aW l i : Int) = (rd_T30 l (i : Int)).f0 ∧ (bW l i : Int) = (rd_T30 l (i : Int)).f1 := by
  have h := (wayOk_iff (n : Int) _).1 (hx _ (rd_T30_mem l i hi))
  unfold aW bW
  refine ⟨h.1, h.2.1, h.2.2.1, h.2.2.2.1, ?_, ?_⟩ <;> omega
theorem skip_eq (hn : n ≤ 7) (hx : ∀ x ∈ l, wayOk n x = true) {R i : Nat} (hR : R < 2 ^ n) (hi : i < l.length) (b : Bool) : skipW (R : Int) (rd_T30 l (i : Int)) b = some (b || !R.testBit (aW l i) || R.testBit (bW l i)) := by
  obtain ⟨h1, h2, h3, h4, ea, eb⟩ := way_at hx hi
  have hR7 : R < 128 := Nat.lt_of_lt_of_le hR (by have : 2 ^ n ≤ 2 ^ 7 := Nat.pow_le_pow_right (by decide) hn; omega)
  unfold skipW
  cases b with
  | true => simp
  | false =>
    rw [if_neg (by decide), if_pos h1, ← ea]
    have f0 := fin_and0 ⟨R, hR7⟩ ⟨aW l i, by omega⟩
    simp only [] at f0
    cases ha : R.testBit (aW l i) with
    | false => rw [if_pos (f0.2 ha)]; simp
    | true =>
      rw [if_neg (fun e => by rw [f0.1 e] at ha; exact absurd ha (by decide)), if_pos h3, ← eb]
      have f1 := fin_and ⟨R, hR7⟩ ⟨bW l i, by omega⟩
      simp only [] at f1
      congr 1
      cases hb : R.testBit (bW l i) with
      | true => simpa using f1.2 hb
      | false => rw [Bool.or_false, beq_eq_false_iff_ne.mpr (fun e => by rw [f1.1 e] at hb; exact absurd hb (by decide))]; rfl
theorem treeIn_spec (hn1 : 2 ≤ n) (hn : n ≤ 7) (hl : l.length ≤ 30) (hx : ∀ x ∈ l, wayOk n x = true) (gone : Int → Bool) (c R : Nat) (hR : R < 2 ^ n) : ∀ d i, i + d = l.length → (∃ j, i ≤ j ∧ j < l.length ∧ GoodW n l gone c R j) →
    ∃ j, j < l.length ∧ GoodW n l gone c R j ∧ ∀ k, 3000 ≤ k → treeIn k (n : Int) l (c : Int) (R : Int) gone d i = some (some j)
  | 0, i, h, ⟨j, h1, h2, _⟩ => absurd h2 (by omega)
  | d + 1, i, h, hex => by
    have hi : i < l.length := by omega
    have hstep : ∀ k, treeIn k (n : Int) l (c : Int) (R : Int) gone (d + 1) i = if (gone (i : Int) || !R.testBit (aW l i) || R.testBit (bW l i)) = true then treeIn k (n : Int) l (c : Int) (R : Int) gone d (i + 1) else
      (branch_town_narrow.f k (n : Int) l (fun j => some (decide (j = (i : Int)) || gone j))).bind fun lt => if lt.1 ≥ (c : Int) then some (some i) else treeIn k (n : Int) l (c : Int) (R : Int) gone d (i + 1) := fun k => by
      rw [treeIn, skip_eq hn hx hR hi, Option.bind_some]
    have hnext : ¬ GoodW n l gone c R i → ∃ j, i + 1 ≤ j ∧ j < l.length ∧ GoodW n l gone c R j := fun hng => by
      obtain ⟨j, h1, h2, h3⟩ := hex
      rcases Nat.lt_or_ge i j with hlt | hge
      · exact ⟨j, hlt, h2, h3⟩
      · obtain rfl : j = i := by omega
        exact absurd h3 hng
    by_cases hs : (gone (i : Int) || !R.testBit (aW l i) || R.testBit (bW l i)) = true
    · have hng : ¬ GoodW n l gone c R i := fun hg => by
        rw [hg.left, hg.frm, hg.unto] at hs
        exact absurd hs (by decide)
      obtain ⟨j, h1, h2, h3⟩ := treeIn_spec hn1 hn hl hx gone c R hR d (i + 1) (by omega) (hnext hng)
      exact ⟨j, h1, h2, fun k hk => by rw [hstep, if_pos hs, h3 k hk]⟩
    · obtain ⟨least, at_, hN, hk⟩ := narrow_spec hn1 hn hl hx (fun j => some (decide (j = (i : Int)) || gone j)) (fun j => decide (j = (i : Int)) || gone j) (fun _ _ => rfl)
      have hsb : gone (i : Int) = false ∧ R.testBit (aW l i) = true ∧ R.testBit (bW l i) = false := by
        revert hs
        cases gone (i : Int) <;> cases R.testBit (aW l i) <;> cases R.testBit (bW l i) <;> simp
      by_cases hc : c ≤ least
      · refine ⟨i, hi, ⟨hsb.1, hsb.2.1, hsb.2.2, fun S hS => ?_⟩, fun k hk2 => ?_⟩
        · have := hN.low S ((setM_iff n S).2 hS)
          rw [entN_entC] at this
          exact Nat.le_trans hc this
        · rw [hstep, if_neg hs, hk k hk2, Option.bind_some, if_pos (show ((least : Int) ≥ (c : Int)) by omega)]
      · have hng : ¬ GoodW n l gone c R i := fun hg => by
          have h1 := hg.low at_ ((setM_iff n at_).1 hN.set)
          have h2 := hN.val
          rw [entN_entC] at h2
          omega
        obtain ⟨j, h1, h2, h3⟩ := treeIn_spec hn1 hn hl hx gone c R hR d (i + 1) (by omega) (hnext hng)
        exact ⟨j, h1, h2, fun k hk2 => by rw [hstep, if_neg hs, hk k hk2, Option.bind_some, if_neg (show ¬ ((least : Int) ≥ (c : Int)) by omega), h3 k hk2]⟩
/-- What stands in a round of tree: R the corners that are reached, f the street into each. -/
structure TreeI (n : Nat) (l : List S30) (gone0 gone : Int → Bool) (c R : Nat) (f : Nat → Nat) (out : List Int) : Prop where
  lt : R < 2 ^ n
  root : R.testBit 0 = true
  on : ∀ d, 0 < d → R.testBit d = true → f d < l.length ∧ bW l (f d) = d ∧ gone0 (f d : Int) = false
  mem : ∀ x, x ∈ out ↔ ∃ d, 0 < d ∧ R.testBit d = true ∧ x = (f d : Int)
  once : out.Nodup
  all : ∀ d, R.testBit d = true → Rc (aW l) (bW l) (fun i => ∃ e, 0 < e ∧ R.testBit e = true ∧ i = f e) 0 d
  gn : ∀ j, gone j = (gone0 j || decide (j ∈ out))
  low : ∀ S, IsSetM n S → c ≤ entC l gone S
  more : ∀ S, IsSetM n S → (∀ d, S.testBit d = true → R.testBit d = false) → c + 1 ≤ entC l gone S
theorem Rc_mono' {a b : Nat → Nat} {T U : Nat → Prop} {s c : Nat} (h : Rc a b T s c) (hT : ∀ i, T i → U i) : Rc a b U s c := by
  induction h with
  | refl => exact .refl
  | step hi _ ih => exact .step (hT _ hi) ih
theorem bit_mask {m c : Nat} (hc : c < m) : (2 ^ m - 1).testBit c = true := by
  rw [Nat.testBit_two_pow_sub_one, decide_eq_true hc]
theorem or_lt {R b : Nat} (hR : R < 2 ^ n) (hb : b < n) : R ||| 1 <<< b < 2 ^ n := by
  refine Nat.or_lt_two_pow hR ?_
  rw [Nat.shiftLeft_eq, Nat.one_mul]
  exact Nat.pow_lt_pow_right (by decide) hb
theorem TreeI.next (hx : ∀ x ∈ l, wayOk n x = true) {gone0 gone : Int → Bool} {c R j : Nat} {f : Nat → Nat} {out : List Int} (h : TreeI n l gone0 gone c R f out) (hj : j < l.length) (hg : GoodW n l gone c R j) :
    TreeI n l gone0 (fun i => decide (i = (j : Int)) || gone i) c (R ||| 1 <<< bW l j) (fun d => if d = bW l j then j else f d) (out ++ [(j : Int)]) := by
  obtain ⟨h1, h2, h3, h4, ea, eb⟩ := way_at hx hj
  have hb0 : 0 < bW l j := Nat.pos_of_ne_zero fun e => by have := hg.unto; rw [e, h.root] at this; exact absurd this (by decide)
  have hne : ∀ d, R.testBit d = true → d ≠ bW l j := fun d hd e => by rw [e, hg.unto] at hd; exact absurd hd (by decide)
  have hbit : ∀ d, (R ||| 1 <<< bW l j).testBit d = true ↔ R.testBit d = true ∨ d = bW l j := fun d => by rw [tb_or]; simp
  have hin : ∀ x, x ∈ out ++ [(j : Int)] ↔ ∃ d, 0 < d ∧ (R ||| 1 <<< bW l j).testBit d = true ∧ x = ((if d = bW l j then j else f d : Nat) : Int) := fun x => by
    rw [List.mem_append, List.mem_singleton, h.mem]
    constructor
    · rintro (⟨d, d0, d1, rfl⟩ | rfl)
      · exact ⟨d, d0, (hbit d).2 (.inl d1), by rw [if_neg (hne d d1)]⟩
      · exact ⟨bW l j, hb0, (hbit _).2 (.inr rfl), by rw [if_pos rfl]⟩
    · rintro ⟨d, d0, d1, rfl⟩
      by_cases e : d = bW l j
      · right; rw [if_pos e]
      · left
        rw [if_neg e]
        exact ⟨d, d0, ((hbit d).1 d1).resolve_right e, rfl⟩
  have hjn : (j : Int) ∉ out := fun hm => by
    obtain ⟨d, d0, d1, e⟩ := (h.mem _).1 hm
    have := (h.on d d0 d1).2.1
    obtain rfl : j = f d := by omega
    exact hne d d1 this.symm
  have hg0 : gone0 (j : Int) = false := by
    have := hg.left
    rw [h.gn, Bool.or_eq_false_iff] at this
    exact this.1
  refine ⟨or_lt h.lt (by omega), (hbit 0).2 (.inl h.root), fun d d0 d1 => ?_, hin, ?_, fun d d1 => ?_, fun i => ?_, hg.low, fun S hS hd => ?_⟩
  · by_cases e : d = bW l j
    · rw [if_pos e]; exact ⟨hj, e.symm, hg0⟩
    · rw [if_neg e]; exact h.on d d0 (((hbit d).1 d1).resolve_right e)
  · rw [List.nodup_append]
    exact ⟨h.once, by simp, fun a ha b hb e => by rw [List.mem_singleton] at hb; exact hjn (hb ▸ e ▸ ha)⟩
  · have hmono : ∀ d, R.testBit d = true → Rc (aW l) (bW l) (fun i => ∃ e, 0 < e ∧ (R ||| 1 <<< bW l j).testBit e = true ∧ i = if e = bW l j then j else f e) 0 d := fun d hd =>
      Rc_mono' (h.all d hd) fun i ⟨e, e0, e1, e2⟩ => ⟨e, e0, (hbit e).2 (.inl e1), by rw [if_neg (hne e e1)]; exact e2⟩
    rcases (hbit d).1 d1 with hd | hd
    · exact hmono d hd
    · subst hd
      exact .step ⟨bW l j, hb0, (hbit _).2 (.inr rfl), by rw [if_pos rfl]⟩ (hmono _ hg.frm)
  · rw [h.gn i]
    by_cases e : i = (j : Int)
    · subst e; simp
    · simp [e]
  · have h1 := h.more S hS fun d hd2 => by
      have := hd d hd2
      cases hr : R.testBit d with
      | false => rfl
      | true => rw [(hbit d).2 (.inl hr)] at this; exact absurd this (by decide)
    have hSb : S.testBit (bW l j) = false := by
      cases hr : S.testBit (bW l j) with
      | false => rfl
      | true =>
        have := hd _ hr
        rw [(hbit _).2 (.inr rfl)] at this
        exact absurd this (by decide)
    have h2 := entC_gone (l := l) gone S j hj hg.left
    have h3 : entB l S j = false := by unfold entB; rw [hSb, Bool.and_false]
    rw [h3] at h2
    simp only [Bool.false_eq_true, if_false, Nat.add_zero] at h2
    rw [h2]
    exact h1
end
end Go.Proofs.Ytpmadffgdfholaa.B
namespace Go.Proofs.Ytpmadffgdfholaa.B
set_option linter.unusedVariables false
set_option linter.unusedSimpArgs false
open Go.RowKit Go.Proofs.YtpmadffgdfholaaW.PrintWords Go.Proofs.YtpmadffgdfholaaW.PrintLast Go.Proofs.YtpmadffgdfholaaW.PrintMore
section
variable {n : Nat} {l : List S30}
def missN (n R : Nat) : Nat := cntN (fun c => !R.testBit c) n
theorem full_mask {R : Nat} (hR : R < 2 ^ n) (h : ∀ c, c < n → R.testBit c = true) : R = 2 ^ n - 1 := by
  apply Nat.eq_of_testBit_eq
  intro i
  rw [Nat.testBit_two_pow_sub_one]
  by_cases hi : i < n
  · rw [h i hi, decide_eq_true hi]
  · rw [decide_eq_false hi]
    exact Nat.testBit_lt_two_pow (Nat.lt_of_lt_of_le hR (Nat.pow_le_pow_right (by decide) (by omega)))
theorem cntN_zero {P : Nat → Bool} : ∀ m, cntN P m = 0 → ∀ i, i < m → P i = false
  | 0, _, i, hi => absurd hi (Nat.not_lt_zero _)
  | m + 1, h, i, hi => by
    simp only [cntN] at h
    by_cases e : i = m
    · subst e
      cases hp : P i with
      | false => rfl
      | true => rw [if_pos hp] at h; omega
    · exact cntN_zero m (by omega) i (by omega)
theorem miss_next {R b : Nat} (hb : b < n) (hR : R.testBit b = false) : missN n (R ||| 1 <<< b) + 1 = missN n R := by
  have := cntN_gone (P := fun c => !R.testBit c) (Q := fun c => !(R ||| 1 <<< b).testBit c) (i := b) (fun j hj => by rw [tb_or]; simp [hj]) (by rw [tb_or]; simp) n hb
  rw [hR] at this
  simpa [missN] using this
theorem treeOut_spec (hn1 : 2 ≤ n) (hn : n ≤ 7) (hl : l.length ≤ 30) (hx : ∀ x ∈ l, wayOk n x = true) (gone0 : Int → Bool) (c : Nat) : ∀ (d R : Nat) (gone : Int → Bool) (f : Nat → Nat) (out : List Int), TreeI n l gone0 gone c R f out → missN n R = d → out.length + d ≤ 7 →
    ∃ f' out' gone', TreeI n l gone0 gone' c (2 ^ n - 1) f' out' ∧ out'.length ≤ 7 ∧ ∀ k fuel, 3000 ≤ k → d + 1 ≤ fuel → treeOut k (n : Int) l (c : Int) fuel (R : Int) out gone = some (out', gone')
  | 0, R, gone, f, out, hI, hm, hlen => by
    have hfull : R = 2 ^ n - 1 := full_mask hI.lt fun c hc => by simpa using cntN_zero n hm c hc
    refine ⟨f, out, gone, hfull ▸ hI, by omega, fun k fuel hk hf => ?_⟩
    obtain ⟨fu, rfl⟩ : ∃ fu, fuel = fu + 1 := ⟨fuel - 1, by omega⟩
    rw [treeOut, everybody_f hn, Option.bind_some, if_pos]
    rw [hfull]
    have : 0 < 2 ^ n := Nat.pow_pos (by decide)
    have h2 : ((2 : Int) ^ n) = ((2 ^ n : Nat) : Int) := by norm_cast
    omega
  | d + 1, R, gone, f, out, hI, hm, hlen => by
    obtain ⟨c0, hc0, hc1⟩ := cntN_pos n (show 0 < cntN (fun c => !R.testBit c) n by have : missN n R = d + 1 := hm; unfold missN at this; omega)
    have hc1 : R.testBit c0 = false := by simpa using hc1
    obtain ⟨i, hi, g1, g2, g3, g4⟩ := lovasz hx gone c R hI.lt hI.root hc0 hc1 hI.low hI.more
    obtain ⟨j, hj, hg, hk1⟩ := treeIn_spec hn1 hn hl hx gone c R hI.lt l.length 0 (by omega) ⟨i, Nat.zero_le _, hi, g1, g2, g3, g4⟩
    obtain ⟨h1, h2, h3, h4, ea, eb⟩ := way_at hx hj
    have hb : bW l j < n := by omega
    have hR7 : R < 128 := Nat.lt_of_lt_of_le hI.lt (by have : 2 ^ n ≤ 2 ^ 7 := Nat.pow_le_pow_right (by decide) hn; omega)
    have hor := fin_or ⟨R, hR7⟩ ⟨bW l j, by omega⟩
    simp only [] at hor
    rw [eb] at hor
    obtain ⟨f', out', gone', hI', hl', hk'⟩ := treeOut_spec hn1 hn hl hx gone0 c d (R ||| 1 <<< bW l j) _ _ _ (hI.next hx hj hg) (by have := miss_next hb hg.unto; omega) (by rw [List.length_append, List.length_singleton]; omega)
    refine ⟨f', out', gone', hI', hl', fun k fuel hk hf => ?_⟩
    obtain ⟨fu, rfl⟩ : ∃ fu, fuel = fu + 1 := ⟨fuel - 1, by omega⟩
    rw [treeOut, everybody_f hn, Option.bind_some, if_neg, hk1 k hk, Option.bind_some]
    · simp only []
      rw [if_pos h3, if_pos (show out.length < 1000000 by omega), hor]
      exact hk' k fu hk (by omega)
    · intro e
      have : 0 < 2 ^ n := Nat.pow_pos (by decide)
      have hR2 : R = 2 ^ n - 1 := by
        have : ((2 : Int) ^ n) = ((2 ^ n : Nat) : Int) := by norm_cast
        omega
      rw [hR2, bit_mask hc0] at hc1
      exact absurd hc1 (by decide)
theorem sortI_asc {xs : List Int} (h : xs.Nodup) : (sortI xs).Pairwise (· < ·) := by
  have h1 : (sortI xs).Pairwise (fun a b => decide (a ≤ b) = true) := List.pairwise_mergeSort (fun a b c h1 h2 => by simp at *; omega) (fun a b => by simp; omega) xs
  have h2 : (sortI xs).Nodup := (List.mergeSort_perm xs _).nodup_iff.2 h
  exact (h1.and h2).imp fun {a b} hab => by have := of_decide_eq_true hab.1; have := hab.2; omega
theorem sortI_mem {xs : List Int} (x : Int) : x ∈ sortI xs ↔ x ∈ xs := (List.mergeSort_perm xs _).mem_iff
/-- What tree leaves, and what it gives. -/
theorem tree_spec (hr : readB (n : Int) l = 0) (gone : Int → Bool) (c : Nat) (h : ∀ S, IsSetM n S → c + 1 ≤ entC l gone S) :
    ∃ f gone', BrB n l f ∧ (∀ x ∈ listB n l f, gone x = false) ∧ (∀ j, gone' j = (gone j || decide (j ∈ listB n l f))) ∧ (∀ S, IsSetM n S → c ≤ entC l gone' S) ∧
      ∀ k, 4000 ≤ k → branch_town_tree.f k (n : Int) l gone (c : Int) = some (listB n l f, gone') := by
  obtain ⟨h2, h7, h30, hx⟩ := readB_ok hr
  have hn1 : 2 ≤ n := by omega
  have hn : n ≤ 7 := by omega
  have hb1 : ∀ d, (1 : Nat).testBit d = decide (d = 0) := fun d => by
    have := tb_one 0 d
    simpa using this
  have hI : TreeI n l gone gone c 1 (fun _ => 0) [] := by
    refine ⟨Nat.one_lt_two_pow (by omega), by decide, fun d d0 d1 => ?_, fun x => ?_, by simp, fun d d1 => ?_, fun j => by simp, fun S hS => Nat.le_of_succ_le (h S hS), fun S hS _ => h S hS⟩
    · rw [hb1, decide_eq_true_iff] at d1; omega
    · constructor
      · intro hh; exact absurd hh (by simp)
      · rintro ⟨d, d0, d1, _⟩
        rw [hb1, decide_eq_true_iff] at d1; omega
    · rw [hb1, decide_eq_true_iff] at d1
      subst d1
      exact .refl
  have hm : missN n 1 ≤ n - 1 := by
    have h1 := cntN_gone (P := fun _ => true) (Q := fun c => !(1 : Nat).testBit c) (i := 0) (fun j hj => by rw [hb1]; simp [hj]) (by rw [hb1]; simp) n (by omega)
    have h2 : ∀ m, cntN (fun _ => true) m = m := fun m => by
      induction m with
      | zero => rfl
      | succ m ih => simp [cntN, ih]
    rw [h2] at h1
    simp only [if_true] at h1
    unfold missN
    omega
  obtain ⟨f, out, gone', hT, hl, hk⟩ := treeOut_spec hn1 hn (by omega) hx gone c (missN n 1) 1 gone _ _ hI rfl (by simp only [List.length_nil]; omega)
  have hbit : ∀ d, d < n → (2 ^ n - 1).testBit d = true := fun d hd => bit_mask hd
  have hB : BrB n l f := ⟨fun d d0 d1 => ⟨(hT.on d d0 (hbit d d1)).1, (hT.on d d0 (hbit d d1)).2.1⟩, fun d d1 => Rc_mono' (hT.all d (hbit d d1)) fun i ⟨e, e0, e1, e2⟩ => ⟨e, e0, bit_lt hT.lt e1, e2⟩⟩
  have hmem : ∀ x, x ∈ out ↔ x ∈ listB n l f := fun x => by
    rw [hT.mem]
    unfold listB selL
    simp only [List.mem_map, List.mem_filter, List.mem_range, useB_iff]
    constructor
    · rintro ⟨d, d0, d1, rfl⟩
      obtain ⟨h1, h2, _⟩ := hT.on d d0 d1
      exact ⟨f d, ⟨h1, by rw [h2]; exact d0, by rw [h2]; exact bit_lt hT.lt d1, by rw [h2]⟩, rfl⟩
    · rintro ⟨j, ⟨h1, h2, h3, h4⟩, rfl⟩
      exact ⟨bW l j, h2, hbit _ h3, by rw [h4]⟩
  have hlist : sortI out = listB n l f := asc_ext _ _ (sortI_asc hT.once) (selL_asc _ _) fun x => by rw [sortI_mem, hmem]
  have hne : out ≠ [] := by
    intro e
    have := (hT.mem (f 1 : Int)).2 ⟨1, by decide, hbit 1 (by omega), rfl⟩
    rw [e] at this
    exact absurd this (by simp)
  refine ⟨f, gone', hB, fun x hx2 => ?_, fun j => by rw [hT.gn]; congr 1; rw [decide_eq_decide]; exact hmem j, hT.low, fun k hk2 => ?_⟩
  · obtain ⟨d, d0, d1, rfl⟩ := (hT.mem x).1 ((hmem x).2 hx2)
    exact (hT.on d d0 d1).2.2
  · unfold branch_town_tree.f
    have := hk k k (by omega) (by omega)
    rw [if_pos (show l.length < 1000000 by omega), show (1 : Int) = ((1 : Nat) : Int) from rfl, this, Option.bind_some, if_neg hne, if_pos (show out.length < 2000000 by omega), hlist]
end
end Go.Proofs.Ytpmadffgdfholaa.B
namespace Go.Proofs.Ytpmadffgdfholaa.B
set_option linter.unusedVariables false
set_option linter.unusedSimpArgs false
open Go.RowKit Go.Proofs.YtpmadffgdfholaaW.PrintWords Go.Proofs.YtpmadffgdfholaaW.PrintLast Go.Proofs.YtpmadffgdfholaaW.PrintMore
section
variable {n : Nat} {l : List S30}
def Disj (a b : List Int) : Prop := ∀ x, x ∈ a → x ∈ b → False
theorem Disj.symm {a b : List Int} (h : Disj a b) : Disj b a := fun x hb ha => h x ha hb
theorem apartL_spec (hr : readB (n : Int) l = 0) : ∀ (c : Nat) (gone : Int → Bool) (out : List (List Int)), (∀ S, IsSetM n S → c ≤ entC l gone S) → out.length + c ≤ 100000 →
    ∃ Ls : List (List Int), Ls.length = c ∧ (∀ L ∈ Ls, (∃ f, BrB n l f ∧ L = listB n l f) ∧ ∀ x ∈ L, gone x = false) ∧ Ls.Pairwise Disj ∧ ∀ k, 4000 ≤ k → apartL k (n : Int) l c gone out = some (out ++ Ls)
  | 0, gone, out, h, hl => ⟨[], rfl, by simp, .nil, fun k hk => by simp [apartL]⟩
  | c + 1, gone, out, h, hl => by
    obtain ⟨f, gone', hB, h1, h2, h3, hk⟩ := tree_spec hr gone c h
    obtain ⟨Ls, g1, g2, g3, g4⟩ := apartL_spec hr c gone' (out ++ [listB n l f]) h3 (by rw [List.length_append, List.length_singleton]; omega)
    refine ⟨listB n l f :: Ls, by simp [g1], fun L hL => ?_, List.pairwise_cons.2 ⟨fun L hL x hx1 hx2 => ?_, g3⟩, fun k hk2 => ?_⟩
    · rcases List.mem_cons.1 hL with rfl | hL
      · exact ⟨⟨f, hB, rfl⟩, h1⟩
      · refine ⟨(g2 L hL).1, fun x hx => ?_⟩
        have := (g2 L hL).2 x hx
        rw [h2, Bool.or_eq_false_iff] at this
        exact this.1
    · have := (g2 L hL).2 x hx2
      rw [h2, Bool.or_eq_false_iff, decide_eq_false_iff_not] at this
      exact this.2 hx1
    · rw [apartL, hk k hk2, Option.bind_some, if_pos (show out.length < 1000000 by omega)]
      simp only []
      rw [g4 k hk2, List.append_assoc]
      rfl
theorem listB_len (hr : readB (n : Int) l = 0) {f : Nat → Nat} (hB : BrB n l f) : (listB n l f).length = n - 1 := by
  obtain ⟨h2, h7, h30, hx⟩ := readB_ok hr
  exact IsB.selLen (by omega) hB
theorem apart_spec (hr : readB (n : Int) l = 0) : ∃ (least at_ : Nat) (Ls : List (List Int)), NarrowS n l (fun _ => false) least at_ ∧ Ls.length = least ∧ (∀ L ∈ Ls, ∃ f, BrB n l f ∧ L = listB n l f) ∧ Ls.Pairwise Disj ∧ Ls.Pairwise (fun a b => ltL a b = true) ∧
    (∀ k, 4000 ≤ k → branch_Apart.f k (n : Int) l = some (Ls, 0)) ∧ ∀ k, 3000 ≤ k → branch_Narrow.f k (n : Int) l = some ((least : Int), (at_ : Int), 0) := by
  obtain ⟨h2, h7, h30, hx⟩ := readB_ok hr
  obtain ⟨least, at_, h1, hk⟩ := narrow_spec (n := n) (by omega) (by omega) h30 hx (fun _ => some false) (fun _ => false) (fun _ _ => rfl)
  have hle : least ≤ l.length := by
    rw [← h1.val, entN_entC]
    have := cntN_le (P := fun i => entB l at_ i && !(fun _ => false : Int → Bool) (i : Int)) (Q := fun _ => true) l.length (fun _ _ _ => rfl)
    have h2 : ∀ m, cntN (fun _ => true) m = m := fun m => by
      induction m with
      | zero => rfl
      | succ m ih => simp [cntN, ih]
    rw [h2] at this
    exact this
  obtain ⟨Ls, g1, g2, g3, g4⟩ := apartL_spec hr least (fun _ => false) [] (fun S hS => by have := h1.low S ((setM_iff n S).2 hS); rwa [entN_entC] at this) (by simp only [List.length_nil]; omega)
  have hp := List.mergeSort_perm Ls fun x y => !ltL y x
  have hmem : ∀ L, L ∈ sortL Ls ↔ L ∈ Ls := fun L => hp.mem_iff
  have hne : ∀ L ∈ Ls, L ≠ [] ∧ L.length ≤ 7 := fun L hL => by
    obtain ⟨f, hB, rfl⟩ := (g2 L hL).1
    have := listB_len hr hB
    exact ⟨fun e => by rw [e] at this; simp at this; omega, by omega⟩
  have hd : (sortL Ls).Pairwise Disj := (hp.pairwise_iff fun h => Disj.symm h).2 g3
  have hs : (sortL Ls).Pairwise (fun a b => (!ltL b a) = true) := List.pairwise_mergeSort (fun a b c h1 h2 => by
    rw [Bool.not_eq_true'] at *
    exact swo_ltL.ntrans c b a h2 h1) (fun a b => by
    cases hab : ltL b a with
    | false => simp
    | true =>
      cases hba : ltL a b with
      | false => simp
      | true => have := swo_ltL.trans a b a hba hab; rw [swo_ltL.irrefl] at this; exact absurd this (by decide)) Ls
  refine ⟨least, at_, sortL Ls, h1, by rw [← g1]; exact List.length_mergeSort _, fun L hL => (g2 L ((hmem L).1 hL)).1, hd, ?_, fun k hk2 => ?_, fun k hk2 => ?_⟩
  · refine (hs.and hd).imp_of_mem fun {a b} ha hb hab => ?_
    cases hlt : ltL a b with
    | true => rfl
    | false =>
      have e := tot_ltL a b hlt (by simpa using hab.1)
      obtain ⟨x, hx⟩ := List.exists_mem_of_ne_nil a (hne a ((hmem a).1 ha)).1
      exact (hab.2 x hx (e ▸ hx)).elim
  · unfold branch_Apart.f
    rw [if_pos hr, hk k (by omega), Option.bind_some, if_pos (show 0 ≤ ((least : Int), (at_ : Int)).1 ∧ ((least : Int), (at_ : Int)).1 < 1000000 by constructor <;> simp only [] <;> omega)]
    simp only [Int.toNat_natCast]
    rw [g4 k hk2, Option.bind_some, List.nil_append, if_pos]
    exact ⟨by omega, fun L hL => by have := (hne L hL).2; omega⟩
  · unfold branch_Narrow.f branch_read.f
    rw [hr, Option.bind_some, if_pos rfl, hk k hk2, Option.bind_some]
end
end Go.Proofs.Ytpmadffgdfholaa.B
namespace Go.Proofs.Ytpmadffgdfholaa.B
set_option linter.unusedVariables false
set_option linter.unusedSimpArgs false
open Go.RowKit Go.Proofs.YtpmadffgdfholaaW.PrintWords Go.Proofs.YtpmadffgdfholaaW.PrintLast Go.Proofs.YtpmadffgdfholaaW.PrintMore
section
variable {n : Nat} {l : List S30}
theorem entN_all (s : Nat) : entN l (fun _ => false) s = (entL l s).length := by
  unfold entN keptL
  simp
end
end Go.Proofs.Ytpmadffgdfholaa.B
namespace Go.Proofs.Ytpmadffgdfholaa.B
set_option linter.unusedVariables false
set_option linter.unusedSimpArgs false
open Go.RowKit Go.Proofs.YtpmadffgdfholaaW.PrintWords Go.Proofs.YtpmadffgdfholaaW.PrintLast Go.Proofs.YtpmadffgdfholaaW.PrintMore
def setAll (U : List Bool) : List Int → List Bool
  | [] => U
  | x :: xs => setAll (U.set x.toNat true) xs
theorem setAll_len : ∀ (xs : List Int) (U : List Bool), (setAll U xs).length = U.length
  | [], U => rfl
  | x :: xs, U => by rw [setAll, setAll_len xs, List.length_set]
theorem rdOf_set {U : List Bool} {x y : Int} (hx : 0 ≤ x) (hy : 0 ≤ y) (h : x ≠ y) (b : Bool) : rdOf false (U.set x.toNat b) y = rdOf false U y := by
  unfold rdOf
  rw [List.getD_eq_getElem?_getD, List.getD_eq_getElem?_getD, List.getElem?_set_ne (by omega)]
theorem setAll_out : ∀ (xs : List Int) (U : List Bool) (y : Int), (∀ x ∈ xs, 0 ≤ x) → 0 ≤ y → y ∉ xs → rdOf false (setAll U xs) y = rdOf false U y
  | [], U, y, _, _, _ => rfl
  | x :: xs, U, y, h, hy, hn => by
    rw [setAll, setAll_out xs _ y (fun z hz => h z (List.mem_cons_of_mem _ hz)) hy (fun hm => hn (List.mem_cons_of_mem _ hm))]
    exact rdOf_set (h x List.mem_cons_self) hy (fun e => hn (e ▸ List.mem_cons_self)) true
section
variable {n : Nat} {l : List S30}
theorem isBr_list (hr : readB (n : Int) l = 0) {f : Nat → Nat} (hB : BrB n l f) (k : Nat) (hk : 2000 ≤ k) : trishawref03_IsBranching.f k (n : Int) l (listB n l f) = some true ∧ branch_Is.f k (n : Int) l (listB n l f) = some (costF n (costW l) f, true, 0) := by
  obtain ⟨c, b, h1, h2, h3, _, h5⟩ := is_spec hr (listB n l f)
  cases b with
  | false => exact absurd rfl ((h2 rfl).2 f hB)
  | true =>
    obtain ⟨g, hg, e1, e2⟩ := h1 rfl
    refine ⟨h5 k hk, ?_⟩
    rw [h3 k hk]
    have : costF n (costW l) g = costF n (costW l) f := by
      rw [← costN_list hg, ← e1, costN_list hB]
    rw [e2, this]
theorem listB_in {f : Nat → Nat} {x : Int} (hx : x ∈ listB n l f) : 0 ≤ x ∧ x < (l.length : Int) := by
  unfold listB selL at hx
  simp only [List.mem_map, List.mem_filter, List.mem_range] at hx
  obtain ⟨j, hj, rfl⟩ := hx
  omega
theorem listB_nodup (n : Nat) (l : List S30) (f : Nat → Nat) : (listB n l f).Nodup := (selL_asc _ _).imp fun h => by omega
theorem rd_L12_get (Ls : List (List Int)) (q : Nat) (h : q < Ls.length) : rd_L12 Ls (q : Int) = Ls[q] := by
  simp [rd_L12, List.getD, List.getElem?_eq_getElem h]
end
end Go.Proofs.Ytpmadffgdfholaa.B
namespace Go.Proofs.Ytpmadffgdfholaa.B
set_option linter.unusedVariables false
open Go.RowKit Go.Proofs.YtpmadffgdfholaaW.PrintWords Go.Proofs.YtpmadffgdfholaaW.PrintLast Go.Proofs.YtpmadffgdfholaaW.PrintMore
section
variable {n : Nat} {l : List S30}
theorem fin_odd : ∀ s : Fin 128, (Int.tmod ((s.val : Nat) : Int) 2 == 0) = !s.val.testBit 0 := by decide +kernel
theorem setN_f (hn : n ≤ 7) (s : Int) : ∃ b, trishawref03_IsSet.f (n : Int) s = some b ∧ branch_town_isSet.f (n : Int) l s = some b ∧ (b = true ↔ IsSetN n s) := by
  obtain ⟨e, b, h1, h2⟩ := isSet_eq hn l s
  refine ⟨b, h1, e.trans h1, ?_⟩
  have e1 := fin_shl ⟨n, by omega⟩
  simp only [] at e1
  have hp : 2 ^ n ≤ 2 ^ 7 := Nat.pow_le_pow_right (by decide) hn
  have hz : ((2 : Int) ^ n) = ((2 ^ n : Nat) : Int) := by norm_cast
  unfold trishawref03_IsSet.f at h1
  unfold IsSetN
  rw [e1] at h1
  rw [hz]
  generalize 2 ^ n = p at hp h1
  by_cases h0 : s > 0
  · rw [if_pos h0, if_pos (by omega)] at h1
    by_cases h3 : s < (p : Int)
    · rw [if_pos h3] at h1
      have := fin_odd ⟨s.toNat, by omega⟩
      simp only [← int_nat (show 0 ≤ s by omega)] at this
      rw [this] at h1
      obtain rfl := Option.some.inj h1
      rw [Bool.not_eq_true']
      exact ⟨fun h => ⟨h0, h3, h⟩, fun h => h.2.2⟩
    · rw [if_neg h3] at h1
      obtain rfl := Option.some.inj h1
      exact ⟨fun h => absurd h (by decide), fun h => absurd h.2.1 h3⟩
  · rw [if_neg h0] at h1
    obtain rfl := Option.some.inj h1
    exact ⟨fun h => absurd h (by decide), fun h => absurd h.1 h0⟩
end
end Go.Proofs.Ytpmadffgdfholaa.B
namespace Go.Proofs.Ytpmadffgdfholaa.Pure
set_option linter.unusedVariables false
open Go.RowKit Go.Proofs.Ytpmadffgdfholaa.B Go.Proofs.YtpmadffgdfholaaW.PrintWords Go.Proofs.YtpmadffgdfholaaW.PrintLast Go.Proofs.YtpmadffgdfholaaW.PrintMore
section
variable {n : Nat} {l : List S30}
theorem enter_f (hr : readB (n : Int) l = 0) {s : Nat} (hs : IsSetN n (s : Int)) (k : Nat) (hk : 40 ≤ k) : branch_Entering.f k (n : Int) l (s : Int) = some (entL l s, 0) := by
  obtain ⟨h2, h7, h30, hx⟩ := readB_ok hr
  obtain ⟨b, _, h1, hb⟩ := setN_f (n := n) (l := l) (by omega) (s : Int)
  have hb2 := hb.2 hs
  subst hb2
  have h128 : s < 128 := by
    have := ((setM_iff n s).1 hs).2.1
    have hp7 : 2 ^ n ≤ 2 ^ 7 := Nat.pow_le_pow_right (by decide) (by omega)
    omega
  unfold branch_Entering.f branch_read.f
  rw [hr, Option.bind_some, if_pos rfl, h1, Option.bind_some, if_pos rfl, entering_f (by omega) h30 hx h128 k hk, Option.bind_some]
theorem bap_l1 (Ls : List (List Int)) (q : Nat) (hq : q < Ls.length) (L : List Int) (hL : rd_L12 Ls (q : Int) = L) (hq2 : Ls.length < 100000) (hLl : L.length < 100000) : ∀ (d e : Nat) (U : List Bool) (k : Nat), e + d = L.length → U.length = l.length → (∀ x ∈ L.drop e, 0 ≤ x ∧ x < (U.length : Int) ∧ rdOf false U x = false) → (L.drop e).Nodup → d + 1 ≤ k →
    trishawlaw03_BranchApart.l1 k (n : Int) l Ls U (q : Int) (e : Int) = trishawlaw03_BranchApart.l0 (k - d - 1) (n : Int) l Ls (setAll U (L.drop e)) ((q + 1 : Nat) : Int)
  | 0, e, U, k, h, hUl, hU, hN, hk => by
    obtain ⟨k, rfl⟩ : ∃ k', k = k' + 1 := ⟨k - 1, by omega⟩
    rw [trishawlaw03_BranchApart.l1, if_pos (by omega), if_pos (by omega), hL, if_neg (by omega), List.drop_eq_nil_of_le (by omega), show wrap64 ((q : Int) + 1) = ((q + 1 : Nat) : Int) from by unfold wrap64; omega]
    rfl
  | d + 1, e, U, k, h, hUl, hU, hN, hk => by
    obtain ⟨k, rfl⟩ : ∃ k', k = k' + 1 := ⟨k - 1, by omega⟩
    have hd := drop_rdI L e (by omega)
    rw [hd] at hU hN
    obtain ⟨h1, h2, h3⟩ := hU _ List.mem_cons_self
    rw [List.nodup_cons] at hN
    have ih := bap_l1 Ls q hq L hL hq2 hLl d (e + 1) (U.set (rd L (e : Int)).toNat true) k (by omega) (by rw [List.length_set]; exact hUl) (fun x hx => by
      obtain ⟨g1, g2, g3⟩ := hU x (List.mem_cons_of_mem _ hx)
      refine ⟨g1, by rw [List.length_set]; exact g2, ?_⟩
      rw [rdOf_set h1 g1 (fun ee => hN.1 (ee ▸ hx))]
      exact g3) hN.2 (by omega)
    rw [trishawlaw03_BranchApart.l1, if_pos (by omega), if_pos (by omega), hL, if_pos (by omega), if_pos (by omega), if_neg (by omega), if_neg (by rw [← hUl]; omega), if_pos h1, if_pos h2, if_neg (by rw [h3]; decide), show wrap64 ((e : Int) + 1) = ((e + 1 : Nat) : Int) from by unfold wrap64; omega, ih, hd, setAll]
    rw [show k + 1 - (d + 1) - 1 = k - d - 1 from by omega]
theorem bap_l0 (hr : readB (n : Int) l = 0) (Ls : List (List Int)) (hLs : Ls.length < 100000) (hB : ∀ L ∈ Ls, ∃ f, BrB n l f ∧ L = listB n l f) (hD : Ls.Pairwise Disj) :
    ∀ (d q : Nat) (U : List Bool) (k : Nat), q + d = Ls.length → U.length = l.length → (∀ r (h : r < Ls.length), q ≤ r → ∀ x ∈ Ls[r], rdOf false U x = false) → 2100 + 20 * d ≤ k → trishawlaw03_BranchApart.l0 k (n : Int) l Ls U (q : Int) = some true
  | 0, q, U, k, h, _, _, hk => by
    obtain ⟨k, rfl⟩ : ∃ k', k = k' + 1 := ⟨k - 1, by omega⟩
    rw [trishawlaw03_BranchApart.l0, if_neg (by omega), alive_from k (by omega)]
    rfl
  | d + 1, q, U, k, h, hUl, hU, hk => by
    obtain ⟨k, rfl⟩ : ∃ k', k = k' + 1 + 1 := ⟨k - 2, by omega⟩
    obtain ⟨h2, h7, h30, hx⟩ := readB_ok hr
    have hq : q < Ls.length := by omega
    have hget := rd_L12_get Ls q hq
    obtain ⟨f, hf, hLf⟩ := hB Ls[q] (List.getElem_mem hq)
    have hlen := listB_len hr hf
    rw [← hLf] at hlen
    have hbr := (isBr_list hr hf (k + 1) (by omega)).2
    rw [← hLf] at hbr
    rw [trishawlaw03_BranchApart.l0, if_pos (by omega), if_pos (by omega), hget, hbr, Option.bind_some, if_pos rfl]
    show trishawlaw03_BranchApart.j4 (k + 1) _ _ _ _ _ false = _
    rw [trishawlaw03_BranchApart.j4, if_neg (by decide)]
    have h1 := bap_l1 (n := n) (l := l) Ls q hq Ls[q] hget hLs (by omega) Ls[q].length 0 U k (by omega) hUl (fun x hx2 => by
      rw [List.drop_zero] at hx2
      have hb := listB_in (hLf ▸ hx2)
      exact ⟨hb.1, by rw [hUl]; exact hb.2, hU q hq (Nat.le_refl _) x hx2⟩) (by rw [List.drop_zero, hLf]; exact listB_nodup n l f) (by omega)
    rw [show ((0 : Nat) : Int) = 0 from rfl] at h1
    rw [h1, List.drop_zero]
    refine bap_l0 hr Ls hLs hB hD d (q + 1) _ _ (by omega) (by rw [setAll_len]; exact hUl) (fun r hr2 hrq x hx2 => ?_) (by omega)
    obtain ⟨g, hg, hLg⟩ := hB Ls[r] (List.getElem_mem hr2)
    rw [setAll_out _ _ _ (fun z hz => (listB_in (hLf ▸ hz)).1) (listB_in (hLg ▸ hx2)).1 (fun hm => ?_)]
    · exact hU r hr2 (by omega) x hx2
    · exact List.pairwise_iff_getElem.1 hD q r hq hr2 (by omega) x hm hx2
theorem bap_num (u : Nat) (h : u < 64) : wrap64 (2 * (wrap64 (1 + (u : Int)))) = ((2 * (1 + u) : Nat) : Int) := by unfold wrap64; omega
theorem bap_dec (m : Nat) (h : m < 64) : wrap64 (((m + 1 : Nat) : Int) - 1) = (m : Int) := by unfold wrap64; omega
theorem bap_id (a : Int) (h0 : 0 ≤ a) (h1 : a < 256) : wrap64 a = a := by unfold wrap64; omega
theorem bap_pow (hn1 : 2 ≤ n) (hn : n ≤ 7) : ∃ m, 2 ^ (n - 1) = m + 1 ∧ 1 ≤ m ∧ m < 64 ∧ 2 ^ n = 2 * (m + 1) := by
  have hp : 2 ^ n = 2 * 2 ^ (n - 1) := by rw [← Nat.pow_succ']; congr 1; omega
  have hp1 : 2 ^ 1 ≤ 2 ^ (n - 1) := Nat.pow_le_pow_right (by decide) (by omega)
  have hp7 : 2 ^ (n - 1) ≤ 2 ^ 6 := Nat.pow_le_pow_right (by decide) (by omega)
  refine ⟨2 ^ (n - 1) - 1, ?_, ?_, ?_, ?_⟩
  · generalize 2 ^ (n - 1) = z at *; omega
  · generalize 2 ^ (n - 1) = z at *; omega
  · generalize 2 ^ (n - 1) = z at *; omega
  · rw [hp]; generalize 2 ^ (n - 1) = z at *; omega
theorem bap_even (u m : Nat) (h : u < m) (hp : 2 ^ n = 2 * (m + 1)) : IsSetM n (2 * (1 + u)) := by
  refine ⟨by omega, by rw [hp]; omega, ?_⟩
  rw [Nat.testBit_zero]
  exact decide_eq_false (by omega)
theorem bap_set (hn1 : 2 ≤ n) (hn : n ≤ 7) {a2 : Int} (h0 : 0 ≤ a2) (h1 : a2 < 256) : ∃ t : Nat, IsSetN n (t : Int) ∧ wrap64 ((shl .i64 1 (wrap64 ((n : Int) - 1))) - 1) ≠ 0 ∧ wrap64 (2 * (wrap64 (1 + (Int.tmod (wrap64 a2) (wrap64 ((shl .i64 1 (wrap64 ((n : Int) - 1))) - 1)))))) = (t : Int) := by
  have hw : wrap64 ((n : Int) - 1) = ((n - 1 : Nat) : Int) := by unfold wrap64; omega
  have hs := fin_shl ⟨n - 1, by omega⟩
  simp only [] at hs
  obtain ⟨m, hm, m1, m64, hp⟩ := bap_pow hn1 hn
  rw [hw, hs, hm, bap_dec m m64, bap_id a2 h0 h1]
  obtain ⟨r, hr⟩ : ∃ r, Int.tmod a2 (m : Int) = r := ⟨_, rfl⟩
  have hm0 : (0 : Int) < (m : Int) := Int.natCast_pos.2 m1
  have hr0 : 0 ≤ r := by rw [← hr]; exact Int.tmod_nonneg _ h0
  have hr1 : r < (m : Int) := by rw [← hr]; exact Int.tmod_lt_of_pos _ hm0
  rw [hr]
  clear hr hs hm hw
  obtain ⟨u, rfl⟩ := Int.eq_ofNat_of_zero_le hr0
  have hu : u < m := Int.ofNat_lt.1 hr1
  exact ⟨2 * (1 + u), (setM_iff n _).2 (bap_even u m hu hp), Int.ne_of_gt hm0, bap_num u (Nat.lt_trans hu m64)⟩
end
theorem BranchApart : trishawlaw03_BranchApart.Pure := by
  intro a0 l1 a2 _ _ _ hw
  have ha2 : 0 ≤ a2 ∧ a2 < 256 := by
    have h1 : IntKind.u8.min ≤ a2 ∧ a2 ≤ IntKind.u8.max := by simpa [Lit.wf] using hw
    have e1 : IntKind.u8.min = 0 := by decide
    have e2 : IntKind.u8.max = 255 := by decide
    rw [e1, e2] at h1
    omega
  have al := fun k hk => alive_from k hk
  refine ⟨9000, ?_⟩
  have hj : trishawlaw03_BranchApart.j0 9000 a0 l1 a2 true = some true := by
    show trishawlaw03_BranchApart.j0 (8999 + 1) _ _ _ true = _
    rw [trishawlaw03_BranchApart.j0, if_pos rfl, al _ (by omega)]; rfl
  unfold trishawlaw03_BranchApart.f
  by_cases hf : (l1.length : Int) ≤ 60
  case neg => unfold trishawlaw03_few.f; rw [if_neg hf, Option.bind_some, if_neg (by decide)]; exact hj
  have hfew : trishawlaw03_few.f l1 [] = some true := by unfold trishawlaw03_few.f; rw [if_pos hf]; rfl
  rw [hfew, Option.bind_some, if_pos rfl, town_eq _ _ _ (.inr (by omega)), Option.bind_some]
  by_cases hr : readB a0 l1 = 0
  case neg => rw [show (readB a0 l1 != 0) = true from bne_iff_ne.mpr hr]; exact hj
  obtain ⟨h2, h7, h30, hx⟩ := readB_ok hr
  obtain ⟨n, rfl⟩ := Int.eq_ofNat_of_zero_le (show 0 ≤ a0 by omega)
  obtain ⟨least, at_, Ls, hN, g1, g2, g3, g4, g5, g6⟩ := apart_spec hr
  have hLs : Ls.length ≤ 100 := by
    rw [g1, ← hN.val]
    have := keptL_le (fun _ => false) (entL l1 at_)
    have := entL_length l1 at_
    unfold entN
    omega
  obtain ⟨b, hs1, _, hb⟩ := setN_f (n := n) (l := l1) (by omega) (at_ : Int)
  have hb2 := hb.2 hN.set
  subst hb2
  obtain ⟨t, ht, hp2, hp3⟩ := bap_set (n := n) (by omega) (by omega) ha2.1 ha2.2
  have hp0 : 0 ≤ wrap64 ((n : Int) - 1) := by unfold wrap64; omega
  rw [hr, show ((0 : Int) != 0) = false from rfl]
  show trishawlaw03_BranchApart.j0 (8999 + 1) _ _ _ false = _
  rw [trishawlaw03_BranchApart.j0, if_neg (by decide), g6 _ (by omega), Option.bind_some, g5 _ (by omega), Option.bind_some, if_pos rfl, if_pos rfl, if_pos (show (Ls.length : Int) = (least : Int) by rw [g1]), hs1, Option.bind_some]
  show trishawlaw03_BranchApart.j1 (8998 + 1) _ _ _ _ _ _ false = _
  have hlo := hN.low t ht
  have hva := hN.val
  rw [entN_all] at hlo hva
  have hfi := hN.first t ht
  rw [entN_all] at hfi
  have hend : trishawlaw03_BranchApart.j2 8998 (n : Int) l1 Ls false = some true := by
    show trishawlaw03_BranchApart.j2 (8997 + 1) _ _ _ false = _
    rw [trishawlaw03_BranchApart.j2, if_neg (by decide), if_pos (by omega), if_pos (by simp only [Int.toNat_natCast]; omega), Int.toNat_natCast]
    refine bap_l0 hr Ls (by omega) g2 g3 Ls.length 0 _ 8997 (by omega) (by simp) (fun r h _ x hx2 => ?_) (by omega)
    unfold rdOf
    rw [List.getD_eq_getElem?_getD, List.getElem?_replicate]
    split <;> rfl
  rw [trishawlaw03_BranchApart.j1, if_neg (by decide), enter_f hr hN.set _ (by omega), Option.bind_some, if_pos hp0, if_neg hp2, hp3, enter_f hr ht _ (by omega), Option.bind_some, if_pos rfl, if_pos rfl]
  simp only []
  rw [if_pos (show ((entL l1 at_).length : Int) = (least : Int) by omega), if_neg (by omega)]
  by_cases he : ((entL l1 t).length : Int) = (least : Int)
  · have := hfi (by omega)
    rw [if_pos he, decide_eq_false (by omega)]
    exact hend
  · rw [if_neg he]
    exact hend
end Go.Proofs.Ytpmadffgdfholaa.Pure
