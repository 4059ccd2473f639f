/- Texts behind the row of BranchCosts, part 4: contracts of the functions it reaches, words that their walks use, and lemmas in plain Lean. -/
import Derived.Below
import Derived.Deep.Draws
import Derived.Deep.AppendLies
import Derived.Maps.AppendAt
import Derived.OwnWalk
import Derived.Laws.BytesArg
import Derived.Laws.MakeOwn
import Derived.Laws.OwnMore
import Derived.Deep.OwnRows
import Derived.Tactics
import Derived.Lib.ConvBytes
import Derived.Laws.Slices
import Derived.WalkKit
import Derived.KernelRfl
import Derived.RowKit3
import Derived.Deep.LoopGhost
import Derived.Deep.QuietTactic
import Derived.BigQuiet
import Derived.WideLaws
import Derived.Deep.DeepCutAuto
import Derived.Deep.CutBlock
import Derived.Deep.RegionHeld3
import Derived.Laws.Rows
import Derived.Lib.AppendStr
import Derived.ArgAppend
import Derived.Laws.IdiomCopy
import Derived.RowKit
import Derived.OrdersHeld
import Derived.Laws.BitsLemmas
import Derived.Test.YtpmadffgdfholaaProg
import Derived.Laws.StructEq
import Derived.MapKept
import Derived.WalkSpells
import Derived.Deep.DrawnRows
import Derived.Maps.RangeWalk
import Derived.Laws.EntriesVeiled
import Derived.Deep.Slices
import Derived.Deep.Fields
import Derived.ChangeSame
import Derived.Test.YtpmadffgdfholaaJ1
import Derived.Test.YtpmadffgdfholaaJ2
import Derived.Test.YtpmadffgdfholaaJ3
namespace Go.Proofs.Ytpmadffgdfholaa.B
open Go.RowKit Go.Proofs.YtpmadffgdfholaaW.PrintWords Go.Proofs.YtpmadffgdfholaaW.PrintLast Go.Proofs.YtpmadffgdfholaaW.PrintMore
attribute [local go_sem] max2_int min2_int max_two min_two max_three min_three max_four min_four   -- for this text's walks alone
set_option linter.unusedVariables false
set_option linter.unusedSimpArgs false
def trishawlaw03_alive.f (k : Nat)  : Option (Bool) := (trishawlaw03_three.f).bind fun t101 => ((branch_Branching.f k 3 t101).bind fun bt104 => ((trishawlaw03_three.f).bind fun t109 => ((branch_Proves.f k 3 t109 (([(⟨4, 1⟩ : S41), (⟨2, 2⟩ : S41)] : List (S41)))).bind fun bt115 => ((trishawlaw03_three.f).bind fun t118 => ((branch_Count.f k 3 t118).bind fun bt121 => ((trishawlaw03_three.f).bind fun t123 => ((branch_Narrow.f k 3 t123).bind fun bt126 => (if bt104.2.2 = 0 then ((trishawlaw03_same.f k bt104.1 (([1, 2] : List Int))).bind fun t132 => (if t132 = true then (if bt104.2.1 = 3 then (if bt115.2.2 = 0 then (if bt115.2.1 = true then (if bt115.1 = 3 then (if bt121.2 = 0 then (if bt121.1 = 2 then (if bt126.2.2 = 0 then (if bt126.1 = 1 then (some (bt126.2.1 == 4)) else (some false)) else (some false)) else (some false)) else (some false)) else (some false)) else (some false)) else (some false)) else (some false)) else (some false))) else (some false)))))))))
theorem trishawlaw03_alive.mono : ∀ k, LeO (trishawlaw03_alive.f k ) (trishawlaw03_alive.f (k + 1) ) := by
  intro  k
  unfold trishawlaw03_alive.f
  repeat' first
      | (with_reducible exact branch_Branching.mono _ _ _)
      | (with_reducible exact branch_Count.mono _ _ _)
      | (with_reducible exact branch_Narrow.mono _ _ _)
      | (with_reducible exact branch_Proves.mono _ _ _ _)
      | (with_reducible exact trishawlaw03_same.mono _ _ _)
      | (with_reducible exact LeO.refl _)
      | (with_reducible exact LeO.none _)
      | (with_reducible refine LeO.ite ?_ ?_)
      | (with_reducible refine LeO.bind ?_ (fun _ => ?_))
      | exact branch_Branching.mono _ _ _
      | exact branch_Count.mono _ _ _
      | exact branch_Narrow.mono _ _ _
      | exact branch_Proves.mono _ _ _ _
      | exact trishawlaw03_same.mono _ _ _
      | exact LeO.none _
      | refine LeO.ite ?_ ?_
      | refine LeO.bind ?_ (fun _ => ?_)
theorem alive_true : trishawlaw03_alive.f 60 = some true := by kernel_rfl
theorem alive_from (k : Nat) (h : 60 ≤ k) : trishawlaw03_alive.f k = some true := by
  obtain ⟨d, rfl⟩ : ∃ d, k = 60 + d := ⟨k - 60, by omega⟩
  induction d with
  | zero => exact alive_true
  | succ d ih => exact trishawlaw03_alive.mono (60 + d) true (ih (by omega))
theorem alive_up (k : Nat) (r : Bool) (h : trishawlaw03_alive.f k = some r) (d : Nat) : trishawlaw03_alive.f (k + d) = some r := by
  induction d with
  | zero => exact h
  | succ d ih => exact trishawlaw03_alive.mono (k + d) r ih
theorem alive_only (k : Nat) (r : Bool) (h : trishawlaw03_alive.f k = some r) : r = true := by
  have h1 := alive_up k r h 60
  rw [alive_from (k + 60) (by omega)] at h1
  exact (Option.some.inj h1).symm
set_option maxHeartbeats 8000000 in
set_option maxRecDepth 100000 in
theorem trishawlaw03_alive.calls (k : Nat)  (r : Bool) (w : World) (h : trishawlaw03_alive.f k  = some r) :
    Calls Try.prog 17 #[] w fun e w' => e = .returned (.bool r) ∧ Below w.heap.size w w' := by
  have hu41 := Try.underlying41
  have HB := Aside0.mk (Below.refl w.heap.size w)
  have H : ((trishawlaw03_three.f).bind fun t101 => ((branch_Branching.f k 3 t101).bind fun bt104 => ((trishawlaw03_three.f).bind fun t109 => ((branch_Proves.f k 3 t109 (([(⟨4, 1⟩ : S41), (⟨2, 2⟩ : S41)] : List (S41)))).bind fun bt115 => ((trishawlaw03_three.f).bind fun t118 => ((branch_Count.f k 3 t118).bind fun bt121 => ((trishawlaw03_three.f).bind fun t123 => ((branch_Narrow.f k 3 t123).bind fun bt126 => (if bt104.2.2 = 0 then ((trishawlaw03_same.f k bt104.1 (([1, 2] : List Int))).bind fun t132 => (if t132 = true then (if bt104.2.1 = 3 then (if bt115.2.2 = 0 then (if bt115.2.1 = true then (if bt115.1 = 3 then (if bt121.2 = 0 then (if bt121.1 = 2 then (if bt126.2.2 = 0 then (if bt126.1 = 1 then (some (bt126.2.1 == 4)) else (some false)) else (some false)) else (some false)) else (some false)) else (some false)) else (some false)) else (some false)) else (some false)) else (some false))) else (some false)))))))))) = some r := h
  have HRT := Aside0.mk (alive_only k r h)
  clear h
  replace H := Option.bind_eq_some_iff.mp H
  obtain ⟨t101, A10, H⟩ := H
  replace H : ((branch_Branching.f k 3 t101).bind fun bt104 => ((trishawlaw03_three.f).bind fun t109 => ((branch_Proves.f k 3 t109 (([(⟨4, 1⟩ : S41), (⟨2, 2⟩ : S41)] : List (S41)))).bind fun bt115 => ((trishawlaw03_three.f).bind fun t118 => ((branch_Count.f k 3 t118).bind fun bt121 => ((trishawlaw03_three.f).bind fun t123 => ((branch_Narrow.f k 3 t123).bind fun bt126 => (if bt104.2.2 = 0 then ((trishawlaw03_same.f k bt104.1 (([1, 2] : List Int))).bind fun t132 => (if t132 = true then (if bt104.2.1 = 3 then (if bt115.2.2 = 0 then (if bt115.2.1 = true then (if bt115.1 = 3 then (if bt121.2 = 0 then (if bt121.1 = 2 then (if bt126.2.2 = 0 then (if bt126.1 = 1 then (some (bt126.2.1 == 4)) else (some false)) else (some false)) else (some false)) else (some false)) else (some false)) else (some false)) else (some false)) else (some false)) else (some false))) else (some false))))))))) = some r := H
  have A1 := Aside0.mk A10
  clear A10
  replace H := Option.bind_eq_some_iff.mp H
  obtain ⟨⟨t104, t105, t106⟩, A20, H⟩ := H
  replace H : ((trishawlaw03_three.f).bind fun t109 => ((branch_Proves.f k 3 t109 (([(⟨4, 1⟩ : S41), (⟨2, 2⟩ : S41)] : List (S41)))).bind fun bt115 => ((trishawlaw03_three.f).bind fun t118 => ((branch_Count.f k 3 t118).bind fun bt121 => ((trishawlaw03_three.f).bind fun t123 => ((branch_Narrow.f k 3 t123).bind fun bt126 => (if t106 = 0 then ((trishawlaw03_same.f k t104 (([1, 2] : List Int))).bind fun t132 => (if t132 = true then (if t105 = 3 then (if bt115.2.2 = 0 then (if bt115.2.1 = true then (if bt115.1 = 3 then (if bt121.2 = 0 then (if bt121.1 = 2 then (if bt126.2.2 = 0 then (if bt126.1 = 1 then (some (bt126.2.1 == 4)) else (some false)) else (some false)) else (some false)) else (some false)) else (some false)) else (some false)) else (some false)) else (some false)) else (some false))) else (some false)))))))) = some r := H
  have A2 := Aside0.mk A20
  clear A20
  replace H := Option.bind_eq_some_iff.mp H
  obtain ⟨t109, A30, H⟩ := H
  replace H : ((branch_Proves.f k 3 t109 (([(⟨4, 1⟩ : S41), (⟨2, 2⟩ : S41)] : List (S41)))).bind fun bt115 => ((trishawlaw03_three.f).bind fun t118 => ((branch_Count.f k 3 t118).bind fun bt121 => ((trishawlaw03_three.f).bind fun t123 => ((branch_Narrow.f k 3 t123).bind fun bt126 => (if t106 = 0 then ((trishawlaw03_same.f k t104 (([1, 2] : List Int))).bind fun t132 => (if t132 = true then (if t105 = 3 then (if bt115.2.2 = 0 then (if bt115.2.1 = true then (if bt115.1 = 3 then (if bt121.2 = 0 then (if bt121.1 = 2 then (if bt126.2.2 = 0 then (if bt126.1 = 1 then (some (bt126.2.1 == 4)) else (some false)) else (some false)) else (some false)) else (some false)) else (some false)) else (some false)) else (some false)) else (some false)) else (some false))) else (some false))))))) = some r := H
  have A3 := Aside0.mk A30
  clear A30
  obtain ⟨y112, hy112⟩ : ∃ y_ : List (S41), y_ = (([(⟨4, 1⟩ : S41), (⟨2, 2⟩ : S41)] : List (S41))) := ⟨_, rfl⟩
  replace H : ((branch_Proves.f k 3 t109 y112).bind fun bt115 => ((trishawlaw03_three.f).bind fun t118 => ((branch_Count.f k 3 t118).bind fun bt121 => ((trishawlaw03_three.f).bind fun t123 => ((branch_Narrow.f k 3 t123).bind fun bt126 => (if t106 = 0 then ((trishawlaw03_same.f k t104 (([1, 2] : List Int))).bind fun t132 => (if t132 = true then (if t105 = 3 then (if bt115.2.2 = 0 then (if bt115.2.1 = true then (if bt115.1 = 3 then (if bt121.2 = 0 then (if bt121.1 = 2 then (if bt126.2.2 = 0 then (if bt126.1 = 1 then (some (bt126.2.1 == 4)) else (some false)) else (some false)) else (some false)) else (some false)) else (some false)) else (some false)) else (some false)) else (some false)) else (some false))) else (some false))))))) = some r := by first | (rw [hy112]; with_reducible exact H) | (have H2_ := (Option.bind_some _ _).symm.trans H; rw [hy112]; with_reducible exact H2_) | (have H2_ := (Option.bind_some _ _).symm.trans H; with_reducible exact H2_) | with_reducible exact H | (rw [hy112]; exact H) | exact H
  have Ny112 := Aside0.mk hy112
  clear hy112
  replace H := Option.bind_eq_some_iff.mp H
  obtain ⟨⟨t115, t116, t117⟩, A40, H⟩ := H
  replace H : ((trishawlaw03_three.f).bind fun t118 => ((branch_Count.f k 3 t118).bind fun bt121 => ((trishawlaw03_three.f).bind fun t123 => ((branch_Narrow.f k 3 t123).bind fun bt126 => (if t106 = 0 then ((trishawlaw03_same.f k t104 (([1, 2] : List Int))).bind fun t132 => (if t132 = true then (if t105 = 3 then (if t117 = 0 then (if t116 = true then (if t115 = 3 then (if bt121.2 = 0 then (if bt121.1 = 2 then (if bt126.2.2 = 0 then (if bt126.1 = 1 then (some (bt126.2.1 == 4)) else (some false)) else (some false)) else (some false)) else (some false)) else (some false)) else (some false)) else (some false)) else (some false)) else (some false))) else (some false)))))) = some r := H
  have A4 := Aside0.mk A40
  clear A40
  replace H := Option.bind_eq_some_iff.mp H
  obtain ⟨t118, A50, H⟩ := H
  replace H : ((branch_Count.f k 3 t118).bind fun bt121 => ((trishawlaw03_three.f).bind fun t123 => ((branch_Narrow.f k 3 t123).bind fun bt126 => (if t106 = 0 then ((trishawlaw03_same.f k t104 (([1, 2] : List Int))).bind fun t132 => (if t132 = true then (if t105 = 3 then (if t117 = 0 then (if t116 = true then (if t115 = 3 then (if bt121.2 = 0 then (if bt121.1 = 2 then (if bt126.2.2 = 0 then (if bt126.1 = 1 then (some (bt126.2.1 == 4)) else (some false)) else (some false)) else (some false)) else (some false)) else (some false)) else (some false)) else (some false)) else (some false)) else (some false))) else (some false))))) = some r := H
  have A5 := Aside0.mk A50
  clear A50
  replace H := Option.bind_eq_some_iff.mp H
  obtain ⟨⟨t121, t122⟩, A60, H⟩ := H
  replace H : ((trishawlaw03_three.f).bind fun t123 => ((branch_Narrow.f k 3 t123).bind fun bt126 => (if t106 = 0 then ((trishawlaw03_same.f k t104 (([1, 2] : List Int))).bind fun t132 => (if t132 = true then (if t105 = 3 then (if t117 = 0 then (if t116 = true then (if t115 = 3 then (if t122 = 0 then (if t121 = 2 then (if bt126.2.2 = 0 then (if bt126.1 = 1 then (some (bt126.2.1 == 4)) else (some false)) else (some false)) else (some false)) else (some false)) else (some false)) else (some false)) else (some false)) else (some false)) else (some false))) else (some false)))) = some r := H
  have A6 := Aside0.mk A60
  clear A60
  replace H := Option.bind_eq_some_iff.mp H
  obtain ⟨t123, A70, H⟩ := H
  replace H : ((branch_Narrow.f k 3 t123).bind fun bt126 => (if t106 = 0 then ((trishawlaw03_same.f k t104 (([1, 2] : List Int))).bind fun t132 => (if t132 = true then (if t105 = 3 then (if t117 = 0 then (if t116 = true then (if t115 = 3 then (if t122 = 0 then (if t121 = 2 then (if bt126.2.2 = 0 then (if bt126.1 = 1 then (some (bt126.2.1 == 4)) else (some false)) else (some false)) else (some false)) else (some false)) else (some false)) else (some false)) else (some false)) else (some false)) else (some false))) else (some false))) = some r := H
  have A7 := Aside0.mk A70
  clear A70
  replace H := Option.bind_eq_some_iff.mp H
  obtain ⟨⟨t126, t127, t128⟩, A80, H⟩ := H
  replace H : (if t106 = 0 then ((trishawlaw03_same.f k t104 (([1, 2] : List Int))).bind fun t132 => (if t132 = true then (if t105 = 3 then (if t117 = 0 then (if t116 = true then (if t115 = 3 then (if t122 = 0 then (if t121 = 2 then (if t128 = 0 then (if t126 = 1 then (some (t127 == 4)) else (some false)) else (some false)) else (some false)) else (some false)) else (some false)) else (some false)) else (some false)) else (some false)) else (some false))) else (some false)) = some r := H
  have A8 := Aside0.mk A80
  clear A80
  by_cases c9 : t106 = 0
  · rw [if_pos c9] at H
    have c9b0 : (t106 == 0) = true := beq_iff_eq.mpr c9
    have c9b1 : (t106 != 0) = false := bne_eq_false_iff_eq.mpr c9
    clear c9
    obtain ⟨y129, hy129⟩ : ∃ y_ : List Int, y_ = (([1, 2] : List Int)) := ⟨_, rfl⟩
    replace H : ((trishawlaw03_same.f k t104 y129).bind fun t132 => (if t132 = true then (if t105 = 3 then (if t117 = 0 then (if t116 = true then (if t115 = 3 then (if t122 = 0 then (if t121 = 2 then (if t128 = 0 then (if t126 = 1 then (some (t127 == 4)) else (some false)) else (some false)) else (some false)) else (some false)) else (some false)) else (some false)) else (some false)) else (some false)) else (some false))) = some r := by first | (rw [hy129]; with_reducible exact H) | (have H2_ := (Option.bind_some _ _).symm.trans H; rw [hy129]; with_reducible exact H2_) | (have H2_ := (Option.bind_some _ _).symm.trans H; with_reducible exact H2_) | with_reducible exact H | (rw [hy129]; exact H) | exact H
    have Ny129 := Aside0.mk hy129
    clear hy129
    replace H := Option.bind_eq_some_iff.mp H
    obtain ⟨t132, A100, H⟩ := H
    replace H : (if t132 = true then (if t105 = 3 then (if t117 = 0 then (if t116 = true then (if t115 = 3 then (if t122 = 0 then (if t121 = 2 then (if t128 = 0 then (if t126 = 1 then (some (t127 == 4)) else (some false)) else (some false)) else (some false)) else (some false)) else (some false)) else (some false)) else (some false)) else (some false)) else (some false)) = some r := H
    have A10 := Aside0.mk A100
    clear A100
    by_cases c11 : t132 = true
    · subst c11
      have H1 : (if t105 = 3 then (if t117 = 0 then (if t116 = true then (if t115 = 3 then (if t122 = 0 then (if t121 = 2 then (if t128 = 0 then (if t126 = 1 then (some (t127 == 4)) else (some false)) else (some false)) else (some false)) else (some false)) else (some false)) else (some false)) else (some false)) else (some false)) = some r := by rw [if_pos rfl] at H; exact H
      clear H
      have H := H1
      clear H1
      by_cases c12 : t105 = 3
      · rw [if_pos c12] at H
        have c12b0 : (t105 == 3) = true := beq_iff_eq.mpr c12
        have c12b1 : (t105 != 3) = false := bne_eq_false_iff_eq.mpr c12
        clear c12
        by_cases c13 : t117 = 0
        · rw [if_pos c13] at H
          have c13b0 : (t117 == 0) = true := beq_iff_eq.mpr c13
          have c13b1 : (t117 != 0) = false := bne_eq_false_iff_eq.mpr c13
          clear c13
          by_cases c14 : t116 = true
          · subst c14
            have H1 : (if t115 = 3 then (if t122 = 0 then (if t121 = 2 then (if t128 = 0 then (if t126 = 1 then (some (t127 == 4)) else (some false)) else (some false)) else (some false)) else (some false)) else (some false)) = some r := by rw [if_pos rfl] at H; exact H
            clear H
            have H := H1
            clear H1
            by_cases c15 : t115 = 3
            · rw [if_pos c15] at H
              have c15b0 : (t115 == 3) = true := beq_iff_eq.mpr c15
              have c15b1 : (t115 != 3) = false := bne_eq_false_iff_eq.mpr c15
              clear c15
              by_cases c16 : t122 = 0
              · rw [if_pos c16] at H
                have c16b0 : (t122 == 0) = true := beq_iff_eq.mpr c16
                have c16b1 : (t122 != 0) = false := bne_eq_false_iff_eq.mpr c16
                clear c16
                by_cases c17 : t121 = 2
                · rw [if_pos c17] at H
                  have c17b0 : (t121 == 2) = true := beq_iff_eq.mpr c17
                  have c17b1 : (t121 != 2) = false := bne_eq_false_iff_eq.mpr c17
                  clear c17
                  by_cases c18 : t128 = 0
                  · rw [if_pos c18] at H
                    have c18b0 : (t128 == 0) = true := beq_iff_eq.mpr c18
                    have c18b1 : (t128 != 0) = false := bne_eq_false_iff_eq.mpr c18
                    clear c18
                    by_cases c19 : t126 = 1
                    · rw [if_pos c19] at H
                      have c19b0 : (t126 == 1) = true := beq_iff_eq.mpr c19
                      have c19b1 : (t126 != 1) = false := bne_eq_false_iff_eq.mpr c19
                      clear c19
                      obtain rfl := Option.some.inj H
                      go_enter Try.func17, Try.ntmps17
                      go_wp2_with (first | ((with_reducible refine gate_callee (f := 43) rfl ?_); refine goesL_ (some 13) rfl rfl Try.func43 (by kernel_rfl) rfl #[] rfl (by (try simp only [List.map_toArray, List.map_cons, List.map_nil]); first | done | rfl | (simp only [List.length_drop, List.length_take]; rfl)) ?_; (with_reducible refine (trishawlaw03_three.calls  t101 _ A1.out).mono ?_); rintro e w20 ⟨v102, rfl, ho0, hb⟩; refine ⟨_, rfl, ?_⟩; have n0_ := Aside0.mk (Kd.R_lower ho0 (below_size (by repeat (first | (with_reducible first | exact HB.out | apply below_alloc | apply pw_below_drewN | apply below_drew1) | exact HB.out)))); have n1_ := Aside0.mk (below_step (by repeat (first | (with_reducible first | exact HB.out | apply below_alloc | apply pw_below_drewN | apply below_drew1) | exact HB.out)) hb); clear HB; have HO103 := n0_; have HB := n1_; clear n0_ n1_; (try clear hb); (try clear hb2); (try clear hk); (try clear hi); (try clear ho0); obtain ⟨Ao21, co21, eo21⟩ := Kd.R_slice HO103.out; subst eo21) | ((with_reducible refine gate_callee (f := 24) rfl ?_); refine goesL_ (some 14) rfl rfl Try.func24 (by kernel_rfl) rfl #[.int .i64 3, .slice Ao21 t101.length co21] rfl (by (try simp only [List.map_toArray, List.map_cons, List.map_nil]); first | done | rfl | (simp only [List.length_drop, List.length_take]; rfl)) ?_; (with_reducible refine (branch_Branching.calls k 3 _ _ t101 t104 t105 t106 _ ?side1 ?side2 A2.out).mono ?_); (case side1 => repeat (first | exact (Kd.R_reads' HO103.out).2.2 | (with_reducible refine Kd.C_alloc ?_ _) | (with_reducible refine Kd.C_drewN ?_ _) | (with_reducible refine Kd.C_drew ?_))); (case side2 => exact (Kd.R_reads' HO103.out).2.1); rintro e w22 ⟨v107, rfl, ho0, hb⟩; refine ⟨_, rfl, ?_⟩; have n0_ := Aside0.mk (Kd.R_below (by (with_reducible repeat (first | apply Kd.R_alloc | apply Kd.R_drewN | apply Kd.R_drew)); exact HO103.out) hb); have n1_ := Aside0.mk (Kd.R_lower ho0 (below_size (by repeat (first | (with_reducible first | exact HB.out | apply below_alloc | apply pw_below_drewN | apply below_drew1) | exact HB.out)))); have n2_ := Aside0.mk (below_step (by repeat (first | (with_reducible first | exact HB.out | apply below_alloc | apply pw_below_drewN | apply below_drew1) | exact HB.out)) hb); clear HO103; clear HB; have HO103 := n0_; have HO108 := n1_; have HB := n2_; clear n0_ n1_ n2_; (try clear hb); (try clear hb2); (try clear hk); (try clear hi); (try clear ho0)) | ((with_reducible refine gate_callee (f := 43) rfl ?_); refine goesL_ (some 19) rfl rfl Try.func43 (by kernel_rfl) rfl #[] rfl (by (try simp only [List.map_toArray, List.map_cons, List.map_nil]); first | done | rfl | (simp only [List.length_drop, List.length_take]; rfl)) ?_; (with_reducible refine (trishawlaw03_three.calls  t109 _ A3.out).mono ?_); rintro e w23 ⟨v110, rfl, ho0, hb⟩; refine ⟨_, rfl, ?_⟩; have n0_ := Aside0.mk (Kd.R_elder' (by (with_reducible repeat (first | apply Kd.R_alloc | apply Kd.R_drewN | apply Kd.R_drew)); exact HO103.out) (Kd.R_base ho0) hb); have n1_ := Aside0.mk (Kd.R_below (by (with_reducible repeat (first | apply Kd.R_alloc | apply Kd.R_drewN | apply Kd.R_drew)); exact HO108.out) hb); have n2_ := Aside0.mk (Kd.R_lower (Kd.R_new' ho0 (Kd.R_lt (by (with_reducible repeat (first | apply Kd.R_alloc | apply Kd.R_drewN | apply Kd.R_drew)); exact HO103.out))) (below_size (by repeat (first | (with_reducible first | exact HB.out | apply below_alloc | apply pw_below_drewN | apply below_drew1) | exact HB.out)))); have n3_ := Aside0.mk (below_step (by repeat (first | (with_reducible first | exact HB.out | apply below_alloc | apply pw_below_drewN | apply below_drew1) | exact HB.out)) hb); clear HO103; clear HO108; clear HB; have HO103 := n0_; have HO108 := n1_; have HO111 := n2_; have HB := n3_; clear n0_ n1_ n2_ n3_; (try clear hb); (try clear hb2); (try clear hk); (try clear hi); (try clear ho0)) | ((with_reducible refine gate_dst (N := 22) rfl ?_); (try (refine gate_guard (by rfl) ?_; dsimp only)); refine Kd.R_lit k41 _ 41 ?hg (N := 22) ?hd (xs := ([(⟨4, 1⟩ : S41), (⟨2, 2⟩ : S41)] : List (S41))) (inner := [.int .i64 4, .int .i64 1, .int .i64 2, .int .i64 2]) (ok := fun _ => True) (okp := fun _ => True) ?hr ?hp (fun _ hk => hk) trivial (Below.refl _ _) (Nat.le_refl _) (by simp) ?_; (case hd => rfl); (case hg => rfl); (case hr => first | (go_simp; done) | (go_simp; rfl)); (case hp => exact (Reps.c2 (show Kd.M k41 _ _ _ (⟨4, 1⟩ : S41) [.int .i64 4, .int .i64 1] from (k41_mkM _ _ _ (⟨4, 1⟩ : S41) )) (Reps.c2 (show Kd.M k41 _ _ _ (⟨2, 2⟩ : S41) [.int .i64 2, .int .i64 2] from (k41_mkM _ _ _ (⟨2, 2⟩ : S41) )) (Reps.none _ _)))); intro v113 w24 ho25 hb hg_ hnew_; clear hg_ hnew_; (first | rw [← Ny112.out] at ho25 | (simp only [Int.reduceToNat] at ho25; rw [← Ny112.out] at ho25)); have n0_ := Aside0.mk (Kd.R_below (by (with_reducible repeat (first | apply Kd.R_alloc | apply Kd.R_drewN | apply Kd.R_drew)); exact HO103.out) hb); have n1_ := Aside0.mk (Kd.R_below (by (with_reducible repeat (first | apply Kd.R_alloc | apply Kd.R_drewN | apply Kd.R_drew)); exact HO108.out) hb); have n2_ := Aside0.mk (Kd.R_below (by (with_reducible repeat (first | apply Kd.R_alloc | apply Kd.R_drewN | apply Kd.R_drew)); exact HO111.out) hb); have n3_ := Aside0.mk (Kd.R_lower ho25 (below_size (by repeat (first | (with_reducible first | exact HB.out | apply below_alloc | apply pw_below_drewN | apply below_drew1) | exact HB.out)))); have n4_ := Aside0.mk (below_step (by repeat (first | (with_reducible first | exact HB.out | apply below_alloc | apply pw_below_drewN | apply below_drew1) | exact HB.out)) hb); clear HO103; clear HO108; clear HO111; clear HB; have HO103 := n0_; have HO108 := n1_; have HO111 := n2_; have HO114 := n3_; have HB := n4_; clear n0_ n1_ n2_ n3_ n4_; clear hb ho25; obtain ⟨Ao26, co26, eo26⟩ := Kd.R_slice HO111.out; subst eo26; obtain ⟨Ao27, co27, eo27⟩ := Kd.R_slice HO114.out; subst eo27) | ((with_reducible refine gate_callee (f := 37) rfl ?_); refine goesL_ (some 23) rfl rfl Try.func37 (by kernel_rfl) rfl #[.int .i64 3, .slice Ao26 t109.length co26, .slice Ao27 y112.length co27] rfl (by (try simp only [List.map_toArray, List.map_cons, List.map_nil]); first | done | rfl | (simp only [List.length_drop, List.length_take]; rfl)) ?_; (with_reducible refine (branch_Proves.calls k 3 _ _ t109 _ _ y112 t115 true t117 _ ?side1 ?side2 ?side3 ?side4 A4.out).mono ?_); (case side1 => repeat (first | exact (Kd.R_reads' HO111.out).2.2 | (with_reducible refine Kd.C_alloc ?_ _) | (with_reducible refine Kd.C_drewN ?_ _) | (with_reducible refine Kd.C_drew ?_))); (case side2 => exact (Kd.R_reads' HO111.out).2.1); (case side3 => repeat (first | exact (Kd.R_reads' HO114.out).2.2 | (with_reducible refine Kd.C_alloc ?_ _) | (with_reducible refine Kd.C_drewN ?_ _) | (with_reducible refine Kd.C_drew ?_))); (case side4 => exact (Kd.R_reads' HO114.out).2.1); rintro e w28 ⟨rfl, hb⟩; refine ⟨_, rfl, ?_⟩; have n0_ := Aside0.mk (Kd.R_below (by (with_reducible repeat (first | apply Kd.R_alloc | apply Kd.R_drewN | apply Kd.R_drew)); exact HO103.out) hb); have n1_ := Aside0.mk (Kd.R_below (by (with_reducible repeat (first | apply Kd.R_alloc | apply Kd.R_drewN | apply Kd.R_drew)); exact HO108.out) hb); have n2_ := Aside0.mk (Kd.R_below (by (with_reducible repeat (first | apply Kd.R_alloc | apply Kd.R_drewN | apply Kd.R_drew)); exact HO111.out) hb); have n3_ := Aside0.mk (Kd.R_below (by (with_reducible repeat (first | apply Kd.R_alloc | apply Kd.R_drewN | apply Kd.R_drew)); exact HO114.out) hb); have n4_ := Aside0.mk (below_step (by repeat (first | (with_reducible first | exact HB.out | apply below_alloc | apply pw_below_drewN | apply below_drew1) | exact HB.out)) hb); clear HO103; clear HO108; clear HO111; clear HO114; clear HB; have HO103 := n0_; have HO108 := n1_; have HO111 := n2_; have HO114 := n3_; have HB := n4_; clear n0_ n1_ n2_ n3_ n4_; (try clear hb); (try clear hb2); (try clear hk); (try clear hi)) | ((with_reducible refine gate_callee (f := 43) rfl ?_); refine goesL_ (some 28) rfl rfl Try.func43 (by kernel_rfl) rfl #[] rfl (by (try simp only [List.map_toArray, List.map_cons, List.map_nil]); first | done | rfl | (simp only [List.length_drop, List.length_take]; rfl)) ?_; (with_reducible refine (trishawlaw03_three.calls  t118 _ A5.out).mono ?_); rintro e w29 ⟨v119, rfl, ho0, hb⟩; refine ⟨_, rfl, ?_⟩; have n0_ := Aside0.mk (Kd.R_elder' (by (with_reducible repeat (first | apply Kd.R_alloc | apply Kd.R_drewN | apply Kd.R_drew)); exact HO103.out) (Kd.R_base ho0) hb); have n1_ := Aside0.mk (Kd.R_below (by (with_reducible repeat (first | apply Kd.R_alloc | apply Kd.R_drewN | apply Kd.R_drew)); exact HO108.out) hb); have n2_ := Aside0.mk (Kd.R_elder' (by (with_reducible repeat (first | apply Kd.R_alloc | apply Kd.R_drewN | apply Kd.R_drew)); exact HO111.out) (Kd.R_base ho0) hb); have n3_ := Aside0.mk (Kd.R_below (by (with_reducible repeat (first | apply Kd.R_alloc | apply Kd.R_drewN | apply Kd.R_drew)); exact HO114.out) hb); have n4_ := Aside0.mk (Kd.R_lower (Kd.R_new' (Kd.R_new' ho0 (Kd.R_lt (by (with_reducible repeat (first | apply Kd.R_alloc | apply Kd.R_drewN | apply Kd.R_drew)); exact HO103.out))) (Kd.R_lt (by (with_reducible repeat (first | apply Kd.R_alloc | apply Kd.R_drewN | apply Kd.R_drew)); exact HO111.out))) (below_size (by repeat (first | (with_reducible first | exact HB.out | apply below_alloc | apply pw_below_drewN | apply below_drew1) | exact HB.out)))); have n5_ := Aside0.mk (below_step (by repeat (first | (with_reducible first | exact HB.out | apply below_alloc | apply pw_below_drewN | apply below_drew1) | exact HB.out)) hb); clear HO103; clear HO108; clear HO111; clear HO114; clear HB; have HO103 := n0_; have HO108 := n1_; have HO111 := n2_; have HO114 := n3_; have HO120 := n4_; have HB := n5_; clear n0_ n1_ n2_ n3_ n4_ n5_; (try clear hb); (try clear hb2); (try clear hk); (try clear hi); (try clear ho0); obtain ⟨Ao30, co30, eo30⟩ := Kd.R_slice HO120.out; subst eo30) | ((with_reducible refine gate_callee (f := 18) rfl ?_); refine goesL_ (some 29) rfl rfl Try.func18 (by kernel_rfl) rfl #[.int .i64 3, .slice Ao30 t118.length co30] rfl (by (try simp only [List.map_toArray, List.map_cons, List.map_nil]); first | done | rfl | (simp only [List.length_drop, List.length_take]; rfl)) ?_; (with_reducible refine (branch_Count.calls k 3 _ _ t118 t121 t122 _ ?side1 ?side2 A6.out).mono ?_); (case side1 => repeat (first | exact (Kd.R_reads' HO120.out).2.2 | (with_reducible refine Kd.C_alloc ?_ _) | (with_reducible refine Kd.C_drewN ?_ _) | (with_reducible refine Kd.C_drew ?_))); (case side2 => exact (Kd.R_reads' HO120.out).2.1); rintro e w31 ⟨rfl, hb⟩; refine ⟨_, rfl, ?_⟩; have n0_ := Aside0.mk (Kd.R_below (by (with_reducible repeat (first | apply Kd.R_alloc | apply Kd.R_drewN | apply Kd.R_drew)); exact HO103.out) hb); have n1_ := Aside0.mk (Kd.R_below (by (with_reducible repeat (first | apply Kd.R_alloc | apply Kd.R_drewN | apply Kd.R_drew)); exact HO108.out) hb); have n2_ := Aside0.mk (Kd.R_below (by (with_reducible repeat (first | apply Kd.R_alloc | apply Kd.R_drewN | apply Kd.R_drew)); exact HO111.out) hb); have n3_ := Aside0.mk (Kd.R_below (by (with_reducible repeat (first | apply Kd.R_alloc | apply Kd.R_drewN | apply Kd.R_drew)); exact HO114.out) hb); have n4_ := Aside0.mk (Kd.R_below (by (with_reducible repeat (first | apply Kd.R_alloc | apply Kd.R_drewN | apply Kd.R_drew)); exact HO120.out) hb); have n5_ := Aside0.mk (below_step (by repeat (first | (with_reducible first | exact HB.out | apply below_alloc | apply pw_below_drewN | apply below_drew1) | exact HB.out)) hb); clear HO103; clear HO108; clear HO111; clear HO114; clear HO120; clear HB; have HO103 := n0_; have HO108 := n1_; have HO111 := n2_; have HO114 := n3_; have HO120 := n4_; have HB := n5_; clear n0_ n1_ n2_ n3_ n4_ n5_; (try clear hb); (try clear hb2); (try clear hk); (try clear hi)) | ((with_reducible refine gate_callee (f := 43) rfl ?_); refine goesL_ (some 33) rfl rfl Try.func43 (by kernel_rfl) rfl #[] rfl (by (try simp only [List.map_toArray, List.map_cons, List.map_nil]); first | done | rfl | (simp only [List.length_drop, List.length_take]; rfl)) ?_; (with_reducible refine (trishawlaw03_three.calls  t123 _ A7.out).mono ?_); rintro e w32 ⟨v124, rfl, ho0, hb⟩; refine ⟨_, rfl, ?_⟩; have n0_ := Aside0.mk (Kd.R_elder' (by (with_reducible repeat (first | apply Kd.R_alloc | apply Kd.R_drewN | apply Kd.R_drew)); exact HO103.out) (Kd.R_base ho0) hb); have n1_ := Aside0.mk (Kd.R_below (by (with_reducible repeat (first | apply Kd.R_alloc | apply Kd.R_drewN | apply Kd.R_drew)); exact HO108.out) hb); have n2_ := Aside0.mk (Kd.R_elder' (by (with_reducible repeat (first | apply Kd.R_alloc | apply Kd.R_drewN | apply Kd.R_drew)); exact HO111.out) (Kd.R_base ho0) hb); have n3_ := Aside0.mk (Kd.R_below (by (with_reducible repeat (first | apply Kd.R_alloc | apply Kd.R_drewN | apply Kd.R_drew)); exact HO114.out) hb); have n4_ := Aside0.mk (Kd.R_elder' (by (with_reducible repeat (first | apply Kd.R_alloc | apply Kd.R_drewN | apply Kd.R_drew)); exact HO120.out) (Kd.R_base ho0) hb); have n5_ := Aside0.mk (Kd.R_lower (Kd.R_new' (Kd.R_new' (Kd.R_new' ho0 (Kd.R_lt (by (with_reducible repeat (first | apply Kd.R_alloc | apply Kd.R_drewN | apply Kd.R_drew)); exact HO103.out))) (Kd.R_lt (by (with_reducible repeat (first | apply Kd.R_alloc | apply Kd.R_drewN | apply Kd.R_drew)); exact HO111.out))) (Kd.R_lt (by (with_reducible repeat (first | apply Kd.R_alloc | apply Kd.R_drewN | apply Kd.R_drew)); exact HO120.out))) (below_size (by repeat (first | (with_reducible first | exact HB.out | apply below_alloc | apply pw_below_drewN | apply below_drew1) | exact HB.out)))); have n6_ := Aside0.mk (below_step (by repeat (first | (with_reducible first | exact HB.out | apply below_alloc | apply pw_below_drewN | apply below_drew1) | exact HB.out)) hb); clear HO103; clear HO108; clear HO111; clear HO114; clear HO120; clear HB; have HO103 := n0_; have HO108 := n1_; have HO111 := n2_; have HO114 := n3_; have HO120 := n4_; have HO125 := n5_; have HB := n6_; clear n0_ n1_ n2_ n3_ n4_ n5_ n6_; (try clear hb); (try clear hb2); (try clear hk); (try clear hi); (try clear ho0); obtain ⟨Ao33, co33, eo33⟩ := Kd.R_slice HO125.out; subst eo33) | ((with_reducible refine gate_callee (f := 30) rfl ?_); refine goesL_ (some 34) rfl rfl Try.func30 (by kernel_rfl) rfl #[.int .i64 3, .slice Ao33 t123.length co33] rfl (by (try simp only [List.map_toArray, List.map_cons, List.map_nil]); first | done | rfl | (simp only [List.length_drop, List.length_take]; rfl)) ?_; (with_reducible refine (branch_Narrow.calls k 3 _ _ t123 t126 t127 t128 _ ?side1 ?side2 A8.out).mono ?_); (case side1 => repeat (first | exact (Kd.R_reads' HO125.out).2.2 | (with_reducible refine Kd.C_alloc ?_ _) | (with_reducible refine Kd.C_drewN ?_ _) | (with_reducible refine Kd.C_drew ?_))); (case side2 => exact (Kd.R_reads' HO125.out).2.1); rintro e w34 ⟨rfl, hb⟩; refine ⟨_, rfl, ?_⟩; have n0_ := Aside0.mk (Kd.R_below (by (with_reducible repeat (first | apply Kd.R_alloc | apply Kd.R_drewN | apply Kd.R_drew)); exact HO103.out) hb); have n1_ := Aside0.mk (Kd.R_below (by (with_reducible repeat (first | apply Kd.R_alloc | apply Kd.R_drewN | apply Kd.R_drew)); exact HO108.out) hb); have n2_ := Aside0.mk (Kd.R_below (by (with_reducible repeat (first | apply Kd.R_alloc | apply Kd.R_drewN | apply Kd.R_drew)); exact HO111.out) hb); have n3_ := Aside0.mk (Kd.R_below (by (with_reducible repeat (first | apply Kd.R_alloc | apply Kd.R_drewN | apply Kd.R_drew)); exact HO114.out) hb); have n4_ := Aside0.mk (Kd.R_below (by (with_reducible repeat (first | apply Kd.R_alloc | apply Kd.R_drewN | apply Kd.R_drew)); exact HO120.out) hb); have n5_ := Aside0.mk (Kd.R_below (by (with_reducible repeat (first | apply Kd.R_alloc | apply Kd.R_drewN | apply Kd.R_drew)); exact HO125.out) hb); have n6_ := Aside0.mk (below_step (by repeat (first | (with_reducible first | exact HB.out | apply below_alloc | apply pw_below_drewN | apply below_drew1) | exact HB.out)) hb); clear HO103; clear HO108; clear HO111; clear HO114; clear HO120; clear HO125; clear HB; have HO103 := n0_; have HO108 := n1_; have HO111 := n2_; have HO114 := n3_; have HO120 := n4_; have HO125 := n5_; have HB := n6_; clear n0_ n1_ n2_ n3_ n4_ n5_ n6_; (try clear hb); (try clear hb2); (try clear hk); (try clear hi)) | ((with_reducible refine gate_dst (N := 42) rfl ?_); (try (refine gate_guard (by rfl) ?_; dsimp only)); refine Kd.R_lit (Kd.int .i64) _ 3 ?hg (N := 42) ?hd (xs := ([1, 2] : List Int)) (inner := [.int .i64 1, .int .i64 2]) (ok := fun _ => True) (okp := fun _ => True) ?hr ?hp (fun _ hk => hk) trivial (Below.refl _ _) (Nat.le_refl _) (by simp) ?_; (case hd => rfl); (case hg => rfl); (case hr => first | (go_simp; done) | (go_simp; rfl)); (case hp => exact (Reps.one (show Kd.M (Kd.int .i64) _ _ _ 1 [.int .i64 1] from rfl) (Reps.one (show Kd.M (Kd.int .i64) _ _ _ 2 [.int .i64 2] from rfl) (Reps.none _ _)))); intro v130 w35 ho36 hb hg_ hnew_; clear hg_ hnew_; (first | rw [← Ny129.out] at ho36 | (simp only [Int.reduceToNat] at ho36; rw [← Ny129.out] at ho36)); have n0_ := Aside0.mk (Kd.R_below (by (with_reducible repeat (first | apply Kd.R_alloc | apply Kd.R_drewN | apply Kd.R_drew)); exact HO103.out) hb); have n1_ := Aside0.mk (Kd.R_elder' (by (with_reducible repeat (first | apply Kd.R_alloc | apply Kd.R_drewN | apply Kd.R_drew)); exact HO108.out) (Kd.R_base ho36) hb); have n2_ := Aside0.mk (Kd.R_below (by (with_reducible repeat (first | apply Kd.R_alloc | apply Kd.R_drewN | apply Kd.R_drew)); exact HO111.out) hb); have n3_ := Aside0.mk (Kd.R_below (by (with_reducible repeat (first | apply Kd.R_alloc | apply Kd.R_drewN | apply Kd.R_drew)); exact HO114.out) hb); have n4_ := Aside0.mk (Kd.R_below (by (with_reducible repeat (first | apply Kd.R_alloc | apply Kd.R_drewN | apply Kd.R_drew)); exact HO120.out) hb); have n5_ := Aside0.mk (Kd.R_below (by (with_reducible repeat (first | apply Kd.R_alloc | apply Kd.R_drewN | apply Kd.R_drew)); exact HO125.out) hb); have n6_ := Aside0.mk (Kd.R_lower (Kd.R_new' ho36 (Kd.R_lt (by (with_reducible repeat (first | apply Kd.R_alloc | apply Kd.R_drewN | apply Kd.R_drew)); exact HO108.out))) (below_size (by repeat (first | (with_reducible first | exact HB.out | apply below_alloc | apply pw_below_drewN | apply below_drew1) | exact HB.out)))); have n7_ := Aside0.mk (below_step (by repeat (first | (with_reducible first | exact HB.out | apply below_alloc | apply pw_below_drewN | apply below_drew1) | exact HB.out)) hb); clear HO103; clear HO108; clear HO111; clear HO114; clear HO120; clear HO125; clear HB; have HO103 := n0_; have HO108 := n1_; have HO111 := n2_; have HO114 := n3_; have HO120 := n4_; have HO125 := n5_; have HO131 := n6_; have HB := n7_; clear n0_ n1_ n2_ n3_ n4_ n5_ n6_ n7_; clear hb ho36; obtain ⟨Ao37, co37, eo37⟩ := Kd.R_slice HO108.out; subst eo37; obtain ⟨Ao38, co38, eo38⟩ := Kd.R_slice HO131.out; subst eo38) | (go_at_call 25; (with_reducible refine (trishawlaw03_same.calls k _ _ t104 _ _ y129 true _ ?side1 ?side2 ?side3 ?side4 A10.out).mono ?_); (case side1 => repeat (first | exact (Kd.R_reads' HO108.out).2.2 | (with_reducible refine Kd.C_alloc ?_ _) | (with_reducible refine Kd.C_drewN ?_ _) | (with_reducible refine Kd.C_drew ?_))); (case side2 => exact (Kd.R_reads' HO108.out).2.1); (case side3 => repeat (first | exact (Kd.R_reads' HO131.out).2.2 | (with_reducible refine Kd.C_alloc ?_ _) | (with_reducible refine Kd.C_drewN ?_ _) | (with_reducible refine Kd.C_drew ?_))); (case side4 => exact (Kd.R_reads' HO131.out).2.1); rintro e w' ⟨rfl, ⟨nd, rfl⟩⟩))
                      go_ret
                      exact ⟨by first | rfl | (simp [errW_none, errW_some] <;> rfl) | (simp [*, errW_none, errW_some] <;> rfl), by repeat (first | (with_reducible first | exact HB.out | apply below_alloc | apply pw_below_drewN | apply below_drew1) | exact HB.out)⟩
                    · rw [if_neg c19] at H
                      exact absurd ((Option.some.inj H).trans HRT.out) (by decide)
                  · rw [if_neg c18] at H
                    exact absurd ((Option.some.inj H).trans HRT.out) (by decide)
                · rw [if_neg c17] at H
                  exact absurd ((Option.some.inj H).trans HRT.out) (by decide)
              · rw [if_neg c16] at H
                exact absurd ((Option.some.inj H).trans HRT.out) (by decide)
            · rw [if_neg c15] at H
              exact absurd ((Option.some.inj H).trans HRT.out) (by decide)
          · replace c14 := Bool.eq_false_iff.mpr c14
            subst c14
            have H1 : (some false) = some r := by rw [if_neg (show ¬ (false = true) by decide)] at H; exact H
            exact absurd ((Option.some.inj H1).trans HRT.out) (by decide)
        · rw [if_neg c13] at H
          exact absurd ((Option.some.inj H).trans HRT.out) (by decide)
      · rw [if_neg c12] at H
        exact absurd ((Option.some.inj H).trans HRT.out) (by decide)
    · replace c11 := Bool.eq_false_iff.mpr c11
      subst c11
      have H1 : (some false) = some r := by rw [if_neg (show ¬ (false = true) by decide)] at H; exact H
      exact absurd ((Option.some.inj H1).trans HRT.out) (by decide)
  · rw [if_neg c9] at H
    exact absurd ((Option.some.inj H).trans HRT.out) (by decide)
end Go.Proofs.Ytpmadffgdfholaa.B
namespace Go.Proofs.Ytpmadffgdfholaa.B
open Go.RowKit Go.Proofs.YtpmadffgdfholaaW.PrintWords Go.Proofs.YtpmadffgdfholaaW.PrintLast Go.Proofs.YtpmadffgdfholaaW.PrintMore
attribute [local go_sem] max2_int min2_int max_two min_two max_three min_three max_four min_four   -- for this text's walks alone
set_option linter.unusedVariables false
set_option linter.unusedSimpArgs false
mutual
def trishawlaw03_BranchCosts.j0 : Nat → Int → List (S30) → Int → Int → Bool → Option (Bool)
  | 0, _, _, _, _, _ => none
  | k + 1, x0, x1, x2, x3, x35 => if x35 = true then ((trishawlaw03_alive.f k).bind fun t103 => (some t103)) else ((branch_Branching.f k x0 x1).bind fun bt104 => ((branch_Dear.f k x0 x1).bind fun bt109 => (trishawlaw03_BranchCosts.l0 k x0 x1 x2 x3 bt104.1 bt104.2.1 bt104.2.2 bt109.1 bt109.2.1 bt109.2.2 ([] : List (S30)) 0)))
def trishawlaw03_BranchCosts.l0 : Nat → Int → List (S30) → Int → Int → List Int → Int → Int → List Int → Int → Int → List (S30) → Int → Option (Bool)
  | 0, _, _, _, _, _, _, _, _, _, _, _, _ => none
  | k + 1, x0, x1, x2, x3, x9, x10, x11, x12, x13, x14, x15, x16 => if x16 < (x1.length : Int) then (if 0 ≤ x16 then (if x15.length < 5864062014805 then (trishawlaw03_BranchCosts.l0 k x0 x1 x2 x3 x9 x10 x11 x12 x13 x14 (x15 ++ [(⟨(rd_T30 x1 x16).f0, (rd_T30 x1 x16).f1, wrap64 (1000 - ((rd_T30 x1 x16).f2))⟩ : S30)]) (wrap64 (x16 + 1))) else (none)) else (none)) else ((branch_Branching.f k x0 x15).bind fun bt120 => (if x11 = x14 then (trishawlaw03_BranchCosts.j2 k x0 x1 x2 x3 x9 x10 x11 x12 x13 bt120.1 bt120.2.1 (x11 != bt120.2.2)) else (trishawlaw03_BranchCosts.j2 k x0 x1 x2 x3 x9 x10 x11 x12 x13 bt120.1 bt120.2.1 true)))
def trishawlaw03_BranchCosts.j2 : Nat → Int → List (S30) → Int → Int → List Int → Int → Int → List Int → Int → List Int → Int → Bool → Option (Bool)
  | 0, _, _, _, _, _, _, _, _, _, _, _, _ => none
  | k + 1, x0, x1, x2, x3, x9, x10, x11, x12, x13, x17, x18, x91 => if x91 = true then (some false) else (if x11 = 0 then ((trishawlaw03_same.f k x17 x12).bind fun t126 => (if t126 = true then (if x18 = (wrap64 ((wrap64 ((wrap64 (x0 - 1)) * 1000)) - x13)) then (trishawlaw03_BranchCosts.j3 k x0 x1 x2 x3 x9 x10 x12 x13 (decide (x10 > x13))) else (trishawlaw03_BranchCosts.j3 k x0 x1 x2 x3 x9 x10 x12 x13 true)) else (trishawlaw03_BranchCosts.j3 k x0 x1 x2 x3 x9 x10 x12 x13 true))) else (if x11 = 10 then ((trishawlaw03_alive.f k).bind fun t125 => (some t125)) else (some false)))
def trishawlaw03_BranchCosts.j3 : Nat → Int → List (S30) → Int → Int → List Int → Int → List Int → Int → Bool → Option (Bool)
  | 0, _, _, _, _, _, _, _, _, _ => none
  | k + 1, x0, x1, x2, x3, x9, x10, x12, x13, x116 => if x116 = true then (some false) else (if (wrap64 (x0 - 1)) = 0 then (none) else ((trishawlaw03_dearer.f k x1 (wrap64 (1 + (Int.tmod (wrap64 (x2)) (wrap64 (x0 - 1))))) (wrap64 (Int.tmod x3 1001))).bind fun bt127 => (if bt127.2 = true then ((branch_Branching.f k x0 bt127.1).bind fun bt132 => ((branch_Dear.f k x0 bt127.1).bind fun bt137 => (if bt132.2.2 = 0 then (if bt137.2.2 = 0 then ((trishawlaw03_same.f k bt132.1 x9).bind fun t142 => (if t142 = true then (if bt132.2.1 = (wrap64 (x10 + (wrap64 (Int.tmod x3 1001)))) then ((trishawlaw03_same.f k bt137.1 x12).bind fun t143 => (if t143 = true then (if bt137.2.1 = (wrap64 (x13 + (wrap64 (Int.tmod x3 1001)))) then ((trishawlaw03_alive.f k).bind fun t144 => (some t144)) else (some false)) else (some false))) else (some false)) else (some false))) else (some false)) else (some false)))) else ((trishawlaw03_alive.f k).bind fun t131 => (some t131)))))
end
def trishawlaw03_BranchCosts.f (k : Nat) (a0 : Int) (l1 : List (S30)) (a2 : Int) (a3 : Int) : Option (Bool) := (trishawlaw03_few.f l1 ([] : List Int)).bind fun t101 => (if t101 = true then ((trishawref03_Town.f k a0 l1).bind fun t102 => (trishawlaw03_BranchCosts.j0 k a0 l1 a2 a3 (t102 != 0))) else (trishawlaw03_BranchCosts.j0 k a0 l1 a2 a3 true))
def trishawlaw03_BranchCosts.T9 : Bool × List (List Nat × List Nat) := (true, [([], []), ([], []), ([], []), ([1, 2], [1, 2]), ([3], [3]), ([4], [4]), ([], []), ([], []), ([6, 7], [6, 7]), ([8], [8]), ([9], [9]), ([], []), ([], []), ([11, 12], [11, 12]), ([13], [13]), ([14], [14]), ([15], [15]), ([5, 10, 16], [5, 10, 16]), ([17], [17]), ([0, 18], [0, 18]), ([19, 19, 0, 1, 2, 3, 4, 5, 6, 7, 8, 9, 10, 11, 12, 13, 14, 15, 16, 17, 18, 19], [0, 19])])
def trishawlaw03_BranchCosts.B9 : List Nat := [0, 0, 0, 6, 14, 30, 0, 0, 192, 448, 960, 0, 0, 6144, 14336, 30720, 63488, 131070, 262142, 524287, 1048575]
theorem trishawlaw03_BranchCosts.tab9 : rtab .any (opsOf Try.f6 9) = trishawlaw03_BranchCosts.T9 := by kernel_rfl
theorem trishawlaw03_BranchCosts.bits9 : waitsOk trishawlaw03_BranchCosts.T9.2 trishawlaw03_BranchCosts.B9 = true := by kernel_rfl
set_option maxHeartbeats 8000000 in
set_option maxRecDepth 100000 in
theorem trishawlaw03_BranchCosts.calls (k : Nat) (a0 : Int) (A1 : Option Addr) (c1 : Nat) (l1 : List (S30)) (a2 : Int) (a3 : Int) (r : Bool) (w : World) (hr1 : Kd.C k30 w A1 l1.length l1) (hc1 : l1.length ≤ c1) (h : trishawlaw03_BranchCosts.f k a0 l1 a2 a3 = some r) :
    Calls Try.prog 6 #[.int .i64 a0, .slice A1 l1.length c1, .int .u8 a2, .int .u16 a3] w fun e w' => e = .returned (.bool r) ∧ Below w.heap.size w w' := by
  have hu30 := Try.underlying30
  have HR1 := Aside0.mk hr1
  have HC1 := Aside0.mk hc1
  clear hr1 hc1
  have HB := Aside0.mk (Below.refl w.heap.size w)
  have H : ((trishawlaw03_few.f l1 ([] : List Int)).bind fun t101 => (if t101 = true then ((trishawref03_Town.f k a0 l1).bind fun t102 => (trishawlaw03_BranchCosts.j0 k a0 l1 a2 a3 (t102 != 0))) else (trishawlaw03_BranchCosts.j0 k a0 l1 a2 a3 true))) = some r := h
  clear h
  have HC5 := Aside0.mk H
  clear H
  go_enter Try.func6, Try.ntmps6
  go_upto_region 1 with (fail)
  go_cut [35] (fun v35 wc => ∃ (kq : Nat) (x35_4 : Bool), v35 = .bool x35_4 ∧ Aside0 (trishawlaw03_BranchCosts.j0 kq a0 l1 a2 a3 x35_4 = some r) ∧ Aside0 (kq ≤ k) ∧ Aside0 (Below w.heap.size w wc))
  case first =>
    have H := HC5.out
    clear HC5
    replace H := Option.bind_eq_some_iff.mp H
    obtain ⟨t101, A60, H⟩ := H
    replace H : (if t101 = true then ((trishawref03_Town.f k a0 l1).bind fun t102 => (trishawlaw03_BranchCosts.j0 k a0 l1 a2 a3 (t102 != 0))) else (trishawlaw03_BranchCosts.j0 k a0 l1 a2 a3 true)) = some r := H
    have A6 := Aside0.mk A60
    clear A60
    by_cases c7 : t101 = true
    · subst c7
      have H1 : ((trishawref03_Town.f k a0 l1).bind fun t102 => (trishawlaw03_BranchCosts.j0 k a0 l1 a2 a3 (t102 != 0))) = some r := by rw [if_pos rfl] at H; exact H
      clear H
      have H := H1
      clear H1
      replace H := Option.bind_eq_some_iff.mp H
      obtain ⟨t102, A80, H⟩ := H
      replace H : (trishawlaw03_BranchCosts.j0 k a0 l1 a2 a3 (t102 != 0)) = some r := H
      have A8 := Aside0.mk A80
      clear A80
      have H' := Aside0.mk H
      clear H
      go_wp2_with (first | ((with_reducible refine gate_callee (f := 15) rfl ?_); refine goesL_ (some 28) rfl rfl Try.func15 (by kernel_rfl) rfl #[.slice A1 l1.length c1, .slice none 0 0] rfl (by (try simp only [List.map_toArray, List.map_cons, List.map_nil]); first | done | rfl | (simp only [List.length_drop, List.length_take]; rfl)) ?_; (refine (trishawlaw03_few.calls _ _ l1 _ _ ([] : List Int) true _ ?side1 ?side2 ?side3 ?side4 A6.out).mono ?_); (case side1 => repeat (first | exact (Kd.C_below HR1.out HB.out) | (with_reducible refine Kd.C_alloc ?_ _) | (with_reducible refine Kd.C_drewN ?_ _) | (with_reducible refine Kd.C_drew ?_))); (case side2 => exact HC1.out); (case side3 => exact Kd.C_nil _ _); (case side4 => exact Nat.le_refl _); rintro e w' ⟨rfl, ⟨nd, rfl⟩⟩; refine ⟨_, rfl, ?_⟩) | (go_at_call 16; (with_reducible refine (trishawref03_Town.calls k a0 _ _ l1 t102 _ ?side1 ?side2 A8.out).mono ?_); (case side1 => repeat (first | exact (Kd.C_below HR1.out (by repeat (first | (with_reducible first | exact HB.out | apply below_alloc | apply pw_below_drewN | apply below_drew1) | exact HB.out))) | (with_reducible refine Kd.C_alloc ?_ _) | (with_reducible refine Kd.C_drewN ?_ _) | (with_reducible refine Kd.C_drew ?_))); (case side2 => exact HC1.out); rintro e w9 ⟨rfl, hb⟩; have n0_ := Aside0.mk (below_step (by repeat (first | (with_reducible first | exact HB.out | apply below_alloc | apply pw_below_drewN | apply below_drew1) | exact HB.out)) hb); clear HB; have HB := n0_; clear n0_; (try clear hb); (try clear hb2); (try clear hk); (try clear hi)))
      go_meet
      case rel => exact ⟨_, ((t102 != 0)), (by first | rfl | (simp; done) | (simp [*]; done)), H', ⟨by first | omega | exact Nat.le_refl _⟩, ⟨by repeat (first | (with_reducible first | exact HB.out | apply below_alloc | apply pw_below_drewN | apply below_drew1) | exact HB.out)⟩⟩
    · replace c7 := Bool.eq_false_iff.mpr c7
      subst c7
      have H1 : (trishawlaw03_BranchCosts.j0 k a0 l1 a2 a3 true) = some r := by rw [if_neg (show ¬ (false = true) by decide)] at H; exact H
      clear H
      have H := H1
      clear H1
      have H' := Aside0.mk H
      clear H
      go_wp2_with (first | ((with_reducible refine gate_callee (f := 15) rfl ?_); refine goesL_ (some 28) rfl rfl Try.func15 (by kernel_rfl) rfl #[.slice A1 l1.length c1, .slice none 0 0] rfl (by (try simp only [List.map_toArray, List.map_cons, List.map_nil]); first | done | rfl | (simp only [List.length_drop, List.length_take]; rfl)) ?_; (refine (trishawlaw03_few.calls _ _ l1 _ _ ([] : List Int) false _ ?side1 ?side2 ?side3 ?side4 A6.out).mono ?_); (case side1 => repeat (first | exact (Kd.C_below HR1.out HB.out) | (with_reducible refine Kd.C_alloc ?_ _) | (with_reducible refine Kd.C_drewN ?_ _) | (with_reducible refine Kd.C_drew ?_))); (case side2 => exact HC1.out); (case side3 => exact Kd.C_nil _ _); (case side4 => exact Nat.le_refl _); rintro e w' ⟨rfl, ⟨nd, rfl⟩⟩; refine ⟨_, rfl, ?_⟩))
      go_meet
      case rel => exact ⟨_, (true), (by first | rfl | (simp; done) | (simp [*]; done)), H', ⟨by first | omega | exact Nat.le_refl _⟩, ⟨by repeat (first | (with_reducible first | exact HB.out | apply below_alloc | apply pw_below_drewN | apply below_drew1) | exact HB.out)⟩⟩
  case rest =>
    clear HC5
    try clear c1
    try clear p2
    try clear c6
    try clear c7
    obtain ⟨kq, x35_4, rfl, HA, HJ4, HB⟩ := hcut
    cases kq with
    | zero => exact absurd HA.out (by simp [trishawlaw03_BranchCosts.j0])
    | succ kj4 =>
      have H := HA.out
      clear HA
      simp only [trishawlaw03_BranchCosts.j0] at H
      by_cases c10 : x35_4 = true
      · subst c10
        have H1 : ((trishawlaw03_alive.f kj4).bind fun t103 => (some t103)) = some r := by rw [if_pos rfl] at H; exact H
        clear H
        have H := H1
        clear H1
        replace H := Option.bind_eq_some_iff.mp H
        obtain ⟨t103, A110, H⟩ := H
        replace H : (some t103) = some r := H
        have A11 := Aside0.mk A110
        clear A110
        obtain rfl := Option.some.inj H
        go_wp2_with (first | ((with_reducible refine gate_callee (f := 17) rfl ?_); refine goesL_ (some 36) rfl rfl Try.func17 (by kernel_rfl) rfl #[] rfl (by (try simp only [List.map_toArray, List.map_cons, List.map_nil]); first | done | rfl | (simp only [List.length_drop, List.length_take]; rfl)) ?_; (with_reducible refine (trishawlaw03_alive.calls kj4  t103 _ A11.out).mono ?_); rintro e w12 ⟨rfl, hb⟩; refine ⟨_, rfl, ?_⟩; have n0_ := Aside0.mk (below_step (by repeat (first | (with_reducible first | exact HB.out | apply below_alloc | apply pw_below_drewN | apply below_drew1) | exact HB.out)) hb); clear HB; have HB := n0_; clear n0_; (try clear hb); (try clear hb2); (try clear hk); (try clear hi)))
        go_ret
        exact ⟨by first | rfl | (simp [errW_none, errW_some] <;> rfl) | (simp [*, errW_none, errW_some] <;> rfl), by repeat (first | (with_reducible first | exact HB.out | apply below_alloc | apply pw_below_drewN | apply below_drew1) | exact HB.out)⟩
      · replace c10 := Bool.eq_false_iff.mpr c10
        subst c10
        have H1 : ((branch_Branching.f kj4 a0 l1).bind fun bt104 => ((branch_Dear.f kj4 a0 l1).bind fun bt109 => (trishawlaw03_BranchCosts.l0 kj4 a0 l1 a2 a3 bt104.1 bt104.2.1 bt104.2.2 bt109.1 bt109.2.1 bt109.2.2 ([] : List (S30)) 0))) = some r := by rw [if_neg (show ¬ (false = true) by decide)] at H; exact H
        clear H
        have H := H1
        clear H1
        replace H := Option.bind_eq_some_iff.mp H
        obtain ⟨⟨t104, t105, t106⟩, A130, H⟩ := H
        replace H : ((branch_Dear.f kj4 a0 l1).bind fun bt109 => (trishawlaw03_BranchCosts.l0 kj4 a0 l1 a2 a3 t104 t105 t106 bt109.1 bt109.2.1 bt109.2.2 ([] : List (S30)) 0)) = some r := H
        have A13 := Aside0.mk A130
        clear A130
        replace H := Option.bind_eq_some_iff.mp H
        obtain ⟨⟨t109, t110, t111⟩, A140, H⟩ := H
        replace H : (trishawlaw03_BranchCosts.l0 kj4 a0 l1 a2 a3 t104 t105 t106 t109 t110 t111 ([] : List (S30)) 0) = some r := H
        have A14 := Aside0.mk A140
        clear A140
        have H' := Aside0.mk H
        clear H
        go_wp2_with (first | ((with_reducible refine gate_callee (f := 24) rfl ?_); refine goesL_ (some 40) rfl rfl Try.func24 (by kernel_rfl) rfl #[.int .i64 a0, .slice A1 l1.length c1] rfl (by (try simp only [List.map_toArray, List.map_cons, List.map_nil]); first | done | rfl | (simp only [List.length_drop, List.length_take]; rfl)) ?_; (with_reducible refine (branch_Branching.calls kj4 a0 _ _ l1 t104 t105 t106 _ ?side1 ?side2 A13.out).mono ?_); (case side1 => repeat (first | exact (Kd.C_below HR1.out HB.out) | (with_reducible refine Kd.C_alloc ?_ _) | (with_reducible refine Kd.C_drewN ?_ _) | (with_reducible refine Kd.C_drew ?_))); (case side2 => exact HC1.out); rintro e w15 ⟨v107, rfl, ho0, hb⟩; refine ⟨_, rfl, ?_⟩; have n0_ := Aside0.mk (Kd.R_lower ho0 (below_size (by repeat (first | (with_reducible first | exact HB.out | apply below_alloc | apply pw_below_drewN | apply below_drew1) | exact HB.out)))); have n1_ := Aside0.mk (below_step (by repeat (first | (with_reducible first | exact HB.out | apply below_alloc | apply pw_below_drewN | apply below_drew1) | exact HB.out)) hb); clear HB; have HO108 := n0_; have HB := n1_; clear n0_ n1_; (try clear hb); (try clear hb2); (try clear hk); (try clear hi); (try clear ho0)) | ((with_reducible refine gate_callee (f := 26) rfl ?_); refine goesL_ (some 47) rfl rfl Try.func26 (by kernel_rfl) rfl #[.int .i64 a0, .slice A1 l1.length c1] rfl (by (try simp only [List.map_toArray, List.map_cons, List.map_nil]); first | done | rfl | (simp only [List.length_drop, List.length_take]; rfl)) ?_; (with_reducible refine (branch_Dear.calls kj4 a0 _ _ l1 t109 t110 t111 _ ?side1 ?side2 A14.out).mono ?_); (case side1 => repeat (first | exact (Kd.C_below HR1.out HB.out) | (with_reducible refine Kd.C_alloc ?_ _) | (with_reducible refine Kd.C_drewN ?_ _) | (with_reducible refine Kd.C_drew ?_))); (case side2 => exact HC1.out); rintro e w16 ⟨v112, rfl, ho0, hb⟩; refine ⟨_, rfl, ?_⟩; have n0_ := Aside0.mk (Kd.R_elder' (by (with_reducible repeat (first | apply Kd.R_alloc | apply Kd.R_drewN | apply Kd.R_drew)); exact HO108.out) (Kd.R_base ho0) hb); have n1_ := Aside0.mk (Kd.R_lower (Kd.R_new' ho0 (Kd.R_lt (by (with_reducible repeat (first | apply Kd.R_alloc | apply Kd.R_drewN | apply Kd.R_drew)); exact HO108.out))) (below_size (by repeat (first | (with_reducible first | exact HB.out | apply below_alloc | apply pw_below_drewN | apply below_drew1) | exact HB.out)))); have n2_ := Aside0.mk (below_step (by repeat (first | (with_reducible first | exact HB.out | apply below_alloc | apply pw_below_drewN | apply below_drew1) | exact HB.out)) hb); clear HO108; clear HB; have HO108 := n0_; have HO113 := n1_; have HB := n2_; clear n0_ n1_ n2_; (try clear hb); (try clear hb2); (try clear hk); (try clear hi); (try clear ho0)))
        go_loopg [15, 16] kj4 (fun kq v15 v16 w' => ∃ (x15_2 : List (S30)) (x16_2 : Int), v16 = .int .i64 x16_2 ∧ Aside0 (trishawlaw03_BranchCosts.l0 kq a0 l1 a2 a3 t104 t105 t106 t109 t110 t111 x15_2 x16_2 = some r) ∧ Aside0 (kq ≤ kj4) ∧ Aside0 (Kd.R (Kd.int .i64) 3 w' w.heap.size (fun k_ => some k_ ≠ (v112 : Value).ownBlock) v107 t104) ∧ Aside0 (Kd.R (Kd.int .i64) 3 w' w.heap.size (fun k_ => some k_ ≠ (v107 : Value).ownBlock) v112 t109) ∧ Aside0 (Kd.R k30 30 w' w.heap.size (fun _ => True) v15 x15_2) ∧ Aside0 (Below w.heap.size w w'))
        case atStart => exact ⟨(([] : List (S30))), (0), (by first | rfl | (simp; done) | (simp [*]; done)), H', ⟨Nat.le_refl _⟩, ⟨by (with_reducible repeat (first | apply Kd.R_alloc | apply Kd.R_drewN | apply Kd.R_drew)); exact Kd.R_mono HO108.out (fun _ hk => hk.2)⟩, ⟨by (with_reducible repeat (first | apply Kd.R_alloc | apply Kd.R_drewN | apply Kd.R_drew)); exact Kd.R_mono HO113.out (fun _ hk => hk.2)⟩, ⟨by first | exact Kd.R_nil _ _ _ _ _ | exact Kd.N_nil _ _ _ _ _ | exact Kd.V_nil _ _ _ _ _ | exact Kd.Q_nil _ _ _ _ _ | exact Kd.S_nil _ _ _ _ _⟩, ⟨by repeat (first | (with_reducible first | exact HB.out | apply below_alloc | apply pw_below_drewN | apply below_drew1) | exact HB.out)⟩⟩
        case round =>
          clear H'
          try clear c1
          try clear c2
          try clear p2
          try clear c6
          try clear c7
          try clear c10
          try clear c15
          try clear p2
          obtain ⟨x15_2, x16_2, rfl, HA, HK2, HO_9, HO_12, HO_15, HB⟩ := hrel
          cases gk with
          | zero => exact absurd HA.out (by simp [trishawlaw03_BranchCosts.l0])
          | succ k2 =>
            have H := HA.out
            clear HA
            simp only [trishawlaw03_BranchCosts.l0] at H
            by_cases c17 : x16_2 < (l1.length : Int)
            · rw [if_pos c17] at H
              have c17b0 : decide (x16_2 < (l1.length : Int)) = true := decide_eq_true c17
              clear c17
              by_cases c18 : 0 ≤ x16_2
              · rw [if_pos c18] at H
                have c18b0 : decide (0 ≤ x16_2) = true := decide_eq_true c18
                clear c18
                by_cases c19 : x15_2.length < 5864062014805
                · rw [if_pos c19] at H
                  have LMc19 := Aside0.mk c19
                  clear c19
                  obtain ⟨y117, hy117⟩ : ∃ y_ : List (S30), y_ = (x15_2 ++ [(⟨(rd_T30 l1 x16_2).f0, (rd_T30 l1 x16_2).f1, wrap64 (1000 - ((rd_T30 l1 x16_2).f2))⟩ : S30)]) := ⟨_, rfl⟩
                  replace H : (trishawlaw03_BranchCosts.l0 k2 a0 l1 a2 a3 t104 t105 t106 t109 t110 t111 y117 (wrap64 (x16_2 + 1))) = some r := by first | (rw [hy117]; with_reducible exact H) | (have H2_ := (Option.bind_some _ _).symm.trans H; rw [hy117]; with_reducible exact H2_) | (have H2_ := (Option.bind_some _ _).symm.trans H; with_reducible exact H2_) | with_reducible exact H | (rw [hy117]; exact H) | exact H
                  have Ny117 := Aside0.mk hy117
                  clear hy117
                  have H' := Aside0.mk H
                  clear H
                  try go_wp2
                  have n0_ := Aside0.mk (Kd.R_drew HO_9.out)
                  have n1_ := Aside0.mk (Kd.R_drew HO_12.out)
                  have n2_ := Aside0.mk (Kd.R_drew HO_15.out)
                  have n3_ := Aside0.mk (below_drew1 HB.out)
                  clear HO_9
                  clear HO_12
                  clear HO_15
                  clear HB
                  have HO_9 := n0_
                  have HO_12 := n1_
                  have HO_15 := n2_
                  have HB := n3_
                  clear n0_ n1_ n2_ n3_
                  have p114 : 0 ≤ (x16_2 : Int) := of_decide_eq_true (by first | (with_reducible assumption) | assumption)
                  have q114 : x16_2 < (l1.length : Int) := of_decide_eq_true (by first | (with_reducible assumption) | assumption)
                  obtain ⟨ad114, e114, hx114_0, hx114_1, hx114_2⟩ := at_T30 HR1.out x16_2 p114 q114
                  have hw114_2 := hx114_2
                  have hw114_1 := hx114_1
                  have hw114_0 := hx114_0
                  cases e114
                  replace hx114_0 := (HB.out.cell (World.block_lt_of_cell? w _ hx114_0)).trans hx114_0
                  replace hx114_1 := (HB.out.cell (World.block_lt_of_cell? w _ hx114_1)).trans hx114_1
                  replace hx114_2 := (HB.out.cell (World.block_lt_of_cell? w _ hx114_2)).trans hx114_2
                  replace p114 := eq_true p114
                  replace q114 := eq_true q114
                  have p115 : 0 ≤ (x16_2 : Int) := of_decide_eq_true (by first | (with_reducible assumption) | assumption)
                  have q115 : x16_2 < (l1.length : Int) := of_decide_eq_true (by first | (with_reducible assumption) | assumption)
                  obtain ⟨ad115, e115, hx115_0, hx115_1, hx115_2⟩ := at_T30 HR1.out x16_2 p115 q115
                  have hw115_2 := hx115_2
                  have hw115_1 := hx115_1
                  have hw115_0 := hx115_0
                  obtain rfl : ad114 = ad115 := (by injection e115)
                  replace hx115_0 := (HB.out.cell (World.block_lt_of_cell? w _ hx115_0)).trans hx115_0
                  replace hx115_1 := (HB.out.cell (World.block_lt_of_cell? w _ hx115_1)).trans hx115_1
                  replace hx115_2 := (HB.out.cell (World.block_lt_of_cell? w _ hx115_2)).trans hx115_2
                  replace p115 := eq_true p115
                  replace q115 := eq_true q115
                  have p116 : 0 ≤ (x16_2 : Int) := of_decide_eq_true (by first | (with_reducible assumption) | assumption)
                  have q116 : x16_2 < (l1.length : Int) := of_decide_eq_true (by first | (with_reducible assumption) | assumption)
                  obtain ⟨ad116, e116, hx116_0, hx116_1, hx116_2⟩ := at_T30 HR1.out x16_2 p116 q116
                  have hw116_2 := hx116_2
                  have hw116_1 := hx116_1
                  have hw116_0 := hx116_0
                  obtain rfl : ad114 = ad116 := (by injection e116)
                  replace hx116_0 := (HB.out.cell (World.block_lt_of_cell? w _ hx116_0)).trans hx116_0
                  replace hx116_1 := (HB.out.cell (World.block_lt_of_cell? w _ hx116_1)).trans hx116_1
                  replace hx116_2 := (HB.out.cell (World.block_lt_of_cell? w _ hx116_2)).trans hx116_2
                  replace p116 := eq_true p116
                  replace q116 := eq_true q116
                  refine start_ (n := 21) (S := fun w' => w'.cell? (ad114.add ((x16_2).toNat * 3)) = some (.int .i64 ((rd_T30 l1 x16_2).f0)) ∧ w'.cell? ⟨(ad114.add ((x16_2).toNat * 3)).block, (ad114.add ((x16_2).toNat * 3)).off + 1, none⟩ = some (.int .i64 ((rd_T30 l1 x16_2).f1)) ∧ w'.cell? ⟨(ad114.add ((x16_2).toNat * 3)).block, (ad114.add ((x16_2).toNat * 3)).off + 2, none⟩ = some (.int .i64 ((rd_T30 l1 x16_2).f2)) ∧ w'.cell? (ad114.add ((x16_2).toNat * 3)) = some (.int .i64 ((rd_T30 l1 x16_2).f0)) ∧ w'.cell? ⟨(ad114.add ((x16_2).toNat * 3)).block, (ad114.add ((x16_2).toNat * 3)).off + 1, none⟩ = some (.int .i64 ((rd_T30 l1 x16_2).f1)) ∧ w'.cell? ⟨(ad114.add ((x16_2).toNat * 3)).block, (ad114.add ((x16_2).toNat * 3)).off + 2, none⟩ = some (.int .i64 ((rd_T30 l1 x16_2).f2)) ∧ w'.cell? (ad114.add ((x16_2).toNat * 3)) = some (.int .i64 ((rd_T30 l1 x16_2).f0)) ∧ w'.cell? ⟨(ad114.add ((x16_2).toNat * 3)).block, (ad114.add ((x16_2).toNat * 3)).off + 1, none⟩ = some (.int .i64 ((rd_T30 l1 x16_2).f1)) ∧ w'.cell? ⟨(ad114.add ((x16_2).toNat * 3)).block, (ad114.add ((x16_2).toNat * 3)).off + 2, none⟩ = some (.int .i64 ((rd_T30 l1 x16_2).f2))) (ds := []) #[false, false, false, false, false, false, false, false, false, false, false, false, false, false, false, false, false, false, false, false, false] (by kernel_rfl) rfl rfl ⟨((HB.out.cell (World.block_lt_of_cell? w _ hw114_0)).trans hw114_0), ((HB.out.cell (World.block_lt_of_cell? w _ hw114_1)).trans hw114_1), ((HB.out.cell (World.block_lt_of_cell? w _ hw114_2)).trans hw114_2), ((HB.out.cell (World.block_lt_of_cell? w _ hw115_0)).trans hw115_0), ((HB.out.cell (World.block_lt_of_cell? w _ hw115_1)).trans hw115_1), ((HB.out.cell (World.block_lt_of_cell? w _ hw115_2)).trans hw115_2), ((HB.out.cell (World.block_lt_of_cell? w _ hw116_0)).trans hw116_0), ((HB.out.cell (World.block_lt_of_cell? w _ hw116_1)).trans hw116_1), ((HB.out.cell (World.block_lt_of_cell? w _ hw116_2)).trans hw116_2)⟩ (fun hHeld => ?_); refine with_tabW trishawlaw03_BranchCosts.tab9 trishawlaw03_BranchCosts.bits9 (fun HT_ HW_ => ?_)
                  generalize wr.drew = w20 at HO_9 HO_12 HO_15 HB hx114_0 hx114_1 hx114_2 hx115_0 hx115_1 hx115_2 hx116_0 hx116_1 hx116_2 hHeld ⊢
                  refine pure_ (i := 0) (N := some 57) (v := ?_) (a' := ?_) #[true, false, false, false, false, false, false, false, false, false, false, false, false, false, false, false, false, false, false, false, false] rfl rfl (any_of HT_.out (by kernel_rfl)) (fun _ _ _ h => h) (Or.inl ⟨by rfl, ?_⟩) ?_ ?_
                  rotate_left
                  · intro w'
                    go_simp
                    with_reducible rfl
                  rotate_left
                  · simp only [Act.put, List.setIfInBounds_toArray, List.set_cons_zero, List.set_cons_succ, i64_w, i32_w]
                    rfl
                  refine pure_ (i := 1) (N := some 58) (v := ?_) (a' := ?_) #[true, true, false, false, false, false, false, false, false, false, false, false, false, false, false, false, false, false, false, false, false] rfl rfl (any_of HT_.out (by kernel_rfl)) (fun _ _ _ h => h) (Or.inl ⟨by rfl, ?_⟩) ?_ ?_
                  rotate_left
                  · intro w'
                    go_simp
                    with_reducible rfl
                  rotate_left
                  · simp only [Act.put, List.setIfInBounds_toArray, List.set_cons_zero, List.set_cons_succ, i64_w, i32_w]
                    rfl
                  refine pure_ (i := 2) (N := some 59) (v := ?_) (a' := ?_) #[true, true, true, false, false, false, false, false, false, false, false, false, false, false, false, false, false, false, false, false, false] rfl rfl (any_of HT_.out (by kernel_rfl)) (fun _ _ _ h => h) (Or.inl ⟨by rfl, ?_⟩) ?_ ?_
                  rotate_left
                  · intro w'
                    go_simp
                    with_reducible rfl
                  rotate_left
                  · simp only [Act.put, List.setIfInBounds_toArray, List.set_cons_zero, List.set_cons_succ, i64_w, i32_w]
                    rfl
                  refine pure_ (i := 3) (N := some 60) (v := ?_) (a' := ?_) #[true, true, true, true, false, false, false, false, false, false, false, false, false, false, false, false, false, false, false, false, false] rfl rfl (any_of HT_.out (by kernel_rfl)) (fun _ _ _ h => h) (Or.inl ⟨by rfl, ?_⟩) ?_ ?_
                  rotate_left
                  · intro w'
                    go_simp
                    with_reducible rfl
                  rotate_left
                  · simp only [Act.put, List.setIfInBounds_toArray, List.set_cons_zero, List.set_cons_succ, i64_w, i32_w]
                    rfl
                  refine pure_ (i := 4) (N := some 61) (v := ?_) (a' := ?_) #[true, true, true, true, true, false, false, false, false, false, false, false, false, false, false, false, false, false, false, false, false] rfl rfl (any_of HT_.out (by kernel_rfl)) (fun _ _ _ h => h) (Or.inl ⟨by rfl, ?_⟩) ?_ ?_
                  rotate_left
                  · intro w'
                    go_simp
                    with_reducible rfl
                  rotate_left
                  · simp only [Act.put, List.setIfInBounds_toArray, List.set_cons_zero, List.set_cons_succ, i64_w, i32_w]
                    rfl
                  refine pure_ (i := 6) (N := some 63) (v := ?_) (a' := ?_) #[true, true, true, true, true, false, true, false, false, false, false, false, false, false, false, false, false, false, false, false, false] rfl rfl (any_of HT_.out (by kernel_rfl)) (fun _ _ _ h => h) (Or.inl ⟨by rfl, ?_⟩) ?_ ?_
                  rotate_left
                  · intro w'
                    go_simp
                    with_reducible rfl
                  rotate_left
                  · simp only [Act.put, List.setIfInBounds_toArray, List.set_cons_zero, List.set_cons_succ, i64_w, i32_w]
                    rfl
                  refine pure_ (i := 7) (N := some 64) (v := ?_) (a' := ?_) #[true, true, true, true, true, false, true, true, false, false, false, false, false, false, false, false, false, false, false, false, false] rfl rfl (any_of HT_.out (by kernel_rfl)) (fun _ _ _ h => h) (Or.inl ⟨by rfl, ?_⟩) ?_ ?_
                  rotate_left
                  · intro w'
                    go_simp
                    with_reducible rfl
                  rotate_left
                  · simp only [Act.put, List.setIfInBounds_toArray, List.set_cons_zero, List.set_cons_succ, i64_w, i32_w]
                    rfl
                  refine pure_ (i := 8) (N := some 65) (v := ?_) (a' := ?_) #[true, true, true, true, true, false, true, true, true, false, false, false, false, false, false, false, false, false, false, false, false] rfl rfl (any_of HT_.out (by kernel_rfl)) (fun _ _ _ h => h) (Or.inl ⟨by rfl, ?_⟩) ?_ ?_
                  rotate_left
                  · intro w'
                    go_simp
                    with_reducible rfl
                  rotate_left
                  · simp only [Act.put, List.setIfInBounds_toArray, List.set_cons_zero, List.set_cons_succ, i64_w, i32_w]
                    rfl
                  refine pure_ (i := 9) (N := some 66) (v := ?_) (a' := ?_) #[true, true, true, true, true, false, true, true, true, true, false, false, false, false, false, false, false, false, false, false, false] rfl rfl (any_of HT_.out (by kernel_rfl)) (fun _ _ _ h => h) (Or.inl ⟨by rfl, ?_⟩) ?_ ?_
                  rotate_left
                  · intro w'
                    go_simp
                    with_reducible rfl
                  rotate_left
                  · simp only [Act.put, List.setIfInBounds_toArray, List.set_cons_zero, List.set_cons_succ, i64_w, i32_w]
                    rfl
                  refine pure_ (i := 11) (N := some 68) (v := ?_) (a' := ?_) #[true, true, true, true, true, false, true, true, true, true, false, true, false, false, false, false, false, false, false, false, false] rfl rfl (any_of HT_.out (by kernel_rfl)) (fun _ _ _ h => h) (Or.inl ⟨by rfl, ?_⟩) ?_ ?_
                  rotate_left
                  · intro w'
                    go_simp
                    with_reducible rfl
                  rotate_left
                  · simp only [Act.put, List.setIfInBounds_toArray, List.set_cons_zero, List.set_cons_succ, i64_w, i32_w]
                    rfl
                  refine pure_ (i := 12) (N := some 69) (v := ?_) (a' := ?_) #[true, true, true, true, true, false, true, true, true, true, false, true, true, false, false, false, false, false, false, false, false] rfl rfl (any_of HT_.out (by kernel_rfl)) (fun _ _ _ h => h) (Or.inl ⟨by rfl, ?_⟩) ?_ ?_
                  rotate_left
                  · intro w'
                    go_simp
                    with_reducible rfl
                  rotate_left
                  · simp only [Act.put, List.setIfInBounds_toArray, List.set_cons_zero, List.set_cons_succ, i64_w, i32_w]
                    rfl
                  refine pure_ (i := 13) (N := some 70) (v := ?_) (a' := ?_) #[true, true, true, true, true, false, true, true, true, true, false, true, true, true, false, false, false, false, false, false, false] rfl rfl (any_of HT_.out (by kernel_rfl)) (fun _ _ _ h => h) (Or.inl ⟨by rfl, ?_⟩) ?_ ?_
                  rotate_left
                  · intro w'
                    go_simp
                    with_reducible rfl
                  rotate_left
                  · simp only [Act.put, List.setIfInBounds_toArray, List.set_cons_zero, List.set_cons_succ, i64_w, i32_w]
                    rfl
                  refine pure_ (i := 14) (N := some 71) (v := ?_) (a' := ?_) #[true, true, true, true, true, false, true, true, true, true, false, true, true, true, true, false, false, false, false, false, false] rfl rfl (any_of HT_.out (by kernel_rfl)) (fun _ _ _ h => h) (Or.inl ⟨by rfl, ?_⟩) ?_ ?_
                  rotate_left
                  · intro w'
                    go_simp
                    with_reducible rfl
                  rotate_left
                  · simp only [Act.put, List.setIfInBounds_toArray, List.set_cons_zero, List.set_cons_succ, i64_w, i32_w]
                    rfl
                  refine take_ (i := 5) (N := some 62) (v := ?_) (a' := ?_) #[true, true, true, true, true, true, true, true, true, true, false, true, true, true, true, false, false, false, false, false, false] rfl rfl (take_ofW HT_.out HW_.out (by kernel_rfl)) (fun _ _ _ h => h) (Or.inl ⟨by rfl, ?_⟩) hHeld ?_ ?_
                  rotate_left
                  · rintro w' ⟨s0, s1, s2, s3, s4, s5, s6, s7, s8⟩
                    go_simp
                    with_reducible rfl
                  rotate_left
                  · simp only [Act.put, List.setIfInBounds_toArray, List.set_cons_zero, List.set_cons_succ, i64_w, i32_w]
                    rfl
                  refine take_ (i := 10) (N := some 67) (v := ?_) (a' := ?_) #[true, true, true, true, true, true, true, true, true, true, true, true, true, true, true, false, false, false, false, false, false] rfl rfl (take_ofW HT_.out HW_.out (by kernel_rfl)) (fun _ _ _ h => h) (Or.inl ⟨by rfl, ?_⟩) hHeld ?_ ?_
                  rotate_left
                  · rintro w' ⟨s0, s1, s2, s3, s4, s5, s6, s7, s8⟩
                    go_simp
                    with_reducible rfl
                  rotate_left
                  · simp only [Act.put, List.setIfInBounds_toArray, List.set_cons_zero, List.set_cons_succ, i64_w, i32_w]
                    rfl
                  refine take_ (i := 15) (N := some 72) (v := ?_) (a' := ?_) #[true, true, true, true, true, true, true, true, true, true, true, true, true, true, true, true, false, false, false, false, false] rfl rfl (take_ofW HT_.out HW_.out (by kernel_rfl)) (fun _ _ _ h => h) (Or.inl ⟨by rfl, ?_⟩) hHeld ?_ ?_
                  rotate_left
                  · rintro w' ⟨s0, s1, s2, s3, s4, s5, s6, s7, s8⟩
                    go_simp
                    with_reducible rfl
                  rotate_left
                  · simp only [Act.put, List.setIfInBounds_toArray, List.set_cons_zero, List.set_cons_succ, i64_w, i32_w]
                    rfl
                  refine pure_ (i := 16) (N := some 73) (v := ?_) (a' := ?_) #[true, true, true, true, true, true, true, true, true, true, true, true, true, true, true, true, true, false, false, false, false] rfl rfl (any_of HT_.out (by kernel_rfl)) (fun _ _ _ h => h) (Or.inl ⟨by rfl, ?_⟩) ?_ ?_
                  rotate_left
                  · intro w'
                    go_simp
                    with_reducible rfl
                  rotate_left
                  · simp only [Act.put, List.setIfInBounds_toArray, List.set_cons_zero, List.set_cons_succ, i64_w, i32_w]
                    rfl
                  refine pure_ (i := 17) (N := some 74) (v := ?_) (a' := ?_) #[true, true, true, true, true, true, true, true, true, true, true, true, true, true, true, true, true, true, false, false, false] rfl rfl (any_of HT_.out (by kernel_rfl)) (fun _ _ _ h => h) (Or.inl ⟨by rfl, ?_⟩) ?_ ?_
                  rotate_left
                  · intro w'
                    go_simp
                    with_reducible rfl
                  rotate_left
                  · simp only [Act.put, List.setIfInBounds_toArray, List.set_cons_zero, List.set_cons_succ, i64_w, i32_w]
                    rfl
                  refine one_ (i := 18) (N := some 75) #[true, true, true, true, true, true, true, true, true, true, true, true, true, true, true, true, true, true, true, false, false] rfl rfl (one_of HT_.out (by kernel_rfl)) (by decide) (fun K hK => ?_)
                  refine value_ (w1 := ?_) (v := ?_) (by rfl) rfl ?_ ?_
                  rotate_left 2
                  · go_simp
                    constructor
                    · rfl
                    · rfl
                  refine hK.out _ _ ⟨(World.cell?_alloc_lt _ _ _ (World.block_lt_of_cell? _ _ (((HB.out.cell (World.block_lt_of_cell? w _ hw114_0)).trans hw114_0)))).trans (((HB.out.cell (World.block_lt_of_cell? w _ hw114_0)).trans hw114_0)), (World.cell?_alloc_lt _ _ _ (World.block_lt_of_cell? _ _ (((HB.out.cell (World.block_lt_of_cell? w _ hw114_1)).trans hw114_1)))).trans (((HB.out.cell (World.block_lt_of_cell? w _ hw114_1)).trans hw114_1)), (World.cell?_alloc_lt _ _ _ (World.block_lt_of_cell? _ _ (((HB.out.cell (World.block_lt_of_cell? w _ hw114_2)).trans hw114_2)))).trans (((HB.out.cell (World.block_lt_of_cell? w _ hw114_2)).trans hw114_2)), (World.cell?_alloc_lt _ _ _ (World.block_lt_of_cell? _ _ (((HB.out.cell (World.block_lt_of_cell? w _ hw115_0)).trans hw115_0)))).trans (((HB.out.cell (World.block_lt_of_cell? w _ hw115_0)).trans hw115_0)), (World.cell?_alloc_lt _ _ _ (World.block_lt_of_cell? _ _ (((HB.out.cell (World.block_lt_of_cell? w _ hw115_1)).trans hw115_1)))).trans (((HB.out.cell (World.block_lt_of_cell? w _ hw115_1)).trans hw115_1)), (World.cell?_alloc_lt _ _ _ (World.block_lt_of_cell? _ _ (((HB.out.cell (World.block_lt_of_cell? w _ hw115_2)).trans hw115_2)))).trans (((HB.out.cell (World.block_lt_of_cell? w _ hw115_2)).trans hw115_2)), (World.cell?_alloc_lt _ _ _ (World.block_lt_of_cell? _ _ (((HB.out.cell (World.block_lt_of_cell? w _ hw116_0)).trans hw116_0)))).trans (((HB.out.cell (World.block_lt_of_cell? w _ hw116_0)).trans hw116_0)), (World.cell?_alloc_lt _ _ _ (World.block_lt_of_cell? _ _ (((HB.out.cell (World.block_lt_of_cell? w _ hw116_1)).trans hw116_1)))).trans (((HB.out.cell (World.block_lt_of_cell? w _ hw116_1)).trans hw116_1)), (World.cell?_alloc_lt _ _ _ (World.block_lt_of_cell? _ _ (((HB.out.cell (World.block_lt_of_cell? w _ hw116_2)).trans hw116_2)))).trans (((HB.out.cell (World.block_lt_of_cell? w _ hw116_2)).trans hw116_2))⟩ (fun hHeld => ?_)
                  clear hK K
                  refine norm_ (a' := ?_) ?_ ?_
                  rotate_left
                  · show Act.put _ (some 75) _ = _
                    simp only [Act.put, List.setIfInBounds_toArray, List.set_cons_zero, List.set_cons_succ, i64_w, i32_w]
                    rfl
                  refine one_ (i := 19) (N := some 76) #[true, true, true, true, true, true, true, true, true, true, true, true, true, true, true, true, true, true, true, true, false] rfl rfl (one_of HT_.out (by kernel_rfl)) (by decide) (fun K hK => ?_)
                  refine Kd.R_append_step k30 (w0 := w) w.heap.size (by rfl) (.tmp 57) (.tmp 75) 22 30 (.agg #[(.int .i64 0), (.int .i64 0), (.int .i64 0)]) 24 rfl Try.underlying22 info30 rfl (by decide) (by omega) u15 x15_2 (⟨(rd_T30 l1 x16_2).f0, (rd_T30 l1 x16_2).f1, wrap64 (1000 - ((rd_T30 l1 x16_2).f2))⟩ : S30) [.int .i64 ((rd_T30 l1 x16_2).f0), .int .i64 ((rd_T30 l1 x16_2).f1), .int .i64 (wrap64 (1000 - ((rd_T30 l1 x16_2).f2)))] (fun _ => True) (fun _ => False) rfl rfl ?aP (fun _ hk => hk.elim) ?aF ?aO ?aB ?aS ?aL ?_
                  (case aP => exact k30_mkM _ _ _ (⟨(rd_T30 l1 x16_2).f0, (rd_T30 l1 x16_2).f1, wrap64 (1000 - ((rd_T30 l1 x16_2).f2))⟩ : S30))
                  (case aB => exact (by repeat (first | (with_reducible first | exact HB.out | apply below_alloc | apply pw_below_drewN | apply below_drew1) | exact HB.out)))
                  (case aF => exact (fun _ _ => trivial))
                  (case aO => exact (by (with_reducible repeat (first | apply Kd.R_alloc | apply Kd.R_drewN | apply Kd.R_drew)); exact HO_15.out))
                  (case aS => exact (below_size (by repeat (first | (with_reducible first | exact HB.out | apply below_alloc | apply pw_below_drewN | apply below_drew1) | exact HB.out))))
                  (case aL => have := LMc19.out; omega)
                  intro v118 w21 ho hb hg hat
                  rw [← Ny117.out] at ho
                  have n0_ := Aside0.mk (Kd.R_over' (by (with_reducible repeat (first | apply Kd.R_alloc | apply Kd.R_drewN | apply Kd.R_drew)); exact HO_9.out) (Kd.R_typed (by (with_reducible repeat (first | apply Kd.R_alloc | apply Kd.R_drewN | apply Kd.R_drew)); exact HO_15.out)) (by decide) hg)
                  have n1_ := Aside0.mk (Kd.R_over' (by (with_reducible repeat (first | apply Kd.R_alloc | apply Kd.R_drewN | apply Kd.R_drew)); exact HO_12.out) (Kd.R_typed (by (with_reducible repeat (first | apply Kd.R_alloc | apply Kd.R_drewN | apply Kd.R_drew)); exact HO_15.out)) (by decide) hg)
                  have n2_ := Aside0.mk (hb)
                  have n3_ := Aside0.mk (ho)
                  clear HO_9
                  clear HO_12
                  clear HB
                  clear HO_15
                  have HO_9 := n0_
                  have HO_12 := n1_
                  have HB := n2_
                  have HO119 := n3_
                  clear n0_ n1_ n2_ n3_
                  clear ho hb hg hat
                  refine hK.out _ _ ⟨((HB.out.cell (World.block_lt_of_cell? w _ hw114_0)).trans hw114_0), ((HB.out.cell (World.block_lt_of_cell? w _ hw114_1)).trans hw114_1), ((HB.out.cell (World.block_lt_of_cell? w _ hw114_2)).trans hw114_2), ((HB.out.cell (World.block_lt_of_cell? w _ hw115_0)).trans hw115_0), ((HB.out.cell (World.block_lt_of_cell? w _ hw115_1)).trans hw115_1), ((HB.out.cell (World.block_lt_of_cell? w _ hw115_2)).trans hw115_2), ((HB.out.cell (World.block_lt_of_cell? w _ hw116_0)).trans hw116_0), ((HB.out.cell (World.block_lt_of_cell? w _ hw116_1)).trans hw116_1), ((HB.out.cell (World.block_lt_of_cell? w _ hw116_2)).trans hw116_2)⟩ (fun hHeld => ?_)
                  clear hK K
                  refine norm_ (a' := ?_) ?_ ?_
                  rotate_left
                  · show Act.put _ (some 76) _ = _
                    simp only [Act.put, List.setIfInBounds_toArray, List.set_cons_zero, List.set_cons_succ, i64_w, i32_w]
                    rfl
                  refine pure_ (i := 20) (N := some 15) (v := ?_) (a' := ?_) #[true, true, true, true, true, true, true, true, true, true, true, true, true, true, true, true, true, true, true, true, true] rfl rfl (any_of HT_.out (by kernel_rfl)) (fun _ _ _ h => h) (Or.inl ⟨by rfl, ?_⟩) ?_ ?_
                  rotate_left
                  · intro w'
                    go_simp
                    with_reducible rfl
                  rotate_left
                  · simp only [Act.put, List.setIfInBounds_toArray, List.set_cons_zero, List.set_cons_succ, i64_w, i32_w]
                    rfl
                  refine done_ (done_of HT_.out (by kernel_rfl)) ?_
                  try go_wp2
                  go_roundg k2
                  case measure => have := HJ4.out; have := HK2.out; omega
                  case rel => exact ⟨(y117), (wrap64 (x16_2 + 1)), (by first | rfl | (simp; done) | (simp [*]; done)), H', ⟨by have := HJ4.out; have := HK2.out; omega⟩, ⟨by (with_reducible repeat (first | apply Kd.R_alloc | apply Kd.R_drewN | apply Kd.R_drew)); exact HO_9.out⟩, ⟨by (with_reducible repeat (first | apply Kd.R_alloc | apply Kd.R_drewN | apply Kd.R_drew)); exact HO_12.out⟩, ⟨by (with_reducible repeat (first | apply Kd.R_alloc | apply Kd.R_drewN | apply Kd.R_drew)); exact HO119.out⟩, ⟨by repeat (first | (with_reducible first | exact HB.out | apply below_alloc | apply pw_below_drewN | apply below_drew1) | exact HB.out)⟩⟩
                · rw [if_neg c19] at H
                  exact absurd H (by simp)
              · rw [if_neg c18] at H
                exact absurd H (by simp)
            · rw [if_neg c17] at H
              have c17b0 : decide (x16_2 < (l1.length : Int)) = false := decide_eq_false c17
              clear c17
              replace H := Option.bind_eq_some_iff.mp H
              obtain ⟨⟨t120, t121, t122⟩, A220, H⟩ := H
              replace H : (if t106 = t111 then (trishawlaw03_BranchCosts.j2 k2 a0 l1 a2 a3 t104 t105 t106 t109 t110 t120 t121 (t106 != t122)) else (trishawlaw03_BranchCosts.j2 k2 a0 l1 a2 a3 t104 t105 t106 t109 t110 t120 t121 true)) = some r := H
              have A22 := Aside0.mk A220
              clear A220
              have HC23 := Aside0.mk H
              clear H
              obtain ⟨Ao24, co24, eo24⟩ := Kd.R_slice HO_15.out
              subst eo24
              go_upto_region 11 with (first | ((with_reducible refine gate_callee (f := 24) rfl ?_); refine goesL_ (some 80) rfl rfl Try.func24 (by kernel_rfl) rfl #[.int .i64 a0, .slice Ao24 x15_2.length co24] rfl (by (try simp only [List.map_toArray, List.map_cons, List.map_nil]); first | done | rfl | (simp only [List.length_drop, List.length_take]; rfl)) ?_; (with_reducible refine (branch_Branching.calls k2 a0 _ _ x15_2 t120 t121 t122 _ ?side1 ?side2 A22.out).mono ?_); (case side1 => repeat (first | exact (Kd.R_reads' HO_15.out).2.2 | (with_reducible refine Kd.C_alloc ?_ _) | (with_reducible refine Kd.C_drewN ?_ _) | (with_reducible refine Kd.C_drew ?_))); (case side2 => exact (Kd.R_reads' HO_15.out).2.1); rintro e w25 ⟨v123, rfl, ho0, hb⟩; refine ⟨_, rfl, ?_⟩; have n0_ := Aside0.mk (Kd.R_elder' (by (with_reducible repeat (first | apply Kd.R_alloc | apply Kd.R_drewN | apply Kd.R_drew)); exact HO_9.out) (Kd.R_base ho0) hb); have n1_ := Aside0.mk (Kd.R_elder' (by (with_reducible repeat (first | apply Kd.R_alloc | apply Kd.R_drewN | apply Kd.R_drew)); exact HO_12.out) (Kd.R_base ho0) hb); have n2_ := Aside0.mk (Kd.R_below (by (with_reducible repeat (first | apply Kd.R_alloc | apply Kd.R_drewN | apply Kd.R_drew)); exact HO_15.out) hb); have n3_ := Aside0.mk (Kd.R_lower (Kd.R_new' (Kd.R_new' ho0 (Kd.R_lt (by (with_reducible repeat (first | apply Kd.R_alloc | apply Kd.R_drewN | apply Kd.R_drew)); exact HO_9.out))) (Kd.R_lt (by (with_reducible repeat (first | apply Kd.R_alloc | apply Kd.R_drewN | apply Kd.R_drew)); exact HO_12.out))) (below_size (by repeat (first | (with_reducible first | exact HB.out | apply below_alloc | apply pw_below_drewN | apply below_drew1) | exact HB.out)))); have n4_ := Aside0.mk (below_step (by repeat (first | (with_reducible first | exact HB.out | apply below_alloc | apply pw_below_drewN | apply below_drew1) | exact HB.out)) hb); clear HO_9; clear HO_12; clear HO_15; clear HB; have HO_9 := n0_; have HO_12 := n1_; have HO_15 := n2_; have HO124 := n3_; have HB := n4_; clear n0_ n1_ n2_ n3_ n4_; (try clear hb); (try clear hb2); (try clear hk); (try clear hi); (try clear ho0)))
              (try simp only [Act.put, List.setIfInBounds_toArray, List.set_cons_zero, List.set_cons_succ])
              go_cut [91] (fun v91 wc => ∃ (kq : Nat) (x91_22 : Bool), v91 = .bool x91_22 ∧ Aside0 (trishawlaw03_BranchCosts.j2 kq a0 l1 a2 a3 t104 t105 t106 t109 t110 t120 t121 x91_22 = some r) ∧ Aside0 (kq ≤ k2) ∧ Aside0 (Kd.R (Kd.int .i64) 3 wc w.heap.size (fun k_ => some k_ ≠ (v112 : Value).ownBlock ∧ some k_ ≠ (v123 : Value).ownBlock) v107 t104) ∧ Aside0 (Kd.R (Kd.int .i64) 3 wc w.heap.size (fun k_ => some k_ ≠ (v107 : Value).ownBlock ∧ some k_ ≠ (v123 : Value).ownBlock) v112 t109) ∧ Aside0 (Kd.R (Kd.int .i64) 3 wc w.heap.size (fun k_ => some k_ ≠ (v107 : Value).ownBlock ∧ some k_ ≠ (v112 : Value).ownBlock) v123 t120) ∧ Aside0 (Below w.heap.size w wc))
              case first =>
                have H := HC23.out
                clear HC23
                by_cases c26 : t106 = t111
                · rw [if_pos c26] at H
                  have c26b0 : (t106 == t111) = true := beq_iff_eq.mpr c26
                  have c26b1 : (t106 != t111) = false := bne_eq_false_iff_eq.mpr c26
                  clear c26
                  (first | rw [c26b0] | (simp only [i64_w, i32_w]; rw [c26b0]) | skip)
                  have H' := Aside0.mk H
                  clear H
                  go_wp2
                  go_meet
                  case rel => exact ⟨_, ((t106 != t122)), (by first | rfl | (simp; done) | (simp [*]; done)), H', ⟨by have := HJ4.out; have := HK2.out; first | omega | exact Nat.le_refl _⟩, ⟨by (with_reducible repeat (first | apply Kd.R_alloc | apply Kd.R_drewN | apply Kd.R_drew)); exact HO_9.out⟩, ⟨by (with_reducible repeat (first | apply Kd.R_alloc | apply Kd.R_drewN | apply Kd.R_drew)); exact HO_12.out⟩, ⟨by (with_reducible repeat (first | apply Kd.R_alloc | apply Kd.R_drewN | apply Kd.R_drew)); exact Kd.R_mono HO124.out (fun _ hk => ⟨hk.1.2, hk.2⟩)⟩, ⟨by repeat (first | (with_reducible first | exact HB.out | apply below_alloc | apply pw_below_drewN | apply below_drew1) | exact HB.out)⟩⟩
                · rw [if_neg c26] at H
                  have c26b0 : (t106 == t111) = false := beq_eq_false_iff_ne.mpr c26
                  have c26b1 : (t106 != t111) = true := bne_iff_ne.mpr c26
                  (first | rw [c26b0] | (simp only [i64_w, i32_w]; rw [c26b0]) | skip)
                  have H' := Aside0.mk H
                  clear H
                  go_wp2
                  go_meet
                  case rel => exact ⟨_, (true), (by first | rfl | (simp; done) | (simp [*]; done)), H', ⟨by have := HJ4.out; have := HK2.out; first | omega | exact Nat.le_refl _⟩, ⟨by (with_reducible repeat (first | apply Kd.R_alloc | apply Kd.R_drewN | apply Kd.R_drew)); exact HO_9.out⟩, ⟨by (with_reducible repeat (first | apply Kd.R_alloc | apply Kd.R_drewN | apply Kd.R_drew)); exact HO_12.out⟩, ⟨by (with_reducible repeat (first | apply Kd.R_alloc | apply Kd.R_drewN | apply Kd.R_drew)); exact Kd.R_mono HO124.out (fun _ hk => ⟨hk.1.2, hk.2⟩)⟩, ⟨by repeat (first | (with_reducible first | exact HB.out | apply below_alloc | apply pw_below_drewN | apply below_drew1) | exact HB.out)⟩⟩
              case rest =>
                clear HC23
                try clear c1
                try clear p1
                try clear q1
                try clear hx1
                try clear c2
                try clear p2
                try clear c6
                try clear p6
                try clear c7
                try clear c10
                try clear p11
                try clear q11
                try clear hx11
                try clear c15
                try clear c17
                try clear c17b0
                try clear c18
                try clear c18b0
                try clear c19
                try clear c24
                try clear c26
                try clear c26b0
                try clear c26b1
                try clear hx114_0
                try clear hx114_1
                try clear hx114_2
                try clear hx115_0
                try clear hx115_1
                try clear hx115_2
                try clear hx116_0
                try clear hx116_1
                try clear hx116_2
                try clear p114
                try clear p115
                try clear p116
                try clear p2
                try clear q114
                try clear q115
                try clear q116
                obtain ⟨kq, x91_22, rfl, HA, HJ22, HO_9, HO_12, HO_17, HB⟩ := hcut
                cases kq with
                | zero => exact absurd HA.out (by simp [trishawlaw03_BranchCosts.j2])
                | succ kj22 =>
                  have H := HA.out
                  clear HA
                  simp only [trishawlaw03_BranchCosts.j2] at H
                  by_cases c27 : x91_22 = true
                  · subst c27
                    have H1 : (some false) = some r := by rw [if_pos rfl] at H; exact H
                    clear H
                    have H := H1
                    clear H1
                    obtain rfl := Option.some.inj H
                    go_wp2
                    go_ret
                    exact ⟨by first | rfl | (simp [errW_none, errW_some] <;> rfl) | (simp [*, errW_none, errW_some] <;> rfl), by repeat (first | (with_reducible first | exact HB.out | apply below_alloc | apply pw_below_drewN | apply below_drew1) | exact HB.out)⟩
                  · replace c27 := Bool.eq_false_iff.mpr c27
                    subst c27
                    have H1 : (if t106 = 0 then ((trishawlaw03_same.f kj22 t120 t109).bind fun t126 => (if t126 = true then (if t121 = (wrap64 ((wrap64 ((wrap64 (a0 - 1)) * 1000)) - t110)) then (trishawlaw03_BranchCosts.j3 kj22 a0 l1 a2 a3 t104 t105 t109 t110 (decide (t105 > t110))) else (trishawlaw03_BranchCosts.j3 kj22 a0 l1 a2 a3 t104 t105 t109 t110 true)) else (trishawlaw03_BranchCosts.j3 kj22 a0 l1 a2 a3 t104 t105 t109 t110 true))) else (if t106 = 10 then ((trishawlaw03_alive.f kj22).bind fun t125 => (some t125)) else (some false))) = some r := by rw [if_neg (show ¬ (false = true) by decide)] at H; exact H
                    clear H
                    have H := H1
                    clear H1
                    by_cases c28 : t106 = 0
                    · rw [if_pos c28] at H
                      have c28b0 : (t106 == 0) = true := beq_iff_eq.mpr c28
                      have c28b1 : (t106 != 0) = false := bne_eq_false_iff_eq.mpr c28
                      clear c28
                      have HC29 := Aside0.mk H
                      clear H
                      go_upto_region 15 with (fail)
                      go_cut [116] (fun v116 wc => ∃ (kq : Nat) (x116_28 : Bool), v116 = .bool x116_28 ∧ Aside0 (trishawlaw03_BranchCosts.j3 kq a0 l1 a2 a3 t104 t105 t109 t110 x116_28 = some r) ∧ Aside0 (kq ≤ kj22) ∧ Aside0 (Kd.R (Kd.int .i64) 3 wc w.heap.size (fun k_ => some k_ ≠ (v112 : Value).ownBlock) v107 t104) ∧ Aside0 (Kd.R (Kd.int .i64) 3 wc w.heap.size (fun k_ => some k_ ≠ (v107 : Value).ownBlock) v112 t109) ∧ Aside0 (Below w.heap.size w wc))
                      case first =>
                        have H := HC29.out
                        clear HC29
                        replace H := Option.bind_eq_some_iff.mp H
                        obtain ⟨t126, A300, H⟩ := H
                        replace H : (if t126 = true then (if t121 = (wrap64 ((wrap64 ((wrap64 (a0 - 1)) * 1000)) - t110)) then (trishawlaw03_BranchCosts.j3 kj22 a0 l1 a2 a3 t104 t105 t109 t110 (decide (t105 > t110))) else (trishawlaw03_BranchCosts.j3 kj22 a0 l1 a2 a3 t104 t105 t109 t110 true)) else (trishawlaw03_BranchCosts.j3 kj22 a0 l1 a2 a3 t104 t105 t109 t110 true)) = some r := H
                        have A30 := Aside0.mk A300
                        clear A300
                        by_cases c31 : t126 = true
                        · subst c31
                          have H1 : (if t121 = (wrap64 ((wrap64 ((wrap64 (a0 - 1)) * 1000)) - t110)) then (trishawlaw03_BranchCosts.j3 kj22 a0 l1 a2 a3 t104 t105 t109 t110 (decide (t105 > t110))) else (trishawlaw03_BranchCosts.j3 kj22 a0 l1 a2 a3 t104 t105 t109 t110 true)) = some r := by rw [if_pos rfl] at H; exact H
                          clear H
                          have H := H1
                          clear H1
                          by_cases c32 : t121 = (wrap64 ((wrap64 ((wrap64 (a0 - 1)) * 1000)) - t110))
                          · rw [if_pos c32] at H
                            have c32b0 : (t121 == (wrap64 ((wrap64 ((wrap64 (a0 - 1)) * 1000)) - t110))) = true := beq_iff_eq.mpr c32
                            have c32b1 : (t121 != (wrap64 ((wrap64 ((wrap64 (a0 - 1)) * 1000)) - t110))) = false := bne_eq_false_iff_eq.mpr c32
                            clear c32
                            (first | rw [c32b0] | (simp only [i64_w, i32_w]; rw [c32b0]) | skip)
                            have H' := Aside0.mk H
                            clear H
                            obtain ⟨Ao33, co33, eo33⟩ := Kd.R_slice HO_17.out
                            subst eo33
                            obtain ⟨Ao34, co34, eo34⟩ := Kd.R_slice HO_12.out
                            subst eo34
                            go_wp2_with (first | ((with_reducible refine gate_callee (f := 25) rfl ?_); refine goesL_ (some 101) rfl rfl Try.func25 (by kernel_rfl) rfl #[.slice Ao33 t120.length co33, .slice Ao34 t109.length co34] rfl (by (try simp only [List.map_toArray, List.map_cons, List.map_nil]); first | done | rfl | (simp only [List.length_drop, List.length_take]; rfl)) ?_; (with_reducible refine (trishawlaw03_same.calls kj22 _ _ t120 _ _ t109 true _ ?side1 ?side2 ?side3 ?side4 A30.out).mono ?_); (case side1 => repeat (first | exact (Kd.R_reads' HO_17.out).2.2 | (with_reducible refine Kd.C_alloc ?_ _) | (with_reducible refine Kd.C_drewN ?_ _) | (with_reducible refine Kd.C_drew ?_))); (case side2 => exact (Kd.R_reads' HO_17.out).2.1); (case side3 => repeat (first | exact (Kd.R_reads' HO_12.out).2.2 | (with_reducible refine Kd.C_alloc ?_ _) | (with_reducible refine Kd.C_drewN ?_ _) | (with_reducible refine Kd.C_drew ?_))); (case side4 => exact (Kd.R_reads' HO_12.out).2.1); rintro e w' ⟨rfl, ⟨nd, rfl⟩⟩; refine ⟨_, rfl, ?_⟩))
                            go_meet
                            case rel => exact ⟨_, (decide (t105 > t110)), (by first | rfl | (simp; done) | (simp [*]; done)), H', ⟨by have := HJ4.out; have := HK2.out; have := HJ22.out; first | omega | exact Nat.le_refl _⟩, ⟨by (with_reducible repeat (first | apply Kd.R_alloc | apply Kd.R_drewN | apply Kd.R_drew)); exact Kd.R_mono HO_9.out (fun _ hk => hk.1)⟩, ⟨by (with_reducible repeat (first | apply Kd.R_alloc | apply Kd.R_drewN | apply Kd.R_drew)); exact Kd.R_mono HO_12.out (fun _ hk => hk.1)⟩, ⟨by repeat (first | (with_reducible first | exact HB.out | apply below_alloc | apply pw_below_drewN | apply below_drew1) | exact HB.out)⟩⟩
                          · rw [if_neg c32] at H
                            have c32b0 : (t121 == (wrap64 ((wrap64 ((wrap64 (a0 - 1)) * 1000)) - t110))) = false := beq_eq_false_iff_ne.mpr c32
                            have c32b1 : (t121 != (wrap64 ((wrap64 ((wrap64 (a0 - 1)) * 1000)) - t110))) = true := bne_iff_ne.mpr c32
                            (first | rw [c32b0] | (simp only [i64_w, i32_w]; rw [c32b0]) | skip)
                            have H' := Aside0.mk H
                            clear H
                            obtain ⟨Ao35, co35, eo35⟩ := Kd.R_slice HO_17.out
                            subst eo35
                            obtain ⟨Ao36, co36, eo36⟩ := Kd.R_slice HO_12.out
                            subst eo36
                            go_wp2_with (first | ((with_reducible refine gate_callee (f := 25) rfl ?_); refine goesL_ (some 101) rfl rfl Try.func25 (by kernel_rfl) rfl #[.slice Ao35 t120.length co35, .slice Ao36 t109.length co36] rfl (by (try simp only [List.map_toArray, List.map_cons, List.map_nil]); first | done | rfl | (simp only [List.length_drop, List.length_take]; rfl)) ?_; (with_reducible refine (trishawlaw03_same.calls kj22 _ _ t120 _ _ t109 true _ ?side1 ?side2 ?side3 ?side4 A30.out).mono ?_); (case side1 => repeat (first | exact (Kd.R_reads' HO_17.out).2.2 | (with_reducible refine Kd.C_alloc ?_ _) | (with_reducible refine Kd.C_drewN ?_ _) | (with_reducible refine Kd.C_drew ?_))); (case side2 => exact (Kd.R_reads' HO_17.out).2.1); (case side3 => repeat (first | exact (Kd.R_reads' HO_12.out).2.2 | (with_reducible refine Kd.C_alloc ?_ _) | (with_reducible refine Kd.C_drewN ?_ _) | (with_reducible refine Kd.C_drew ?_))); (case side4 => exact (Kd.R_reads' HO_12.out).2.1); rintro e w' ⟨rfl, ⟨nd, rfl⟩⟩; refine ⟨_, rfl, ?_⟩))
                            go_meet
                            case rel => exact ⟨_, (true), (by first | rfl | (simp; done) | (simp [*]; done)), H', ⟨by have := HJ4.out; have := HK2.out; have := HJ22.out; first | omega | exact Nat.le_refl _⟩, ⟨by (with_reducible repeat (first | apply Kd.R_alloc | apply Kd.R_drewN | apply Kd.R_drew)); exact Kd.R_mono HO_9.out (fun _ hk => hk.1)⟩, ⟨by (with_reducible repeat (first | apply Kd.R_alloc | apply Kd.R_drewN | apply Kd.R_drew)); exact Kd.R_mono HO_12.out (fun _ hk => hk.1)⟩, ⟨by repeat (first | (with_reducible first | exact HB.out | apply below_alloc | apply pw_below_drewN | apply below_drew1) | exact HB.out)⟩⟩
                        · replace c31 := Bool.eq_false_iff.mpr c31
                          subst c31
                          have H1 : (trishawlaw03_BranchCosts.j3 kj22 a0 l1 a2 a3 t104 t105 t109 t110 true) = some r := by rw [if_neg (show ¬ (false = true) by decide)] at H; exact H
                          clear H
                          have H := H1
                          clear H1
                          have H' := Aside0.mk H
                          clear H
                          obtain ⟨Ao37, co37, eo37⟩ := Kd.R_slice HO_17.out
                          subst eo37
                          obtain ⟨Ao38, co38, eo38⟩ := Kd.R_slice HO_12.out
                          subst eo38
                          go_wp2_with (first | ((with_reducible refine gate_callee (f := 25) rfl ?_); refine goesL_ (some 101) rfl rfl Try.func25 (by kernel_rfl) rfl #[.slice Ao37 t120.length co37, .slice Ao38 t109.length co38] rfl (by (try simp only [List.map_toArray, List.map_cons, List.map_nil]); first | done | rfl | (simp only [List.length_drop, List.length_take]; rfl)) ?_; (with_reducible refine (trishawlaw03_same.calls kj22 _ _ t120 _ _ t109 false _ ?side1 ?side2 ?side3 ?side4 A30.out).mono ?_); (case side1 => repeat (first | exact (Kd.R_reads' HO_17.out).2.2 | (with_reducible refine Kd.C_alloc ?_ _) | (with_reducible refine Kd.C_drewN ?_ _) | (with_reducible refine Kd.C_drew ?_))); (case side2 => exact (Kd.R_reads' HO_17.out).2.1); (case side3 => repeat (first | exact (Kd.R_reads' HO_12.out).2.2 | (with_reducible refine Kd.C_alloc ?_ _) | (with_reducible refine Kd.C_drewN ?_ _) | (with_reducible refine Kd.C_drew ?_))); (case side4 => exact (Kd.R_reads' HO_12.out).2.1); rintro e w' ⟨rfl, ⟨nd, rfl⟩⟩; refine ⟨_, rfl, ?_⟩))
                          go_meet
                          case rel => exact ⟨_, (true), (by first | rfl | (simp; done) | (simp [*]; done)), H', ⟨by have := HJ4.out; have := HK2.out; have := HJ22.out; first | omega | exact Nat.le_refl _⟩, ⟨by (with_reducible repeat (first | apply Kd.R_alloc | apply Kd.R_drewN | apply Kd.R_drew)); exact Kd.R_mono HO_9.out (fun _ hk => hk.1)⟩, ⟨by (with_reducible repeat (first | apply Kd.R_alloc | apply Kd.R_drewN | apply Kd.R_drew)); exact Kd.R_mono HO_12.out (fun _ hk => hk.1)⟩, ⟨by repeat (first | (with_reducible first | exact HB.out | apply below_alloc | apply pw_below_drewN | apply below_drew1) | exact HB.out)⟩⟩
                      case rest =>
                        clear HC29
                        try clear c1
                        try clear p1
                        try clear q1
                        try clear hx1
                        try clear c2
                        try clear p2
                        try clear c3
                        try clear c6
                        try clear p6
                        try clear c7
                        try clear c10
                        try clear p11
                        try clear q11
                        try clear hx11
                        try clear c15
                        try clear c17
                        try clear c17b0
                        try clear c18
                        try clear c18b0
                        try clear c19
                        try clear c24
                        try clear c25
                        try clear c26
                        try clear c26b0
                        try clear c26b1
                        try clear c27
                        try clear c28
                        try clear c28b0
                        try clear c28b1
                        try clear c31
                        try clear c32
                        try clear c32b0
                        try clear c32b1
                        try clear hx114_0
                        try clear hx114_1
                        try clear hx114_2
                        try clear hx115_0
                        try clear hx115_1
                        try clear hx115_2
                        try clear hx116_0
                        try clear hx116_1
                        try clear hx116_2
                        try clear p1
                        try clear p11
                        try clear p114
                        try clear p115
                        try clear p116
                        try clear p2
                        try clear p6
                        try clear q1
                        try clear q11
                        try clear q114
                        try clear q115
                        try clear q116
                        obtain ⟨kq, x116_28, rfl, HA, HJ28, HO_9, HO_12, HB⟩ := hcut
                        cases kq with
                        | zero => exact absurd HA.out (by simp [trishawlaw03_BranchCosts.j3])
                        | succ kj28 =>
                          have H := HA.out
                          clear HA
                          simp only [trishawlaw03_BranchCosts.j3] at H
                          by_cases c39 : x116_28 = true
                          · subst c39
                            have H1 : (some false) = some r := by rw [if_pos rfl] at H; exact H
                            clear H
                            have H := H1
                            clear H1
                            obtain rfl := Option.some.inj H
                            go_wp2
                            go_ret
                            exact ⟨by first | rfl | (simp [errW_none, errW_some] <;> rfl) | (simp [*, errW_none, errW_some] <;> rfl), by repeat (first | (with_reducible first | exact HB.out | apply below_alloc | apply pw_below_drewN | apply below_drew1) | exact HB.out)⟩
                          · replace c39 := Bool.eq_false_iff.mpr c39
                            subst c39
                            have H1 : (if (wrap64 (a0 - 1)) = 0 then (none) else ((trishawlaw03_dearer.f kj28 l1 (wrap64 (1 + (Int.tmod (wrap64 (a2)) (wrap64 (a0 - 1))))) (wrap64 (Int.tmod a3 1001))).bind fun bt127 => (if bt127.2 = true then ((branch_Branching.f kj28 a0 bt127.1).bind fun bt132 => ((branch_Dear.f kj28 a0 bt127.1).bind fun bt137 => (if bt132.2.2 = 0 then (if bt137.2.2 = 0 then ((trishawlaw03_same.f kj28 bt132.1 t104).bind fun t142 => (if t142 = true then (if bt132.2.1 = (wrap64 (t105 + (wrap64 (Int.tmod a3 1001)))) then ((trishawlaw03_same.f kj28 bt137.1 t109).bind fun t143 => (if t143 = true then (if bt137.2.1 = (wrap64 (t110 + (wrap64 (Int.tmod a3 1001)))) then ((trishawlaw03_alive.f kj28).bind fun t144 => (some t144)) else (some false)) else (some false))) else (some false)) else (some false))) else (some false)) else (some false)))) else ((trishawlaw03_alive.f kj28).bind fun t131 => (some t131))))) = some r := by rw [if_neg (show ¬ (false = true) by decide)] at H; exact H
                            clear H
                            have H := H1
                            clear H1
                            by_cases c40 : (wrap64 (a0 - 1)) = 0
                            · rw [if_pos c40] at H
                              exact absurd H (by simp)
                            · rw [if_neg c40] at H
                              have c40b0 : ((wrap64 (a0 - 1)) == 0) = false := beq_eq_false_iff_ne.mpr c40
                              have c40b1 : ((wrap64 (a0 - 1)) != 0) = true := bne_iff_ne.mpr c40
                              replace H := Option.bind_eq_some_iff.mp H
                              obtain ⟨⟨t127, t128⟩, A410, H⟩ := H
                              replace H : (if t128 = true then ((branch_Branching.f kj28 a0 t127).bind fun bt132 => ((branch_Dear.f kj28 a0 t127).bind fun bt137 => (if bt132.2.2 = 0 then (if bt137.2.2 = 0 then ((trishawlaw03_same.f kj28 bt132.1 t104).bind fun t142 => (if t142 = true then (if bt132.2.1 = (wrap64 (t105 + (wrap64 (Int.tmod a3 1001)))) then ((trishawlaw03_same.f kj28 bt137.1 t109).bind fun t143 => (if t143 = true then (if bt137.2.1 = (wrap64 (t110 + (wrap64 (Int.tmod a3 1001)))) then ((trishawlaw03_alive.f kj28).bind fun t144 => (some t144)) else (some false)) else (some false))) else (some false)) else (some false))) else (some false)) else (some false)))) else ((trishawlaw03_alive.f kj28).bind fun t131 => (some t131))) = some r := H
                              have A41 := Aside0.mk A410
                              clear A410
                              by_cases c42 : t128 = true
                              · subst c42
                                have H1 : ((branch_Branching.f kj28 a0 t127).bind fun bt132 => ((branch_Dear.f kj28 a0 t127).bind fun bt137 => (if bt132.2.2 = 0 then (if bt137.2.2 = 0 then ((trishawlaw03_same.f kj28 bt132.1 t104).bind fun t142 => (if t142 = true then (if bt132.2.1 = (wrap64 (t105 + (wrap64 (Int.tmod a3 1001)))) then ((trishawlaw03_same.f kj28 bt137.1 t109).bind fun t143 => (if t143 = true then (if bt137.2.1 = (wrap64 (t110 + (wrap64 (Int.tmod a3 1001)))) then ((trishawlaw03_alive.f kj28).bind fun t144 => (some t144)) else (some false)) else (some false))) else (some false)) else (some false))) else (some false)) else (some false)))) = some r := by rw [if_pos rfl] at H; exact H
                                clear H
                                have H := H1
                                clear H1
                                replace H := Option.bind_eq_some_iff.mp H
                                obtain ⟨⟨t132, t133, t134⟩, A430, H⟩ := H
                                replace H : ((branch_Dear.f kj28 a0 t127).bind fun bt137 => (if t134 = 0 then (if bt137.2.2 = 0 then ((trishawlaw03_same.f kj28 t132 t104).bind fun t142 => (if t142 = true then (if t133 = (wrap64 (t105 + (wrap64 (Int.tmod a3 1001)))) then ((trishawlaw03_same.f kj28 bt137.1 t109).bind fun t143 => (if t143 = true then (if bt137.2.1 = (wrap64 (t110 + (wrap64 (Int.tmod a3 1001)))) then ((trishawlaw03_alive.f kj28).bind fun t144 => (some t144)) else (some false)) else (some false))) else (some false)) else (some false))) else (some false)) else (some false))) = some r := H
                                have A43 := Aside0.mk A430
                                clear A430
                                replace H := Option.bind_eq_some_iff.mp H
                                obtain ⟨⟨t137, t138, t139⟩, A440, H⟩ := H
                                replace H : (if t134 = 0 then (if t139 = 0 then ((trishawlaw03_same.f kj28 t132 t104).bind fun t142 => (if t142 = true then (if t133 = (wrap64 (t105 + (wrap64 (Int.tmod a3 1001)))) then ((trishawlaw03_same.f kj28 t137 t109).bind fun t143 => (if t143 = true then (if t138 = (wrap64 (t110 + (wrap64 (Int.tmod a3 1001)))) then ((trishawlaw03_alive.f kj28).bind fun t144 => (some t144)) else (some false)) else (some false))) else (some false)) else (some false))) else (some false)) else (some false)) = some r := H
                                have A44 := Aside0.mk A440
                                clear A440
                                by_cases c45 : t134 = 0
                                · rw [if_pos c45] at H
                                  have c45b0 : (t134 == 0) = true := beq_iff_eq.mpr c45
                                  have c45b1 : (t134 != 0) = false := bne_eq_false_iff_eq.mpr c45
                                  clear c45
                                  by_cases c46 : t139 = 0
                                  · rw [if_pos c46] at H
                                    have c46b0 : (t139 == 0) = true := beq_iff_eq.mpr c46
                                    have c46b1 : (t139 != 0) = false := bne_eq_false_iff_eq.mpr c46
                                    clear c46
                                    replace H := Option.bind_eq_some_iff.mp H
                                    obtain ⟨t142, A470, H⟩ := H
                                    replace H : (if t142 = true then (if t133 = (wrap64 (t105 + (wrap64 (Int.tmod a3 1001)))) then ((trishawlaw03_same.f kj28 t137 t109).bind fun t143 => (if t143 = true then (if t138 = (wrap64 (t110 + (wrap64 (Int.tmod a3 1001)))) then ((trishawlaw03_alive.f kj28).bind fun t144 => (some t144)) else (some false)) else (some false))) else (some false)) else (some false)) = some r := H
                                    have A47 := Aside0.mk A470
                                    clear A470
                                    by_cases c48 : t142 = true
                                    · subst c48
                                      have H1 : (if t133 = (wrap64 (t105 + (wrap64 (Int.tmod a3 1001)))) then ((trishawlaw03_same.f kj28 t137 t109).bind fun t143 => (if t143 = true then (if t138 = (wrap64 (t110 + (wrap64 (Int.tmod a3 1001)))) then ((trishawlaw03_alive.f kj28).bind fun t144 => (some t144)) else (some false)) else (some false))) else (some false)) = some r := by rw [if_pos rfl] at H; exact H
                                      clear H
                                      have H := H1
                                      clear H1
                                      by_cases c49 : t133 = (wrap64 (t105 + (wrap64 (Int.tmod a3 1001))))
                                      · rw [if_pos c49] at H
                                        have c49b0 : (t133 == (wrap64 (t105 + (wrap64 (Int.tmod a3 1001))))) = true := beq_iff_eq.mpr c49
                                        have c49b1 : (t133 != (wrap64 (t105 + (wrap64 (Int.tmod a3 1001))))) = false := bne_eq_false_iff_eq.mpr c49
                                        clear c49
                                        replace H := Option.bind_eq_some_iff.mp H
                                        obtain ⟨t143, A500, H⟩ := H
                                        replace H : (if t143 = true then (if t138 = (wrap64 (t110 + (wrap64 (Int.tmod a3 1001)))) then ((trishawlaw03_alive.f kj28).bind fun t144 => (some t144)) else (some false)) else (some false)) = some r := H
                                        have A50 := Aside0.mk A500
                                        clear A500
                                        by_cases c51 : t143 = true
                                        · subst c51
                                          have H1 : (if t138 = (wrap64 (t110 + (wrap64 (Int.tmod a3 1001)))) then ((trishawlaw03_alive.f kj28).bind fun t144 => (some t144)) else (some false)) = some r := by rw [if_pos rfl] at H; exact H
                                          clear H
                                          have H := H1
                                          clear H1
                                          by_cases c52 : t138 = (wrap64 (t110 + (wrap64 (Int.tmod a3 1001))))
                                          · rw [if_pos c52] at H
                                            have c52b0 : (t138 == (wrap64 (t110 + (wrap64 (Int.tmod a3 1001))))) = true := beq_iff_eq.mpr c52
                                            have c52b1 : (t138 != (wrap64 (t110 + (wrap64 (Int.tmod a3 1001))))) = false := bne_eq_false_iff_eq.mpr c52
                                            clear c52
                                            replace H := Option.bind_eq_some_iff.mp H
                                            obtain ⟨t144, A530, H⟩ := H
                                            replace H : (some t144) = some r := H
                                            have A53 := Aside0.mk A530
                                            clear A530
                                            obtain rfl := Option.some.inj H
                                            go_wp2_with (first | ((with_reducible refine gate_callee (f := 29) rfl ?_); refine goesL_ (some 129) rfl rfl Try.func29 (by kernel_rfl) rfl #[.slice A1 l1.length c1, .int .i64 (wrap64 (1 + (Int.tmod (wrap64 (a2)) (wrap64 (a0 - 1))))), .int .i64 (wrap64 (Int.tmod a3 1001))] rfl (by (try simp only [List.map_toArray, List.map_cons, List.map_nil]); first | done | rfl | (simp only [List.length_drop, List.length_take]; rfl)) ?_; (with_reducible refine (trishawlaw03_dearer.calls kj28 _ _ l1 (wrap64 (1 + (Int.tmod (wrap64 (a2)) (wrap64 (a0 - 1))))) (wrap64 (Int.tmod a3 1001)) t127 true _ ?side1 ?side2 A41.out).mono ?_); (case side1 => repeat (first | exact (Kd.C_below HR1.out HB.out) | (with_reducible refine Kd.C_alloc ?_ _) | (with_reducible refine Kd.C_drewN ?_ _) | (with_reducible refine Kd.C_drew ?_))); (case side2 => exact HC1.out); rintro e w54 ⟨v129, rfl, ho0, hb⟩; refine ⟨_, rfl, ?_⟩; have n0_ := Aside0.mk (Kd.R_below (by (with_reducible repeat (first | apply Kd.R_alloc | apply Kd.R_drewN | apply Kd.R_drew)); exact HO_9.out) hb); have n1_ := Aside0.mk (Kd.R_below (by (with_reducible repeat (first | apply Kd.R_alloc | apply Kd.R_drewN | apply Kd.R_drew)); exact HO_12.out) hb); have n2_ := Aside0.mk (Kd.R_lower ho0 (below_size (by repeat (first | (with_reducible first | exact HB.out | apply below_alloc | apply pw_below_drewN | apply below_drew1) | exact HB.out)))); have n3_ := Aside0.mk (below_step (by repeat (first | (with_reducible first | exact HB.out | apply below_alloc | apply pw_below_drewN | apply below_drew1) | exact HB.out)) hb); clear HO_9; clear HO_12; clear HB; have HO_9 := n0_; have HO_12 := n1_; have HO130 := n2_; have HB := n3_; clear n0_ n1_ n2_ n3_; (try clear hb); (try clear hb2); (try clear hk); (try clear hi); (try clear ho0); obtain ⟨Ao55, co55, eo55⟩ := Kd.R_slice HO130.out; subst eo55) | ((with_reducible refine gate_callee (f := 24) rfl ?_); refine goesL_ (some 138) rfl rfl Try.func24 (by kernel_rfl) rfl #[.int .i64 a0, .slice Ao55 t127.length co55] rfl (by (try simp only [List.map_toArray, List.map_cons, List.map_nil]); first | done | rfl | (simp only [List.length_drop, List.length_take]; rfl)) ?_; (with_reducible refine (branch_Branching.calls kj28 a0 _ _ t127 t132 t133 t134 _ ?side1 ?side2 A43.out).mono ?_); (case side1 => repeat (first | exact (Kd.R_reads' HO130.out).2.2 | (with_reducible refine Kd.C_alloc ?_ _) | (with_reducible refine Kd.C_drewN ?_ _) | (with_reducible refine Kd.C_drew ?_))); (case side2 => exact (Kd.R_reads' HO130.out).2.1); rintro e w56 ⟨v135, rfl, ho0, hb⟩; refine ⟨_, rfl, ?_⟩; have n0_ := Aside0.mk (Kd.R_elder' (by (with_reducible repeat (first | apply Kd.R_alloc | apply Kd.R_drewN | apply Kd.R_drew)); exact HO_9.out) (Kd.R_base ho0) hb); have n1_ := Aside0.mk (Kd.R_elder' (by (with_reducible repeat (first | apply Kd.R_alloc | apply Kd.R_drewN | apply Kd.R_drew)); exact HO_12.out) (Kd.R_base ho0) hb); have n2_ := Aside0.mk (Kd.R_below (by (with_reducible repeat (first | apply Kd.R_alloc | apply Kd.R_drewN | apply Kd.R_drew)); exact HO130.out) hb); have n3_ := Aside0.mk (Kd.R_lower (Kd.R_new' (Kd.R_new' ho0 (Kd.R_lt (by (with_reducible repeat (first | apply Kd.R_alloc | apply Kd.R_drewN | apply Kd.R_drew)); exact HO_9.out))) (Kd.R_lt (by (with_reducible repeat (first | apply Kd.R_alloc | apply Kd.R_drewN | apply Kd.R_drew)); exact HO_12.out))) (below_size (by repeat (first | (with_reducible first | exact HB.out | apply below_alloc | apply pw_below_drewN | apply below_drew1) | exact HB.out)))); have n4_ := Aside0.mk (below_step (by repeat (first | (with_reducible first | exact HB.out | apply below_alloc | apply pw_below_drewN | apply below_drew1) | exact HB.out)) hb); clear HO_9; clear HO_12; clear HO130; clear HB; have HO_9 := n0_; have HO_12 := n1_; have HO130 := n2_; have HO136 := n3_; have HB := n4_; clear n0_ n1_ n2_ n3_ n4_; (try clear hb); (try clear hb2); (try clear hk); (try clear hi); (try clear ho0)) | ((with_reducible refine gate_callee (f := 26) rfl ?_); refine goesL_ (some 145) rfl rfl Try.func26 (by kernel_rfl) rfl #[.int .i64 a0, .slice Ao55 t127.length co55] rfl (by (try simp only [List.map_toArray, List.map_cons, List.map_nil]); first | done | rfl | (simp only [List.length_drop, List.length_take]; rfl)) ?_; (with_reducible refine (branch_Dear.calls kj28 a0 _ _ t127 t137 t138 t139 _ ?side1 ?side2 A44.out).mono ?_); (case side1 => repeat (first | exact (Kd.R_reads' HO130.out).2.2 | (with_reducible refine Kd.C_alloc ?_ _) | (with_reducible refine Kd.C_drewN ?_ _) | (with_reducible refine Kd.C_drew ?_))); (case side2 => exact (Kd.R_reads' HO130.out).2.1); rintro e w57 ⟨v140, rfl, ho0, hb⟩; refine ⟨_, rfl, ?_⟩; have n0_ := Aside0.mk (Kd.R_elder' (by (with_reducible repeat (first | apply Kd.R_alloc | apply Kd.R_drewN | apply Kd.R_drew)); exact HO_9.out) (Kd.R_base ho0) hb); have n1_ := Aside0.mk (Kd.R_elder' (by (with_reducible repeat (first | apply Kd.R_alloc | apply Kd.R_drewN | apply Kd.R_drew)); exact HO_12.out) (Kd.R_base ho0) hb); have n2_ := Aside0.mk (Kd.R_below (by (with_reducible repeat (first | apply Kd.R_alloc | apply Kd.R_drewN | apply Kd.R_drew)); exact HO130.out) hb); have n3_ := Aside0.mk (Kd.R_elder' (by (with_reducible repeat (first | apply Kd.R_alloc | apply Kd.R_drewN | apply Kd.R_drew)); exact HO136.out) (Kd.R_base ho0) hb); have n4_ := Aside0.mk (Kd.R_lower (Kd.R_new' (Kd.R_new' (Kd.R_new' ho0 (Kd.R_lt (by (with_reducible repeat (first | apply Kd.R_alloc | apply Kd.R_drewN | apply Kd.R_drew)); exact HO_9.out))) (Kd.R_lt (by (with_reducible repeat (first | apply Kd.R_alloc | apply Kd.R_drewN | apply Kd.R_drew)); exact HO_12.out))) (Kd.R_lt (by (with_reducible repeat (first | apply Kd.R_alloc | apply Kd.R_drewN | apply Kd.R_drew)); exact HO136.out))) (below_size (by repeat (first | (with_reducible first | exact HB.out | apply below_alloc | apply pw_below_drewN | apply below_drew1) | exact HB.out)))); have n5_ := Aside0.mk (below_step (by repeat (first | (with_reducible first | exact HB.out | apply below_alloc | apply pw_below_drewN | apply below_drew1) | exact HB.out)) hb); clear HO_9; clear HO_12; clear HO130; clear HO136; clear HB; have HO_9 := n0_; have HO_12 := n1_; have HO130 := n2_; have HO136 := n3_; have HO141 := n4_; have HB := n5_; clear n0_ n1_ n2_ n3_ n4_ n5_; (try clear hb); (try clear hb2); (try clear hk); (try clear hi); (try clear ho0); obtain ⟨Ao58, co58, eo58⟩ := Kd.R_slice HO136.out; subst eo58; obtain ⟨Ao59, co59, eo59⟩ := Kd.R_slice HO_9.out; subst eo59) | (go_at_call 25; (with_reducible refine (trishawlaw03_same.calls kj28 _ _ t132 _ _ t104 true _ ?side1 ?side2 ?side3 ?side4 A47.out).mono ?_); (case side1 => repeat (first | exact (Kd.R_reads' HO136.out).2.2 | (with_reducible refine Kd.C_alloc ?_ _) | (with_reducible refine Kd.C_drewN ?_ _) | (with_reducible refine Kd.C_drew ?_))); (case side2 => exact (Kd.R_reads' HO136.out).2.1); (case side3 => repeat (first | exact (Kd.R_reads' HO_9.out).2.2 | (with_reducible refine Kd.C_alloc ?_ _) | (with_reducible refine Kd.C_drewN ?_ _) | (with_reducible refine Kd.C_drew ?_))); (case side4 => exact (Kd.R_reads' HO_9.out).2.1); rintro e w' ⟨rfl, ⟨nd, rfl⟩⟩; obtain ⟨Ao60, co60, eo60⟩ := Kd.R_slice HO141.out; subst eo60; obtain ⟨Ao61, co61, eo61⟩ := Kd.R_slice HO_12.out; subst eo61) | (go_at_call 25; (with_reducible refine (trishawlaw03_same.calls kj28 _ _ t137 _ _ t109 true _ ?side1 ?side2 ?side3 ?side4 A50.out).mono ?_); (case side1 => repeat (first | exact (Kd.R_reads' HO141.out).2.2 | (with_reducible refine Kd.C_alloc ?_ _) | (with_reducible refine Kd.C_drewN ?_ _) | (with_reducible refine Kd.C_drew ?_))); (case side2 => exact (Kd.R_reads' HO141.out).2.1); (case side3 => repeat (first | exact (Kd.R_reads' HO_12.out).2.2 | (with_reducible refine Kd.C_alloc ?_ _) | (with_reducible refine Kd.C_drewN ?_ _) | (with_reducible refine Kd.C_drew ?_))); (case side4 => exact (Kd.R_reads' HO_12.out).2.1); rintro e w' ⟨rfl, ⟨nd, rfl⟩⟩) | (go_at_call 17; (with_reducible refine (trishawlaw03_alive.calls kj28  t144 _ A53.out).mono ?_); rintro e w62 ⟨rfl, hb⟩; have n0_ := Aside0.mk (Kd.R_below (by (with_reducible repeat (first | apply Kd.R_alloc | apply Kd.R_drewN | apply Kd.R_drew)); exact HO_9.out) hb); have n1_ := Aside0.mk (Kd.R_below (by (with_reducible repeat (first | apply Kd.R_alloc | apply Kd.R_drewN | apply Kd.R_drew)); exact HO_12.out) hb); have n2_ := Aside0.mk (Kd.R_below (by (with_reducible repeat (first | apply Kd.R_alloc | apply Kd.R_drewN | apply Kd.R_drew)); exact HO130.out) hb); have n3_ := Aside0.mk (Kd.R_below (by (with_reducible repeat (first | apply Kd.R_alloc | apply Kd.R_drewN | apply Kd.R_drew)); exact HO136.out) hb); have n4_ := Aside0.mk (Kd.R_below (by (with_reducible repeat (first | apply Kd.R_alloc | apply Kd.R_drewN | apply Kd.R_drew)); exact HO141.out) hb); have n5_ := Aside0.mk (below_step (by repeat (first | (with_reducible first | exact HB.out | apply below_alloc | apply pw_below_drewN | apply below_drew1) | exact HB.out)) hb); clear HO_9; clear HO_12; clear HO130; clear HO136; clear HO141; clear HB; have HO_9 := n0_; have HO_12 := n1_; have HO130 := n2_; have HO136 := n3_; have HO141 := n4_; have HB := n5_; clear n0_ n1_ n2_ n3_ n4_ n5_; (try clear hb); (try clear hb2); (try clear hk); (try clear hi)))
                                            go_ret
                                            exact ⟨by first | rfl | (simp [errW_none, errW_some] <;> rfl) | (simp [*, errW_none, errW_some] <;> rfl), by repeat (first | (with_reducible first | exact HB.out | apply below_alloc | apply pw_below_drewN | apply below_drew1) | exact HB.out)⟩
                                          · rw [if_neg c52] at H
                                            have c52b0 : (t138 == (wrap64 (t110 + (wrap64 (Int.tmod a3 1001))))) = false := beq_eq_false_iff_ne.mpr c52
                                            have c52b1 : (t138 != (wrap64 (t110 + (wrap64 (Int.tmod a3 1001))))) = true := bne_iff_ne.mpr c52
                                            obtain rfl := Option.some.inj H
                                            go_wp2_with (first | ((with_reducible refine gate_callee (f := 29) rfl ?_); refine goesL_ (some 129) rfl rfl Try.func29 (by kernel_rfl) rfl #[.slice A1 l1.length c1, .int .i64 (wrap64 (1 + (Int.tmod (wrap64 (a2)) (wrap64 (a0 - 1))))), .int .i64 (wrap64 (Int.tmod a3 1001))] rfl (by (try simp only [List.map_toArray, List.map_cons, List.map_nil]); first | done | rfl | (simp only [List.length_drop, List.length_take]; rfl)) ?_; (with_reducible refine (trishawlaw03_dearer.calls kj28 _ _ l1 (wrap64 (1 + (Int.tmod (wrap64 (a2)) (wrap64 (a0 - 1))))) (wrap64 (Int.tmod a3 1001)) t127 true _ ?side1 ?side2 A41.out).mono ?_); (case side1 => repeat (first | exact (Kd.C_below HR1.out HB.out) | (with_reducible refine Kd.C_alloc ?_ _) | (with_reducible refine Kd.C_drewN ?_ _) | (with_reducible refine Kd.C_drew ?_))); (case side2 => exact HC1.out); rintro e w63 ⟨v129, rfl, ho0, hb⟩; refine ⟨_, rfl, ?_⟩; have n0_ := Aside0.mk (Kd.R_below (by (with_reducible repeat (first | apply Kd.R_alloc | apply Kd.R_drewN | apply Kd.R_drew)); exact HO_9.out) hb); have n1_ := Aside0.mk (Kd.R_below (by (with_reducible repeat (first | apply Kd.R_alloc | apply Kd.R_drewN | apply Kd.R_drew)); exact HO_12.out) hb); have n2_ := Aside0.mk (Kd.R_lower ho0 (below_size (by repeat (first | (with_reducible first | exact HB.out | apply below_alloc | apply pw_below_drewN | apply below_drew1) | exact HB.out)))); have n3_ := Aside0.mk (below_step (by repeat (first | (with_reducible first | exact HB.out | apply below_alloc | apply pw_below_drewN | apply below_drew1) | exact HB.out)) hb); clear HO_9; clear HO_12; clear HB; have HO_9 := n0_; have HO_12 := n1_; have HO130 := n2_; have HB := n3_; clear n0_ n1_ n2_ n3_; (try clear hb); (try clear hb2); (try clear hk); (try clear hi); (try clear ho0); obtain ⟨Ao64, co64, eo64⟩ := Kd.R_slice HO130.out; subst eo64) | ((with_reducible refine gate_callee (f := 24) rfl ?_); refine goesL_ (some 138) rfl rfl Try.func24 (by kernel_rfl) rfl #[.int .i64 a0, .slice Ao64 t127.length co64] rfl (by (try simp only [List.map_toArray, List.map_cons, List.map_nil]); first | done | rfl | (simp only [List.length_drop, List.length_take]; rfl)) ?_; (with_reducible refine (branch_Branching.calls kj28 a0 _ _ t127 t132 t133 t134 _ ?side1 ?side2 A43.out).mono ?_); (case side1 => repeat (first | exact (Kd.R_reads' HO130.out).2.2 | (with_reducible refine Kd.C_alloc ?_ _) | (with_reducible refine Kd.C_drewN ?_ _) | (with_reducible refine Kd.C_drew ?_))); (case side2 => exact (Kd.R_reads' HO130.out).2.1); rintro e w65 ⟨v135, rfl, ho0, hb⟩; refine ⟨_, rfl, ?_⟩; have n0_ := Aside0.mk (Kd.R_elder' (by (with_reducible repeat (first | apply Kd.R_alloc | apply Kd.R_drewN | apply Kd.R_drew)); exact HO_9.out) (Kd.R_base ho0) hb); have n1_ := Aside0.mk (Kd.R_elder' (by (with_reducible repeat (first | apply Kd.R_alloc | apply Kd.R_drewN | apply Kd.R_drew)); exact HO_12.out) (Kd.R_base ho0) hb); have n2_ := Aside0.mk (Kd.R_below (by (with_reducible repeat (first | apply Kd.R_alloc | apply Kd.R_drewN | apply Kd.R_drew)); exact HO130.out) hb); have n3_ := Aside0.mk (Kd.R_lower (Kd.R_new' (Kd.R_new' ho0 (Kd.R_lt (by (with_reducible repeat (first | apply Kd.R_alloc | apply Kd.R_drewN | apply Kd.R_drew)); exact HO_9.out))) (Kd.R_lt (by (with_reducible repeat (first | apply Kd.R_alloc | apply Kd.R_drewN | apply Kd.R_drew)); exact HO_12.out))) (below_size (by repeat (first | (with_reducible first | exact HB.out | apply below_alloc | apply pw_below_drewN | apply below_drew1) | exact HB.out)))); have n4_ := Aside0.mk (below_step (by repeat (first | (with_reducible first | exact HB.out | apply below_alloc | apply pw_below_drewN | apply below_drew1) | exact HB.out)) hb); clear HO_9; clear HO_12; clear HO130; clear HB; have HO_9 := n0_; have HO_12 := n1_; have HO130 := n2_; have HO136 := n3_; have HB := n4_; clear n0_ n1_ n2_ n3_ n4_; (try clear hb); (try clear hb2); (try clear hk); (try clear hi); (try clear ho0)) | ((with_reducible refine gate_callee (f := 26) rfl ?_); refine goesL_ (some 145) rfl rfl Try.func26 (by kernel_rfl) rfl #[.int .i64 a0, .slice Ao64 t127.length co64] rfl (by (try simp only [List.map_toArray, List.map_cons, List.map_nil]); first | done | rfl | (simp only [List.length_drop, List.length_take]; rfl)) ?_; (with_reducible refine (branch_Dear.calls kj28 a0 _ _ t127 t137 t138 t139 _ ?side1 ?side2 A44.out).mono ?_); (case side1 => repeat (first | exact (Kd.R_reads' HO130.out).2.2 | (with_reducible refine Kd.C_alloc ?_ _) | (with_reducible refine Kd.C_drewN ?_ _) | (with_reducible refine Kd.C_drew ?_))); (case side2 => exact (Kd.R_reads' HO130.out).2.1); rintro e w66 ⟨v140, rfl, ho0, hb⟩; refine ⟨_, rfl, ?_⟩; have n0_ := Aside0.mk (Kd.R_elder' (by (with_reducible repeat (first | apply Kd.R_alloc | apply Kd.R_drewN | apply Kd.R_drew)); exact HO_9.out) (Kd.R_base ho0) hb); have n1_ := Aside0.mk (Kd.R_elder' (by (with_reducible repeat (first | apply Kd.R_alloc | apply Kd.R_drewN | apply Kd.R_drew)); exact HO_12.out) (Kd.R_base ho0) hb); have n2_ := Aside0.mk (Kd.R_below (by (with_reducible repeat (first | apply Kd.R_alloc | apply Kd.R_drewN | apply Kd.R_drew)); exact HO130.out) hb); have n3_ := Aside0.mk (Kd.R_elder' (by (with_reducible repeat (first | apply Kd.R_alloc | apply Kd.R_drewN | apply Kd.R_drew)); exact HO136.out) (Kd.R_base ho0) hb); have n4_ := Aside0.mk (Kd.R_lower (Kd.R_new' (Kd.R_new' (Kd.R_new' ho0 (Kd.R_lt (by (with_reducible repeat (first | apply Kd.R_alloc | apply Kd.R_drewN | apply Kd.R_drew)); exact HO_9.out))) (Kd.R_lt (by (with_reducible repeat (first | apply Kd.R_alloc | apply Kd.R_drewN | apply Kd.R_drew)); exact HO_12.out))) (Kd.R_lt (by (with_reducible repeat (first | apply Kd.R_alloc | apply Kd.R_drewN | apply Kd.R_drew)); exact HO136.out))) (below_size (by repeat (first | (with_reducible first | exact HB.out | apply below_alloc | apply pw_below_drewN | apply below_drew1) | exact HB.out)))); have n5_ := Aside0.mk (below_step (by repeat (first | (with_reducible first | exact HB.out | apply below_alloc | apply pw_below_drewN | apply below_drew1) | exact HB.out)) hb); clear HO_9; clear HO_12; clear HO130; clear HO136; clear HB; have HO_9 := n0_; have HO_12 := n1_; have HO130 := n2_; have HO136 := n3_; have HO141 := n4_; have HB := n5_; clear n0_ n1_ n2_ n3_ n4_ n5_; (try clear hb); (try clear hb2); (try clear hk); (try clear hi); (try clear ho0); obtain ⟨Ao67, co67, eo67⟩ := Kd.R_slice HO136.out; subst eo67; obtain ⟨Ao68, co68, eo68⟩ := Kd.R_slice HO_9.out; subst eo68) | (go_at_call 25; (with_reducible refine (trishawlaw03_same.calls kj28 _ _ t132 _ _ t104 true _ ?side1 ?side2 ?side3 ?side4 A47.out).mono ?_); (case side1 => repeat (first | exact (Kd.R_reads' HO136.out).2.2 | (with_reducible refine Kd.C_alloc ?_ _) | (with_reducible refine Kd.C_drewN ?_ _) | (with_reducible refine Kd.C_drew ?_))); (case side2 => exact (Kd.R_reads' HO136.out).2.1); (case side3 => repeat (first | exact (Kd.R_reads' HO_9.out).2.2 | (with_reducible refine Kd.C_alloc ?_ _) | (with_reducible refine Kd.C_drewN ?_ _) | (with_reducible refine Kd.C_drew ?_))); (case side4 => exact (Kd.R_reads' HO_9.out).2.1); rintro e w' ⟨rfl, ⟨nd, rfl⟩⟩; obtain ⟨Ao69, co69, eo69⟩ := Kd.R_slice HO141.out; subst eo69; obtain ⟨Ao70, co70, eo70⟩ := Kd.R_slice HO_12.out; subst eo70) | (go_at_call 25; (with_reducible refine (trishawlaw03_same.calls kj28 _ _ t137 _ _ t109 true _ ?side1 ?side2 ?side3 ?side4 A50.out).mono ?_); (case side1 => repeat (first | exact (Kd.R_reads' HO141.out).2.2 | (with_reducible refine Kd.C_alloc ?_ _) | (with_reducible refine Kd.C_drewN ?_ _) | (with_reducible refine Kd.C_drew ?_))); (case side2 => exact (Kd.R_reads' HO141.out).2.1); (case side3 => repeat (first | exact (Kd.R_reads' HO_12.out).2.2 | (with_reducible refine Kd.C_alloc ?_ _) | (with_reducible refine Kd.C_drewN ?_ _) | (with_reducible refine Kd.C_drew ?_))); (case side4 => exact (Kd.R_reads' HO_12.out).2.1); rintro e w' ⟨rfl, ⟨nd, rfl⟩⟩))
                                            go_ret
                                            exact ⟨by first | rfl | (simp [errW_none, errW_some] <;> rfl) | (simp [*, errW_none, errW_some] <;> rfl), by repeat (first | (with_reducible first | exact HB.out | apply below_alloc | apply pw_below_drewN | apply below_drew1) | exact HB.out)⟩
                                        · replace c51 := Bool.eq_false_iff.mpr c51
                                          subst c51
                                          have H1 : (some false) = some r := by rw [if_neg (show ¬ (false = true) by decide)] at H; exact H
                                          clear H
                                          have H := H1
                                          clear H1
                                          obtain rfl := Option.some.inj H
                                          go_wp2_with (first | ((with_reducible refine gate_callee (f := 29) rfl ?_); refine goesL_ (some 129) rfl rfl Try.func29 (by kernel_rfl) rfl #[.slice A1 l1.length c1, .int .i64 (wrap64 (1 + (Int.tmod (wrap64 (a2)) (wrap64 (a0 - 1))))), .int .i64 (wrap64 (Int.tmod a3 1001))] rfl (by (try simp only [List.map_toArray, List.map_cons, List.map_nil]); first | done | rfl | (simp only [List.length_drop, List.length_take]; rfl)) ?_; (with_reducible refine (trishawlaw03_dearer.calls kj28 _ _ l1 (wrap64 (1 + (Int.tmod (wrap64 (a2)) (wrap64 (a0 - 1))))) (wrap64 (Int.tmod a3 1001)) t127 true _ ?side1 ?side2 A41.out).mono ?_); (case side1 => repeat (first | exact (Kd.C_below HR1.out HB.out) | (with_reducible refine Kd.C_alloc ?_ _) | (with_reducible refine Kd.C_drewN ?_ _) | (with_reducible refine Kd.C_drew ?_))); (case side2 => exact HC1.out); rintro e w71 ⟨v129, rfl, ho0, hb⟩; refine ⟨_, rfl, ?_⟩; have n0_ := Aside0.mk (Kd.R_below (by (with_reducible repeat (first | apply Kd.R_alloc | apply Kd.R_drewN | apply Kd.R_drew)); exact HO_9.out) hb); have n1_ := Aside0.mk (Kd.R_below (by (with_reducible repeat (first | apply Kd.R_alloc | apply Kd.R_drewN | apply Kd.R_drew)); exact HO_12.out) hb); have n2_ := Aside0.mk (Kd.R_lower ho0 (below_size (by repeat (first | (with_reducible first | exact HB.out | apply below_alloc | apply pw_below_drewN | apply below_drew1) | exact HB.out)))); have n3_ := Aside0.mk (below_step (by repeat (first | (with_reducible first | exact HB.out | apply below_alloc | apply pw_below_drewN | apply below_drew1) | exact HB.out)) hb); clear HO_9; clear HO_12; clear HB; have HO_9 := n0_; have HO_12 := n1_; have HO130 := n2_; have HB := n3_; clear n0_ n1_ n2_ n3_; (try clear hb); (try clear hb2); (try clear hk); (try clear hi); (try clear ho0); obtain ⟨Ao72, co72, eo72⟩ := Kd.R_slice HO130.out; subst eo72) | ((with_reducible refine gate_callee (f := 24) rfl ?_); refine goesL_ (some 138) rfl rfl Try.func24 (by kernel_rfl) rfl #[.int .i64 a0, .slice Ao72 t127.length co72] rfl (by (try simp only [List.map_toArray, List.map_cons, List.map_nil]); first | done | rfl | (simp only [List.length_drop, List.length_take]; rfl)) ?_; (with_reducible refine (branch_Branching.calls kj28 a0 _ _ t127 t132 t133 t134 _ ?side1 ?side2 A43.out).mono ?_); (case side1 => repeat (first | exact (Kd.R_reads' HO130.out).2.2 | (with_reducible refine Kd.C_alloc ?_ _) | (with_reducible refine Kd.C_drewN ?_ _) | (with_reducible refine Kd.C_drew ?_))); (case side2 => exact (Kd.R_reads' HO130.out).2.1); rintro e w73 ⟨v135, rfl, ho0, hb⟩; refine ⟨_, rfl, ?_⟩; have n0_ := Aside0.mk (Kd.R_elder' (by (with_reducible repeat (first | apply Kd.R_alloc | apply Kd.R_drewN | apply Kd.R_drew)); exact HO_9.out) (Kd.R_base ho0) hb); have n1_ := Aside0.mk (Kd.R_elder' (by (with_reducible repeat (first | apply Kd.R_alloc | apply Kd.R_drewN | apply Kd.R_drew)); exact HO_12.out) (Kd.R_base ho0) hb); have n2_ := Aside0.mk (Kd.R_below (by (with_reducible repeat (first | apply Kd.R_alloc | apply Kd.R_drewN | apply Kd.R_drew)); exact HO130.out) hb); have n3_ := Aside0.mk (Kd.R_lower (Kd.R_new' (Kd.R_new' ho0 (Kd.R_lt (by (with_reducible repeat (first | apply Kd.R_alloc | apply Kd.R_drewN | apply Kd.R_drew)); exact HO_9.out))) (Kd.R_lt (by (with_reducible repeat (first | apply Kd.R_alloc | apply Kd.R_drewN | apply Kd.R_drew)); exact HO_12.out))) (below_size (by repeat (first | (with_reducible first | exact HB.out | apply below_alloc | apply pw_below_drewN | apply below_drew1) | exact HB.out)))); have n4_ := Aside0.mk (below_step (by repeat (first | (with_reducible first | exact HB.out | apply below_alloc | apply pw_below_drewN | apply below_drew1) | exact HB.out)) hb); clear HO_9; clear HO_12; clear HO130; clear HB; have HO_9 := n0_; have HO_12 := n1_; have HO130 := n2_; have HO136 := n3_; have HB := n4_; clear n0_ n1_ n2_ n3_ n4_; (try clear hb); (try clear hb2); (try clear hk); (try clear hi); (try clear ho0)) | ((with_reducible refine gate_callee (f := 26) rfl ?_); refine goesL_ (some 145) rfl rfl Try.func26 (by kernel_rfl) rfl #[.int .i64 a0, .slice Ao72 t127.length co72] rfl (by (try simp only [List.map_toArray, List.map_cons, List.map_nil]); first | done | rfl | (simp only [List.length_drop, List.length_take]; rfl)) ?_; (with_reducible refine (branch_Dear.calls kj28 a0 _ _ t127 t137 t138 t139 _ ?side1 ?side2 A44.out).mono ?_); (case side1 => repeat (first | exact (Kd.R_reads' HO130.out).2.2 | (with_reducible refine Kd.C_alloc ?_ _) | (with_reducible refine Kd.C_drewN ?_ _) | (with_reducible refine Kd.C_drew ?_))); (case side2 => exact (Kd.R_reads' HO130.out).2.1); rintro e w74 ⟨v140, rfl, ho0, hb⟩; refine ⟨_, rfl, ?_⟩; have n0_ := Aside0.mk (Kd.R_elder' (by (with_reducible repeat (first | apply Kd.R_alloc | apply Kd.R_drewN | apply Kd.R_drew)); exact HO_9.out) (Kd.R_base ho0) hb); have n1_ := Aside0.mk (Kd.R_elder' (by (with_reducible repeat (first | apply Kd.R_alloc | apply Kd.R_drewN | apply Kd.R_drew)); exact HO_12.out) (Kd.R_base ho0) hb); have n2_ := Aside0.mk (Kd.R_below (by (with_reducible repeat (first | apply Kd.R_alloc | apply Kd.R_drewN | apply Kd.R_drew)); exact HO130.out) hb); have n3_ := Aside0.mk (Kd.R_elder' (by (with_reducible repeat (first | apply Kd.R_alloc | apply Kd.R_drewN | apply Kd.R_drew)); exact HO136.out) (Kd.R_base ho0) hb); have n4_ := Aside0.mk (Kd.R_lower (Kd.R_new' (Kd.R_new' (Kd.R_new' ho0 (Kd.R_lt (by (with_reducible repeat (first | apply Kd.R_alloc | apply Kd.R_drewN | apply Kd.R_drew)); exact HO_9.out))) (Kd.R_lt (by (with_reducible repeat (first | apply Kd.R_alloc | apply Kd.R_drewN | apply Kd.R_drew)); exact HO_12.out))) (Kd.R_lt (by (with_reducible repeat (first | apply Kd.R_alloc | apply Kd.R_drewN | apply Kd.R_drew)); exact HO136.out))) (below_size (by repeat (first | (with_reducible first | exact HB.out | apply below_alloc | apply pw_below_drewN | apply below_drew1) | exact HB.out)))); have n5_ := Aside0.mk (below_step (by repeat (first | (with_reducible first | exact HB.out | apply below_alloc | apply pw_below_drewN | apply below_drew1) | exact HB.out)) hb); clear HO_9; clear HO_12; clear HO130; clear HO136; clear HB; have HO_9 := n0_; have HO_12 := n1_; have HO130 := n2_; have HO136 := n3_; have HO141 := n4_; have HB := n5_; clear n0_ n1_ n2_ n3_ n4_ n5_; (try clear hb); (try clear hb2); (try clear hk); (try clear hi); (try clear ho0); obtain ⟨Ao75, co75, eo75⟩ := Kd.R_slice HO136.out; subst eo75; obtain ⟨Ao76, co76, eo76⟩ := Kd.R_slice HO_9.out; subst eo76) | (go_at_call 25; (with_reducible refine (trishawlaw03_same.calls kj28 _ _ t132 _ _ t104 true _ ?side1 ?side2 ?side3 ?side4 A47.out).mono ?_); (case side1 => repeat (first | exact (Kd.R_reads' HO136.out).2.2 | (with_reducible refine Kd.C_alloc ?_ _) | (with_reducible refine Kd.C_drewN ?_ _) | (with_reducible refine Kd.C_drew ?_))); (case side2 => exact (Kd.R_reads' HO136.out).2.1); (case side3 => repeat (first | exact (Kd.R_reads' HO_9.out).2.2 | (with_reducible refine Kd.C_alloc ?_ _) | (with_reducible refine Kd.C_drewN ?_ _) | (with_reducible refine Kd.C_drew ?_))); (case side4 => exact (Kd.R_reads' HO_9.out).2.1); rintro e w' ⟨rfl, ⟨nd, rfl⟩⟩; obtain ⟨Ao77, co77, eo77⟩ := Kd.R_slice HO141.out; subst eo77; obtain ⟨Ao78, co78, eo78⟩ := Kd.R_slice HO_12.out; subst eo78) | (go_at_call 25; (with_reducible refine (trishawlaw03_same.calls kj28 _ _ t137 _ _ t109 false _ ?side1 ?side2 ?side3 ?side4 A50.out).mono ?_); (case side1 => repeat (first | exact (Kd.R_reads' HO141.out).2.2 | (with_reducible refine Kd.C_alloc ?_ _) | (with_reducible refine Kd.C_drewN ?_ _) | (with_reducible refine Kd.C_drew ?_))); (case side2 => exact (Kd.R_reads' HO141.out).2.1); (case side3 => repeat (first | exact (Kd.R_reads' HO_12.out).2.2 | (with_reducible refine Kd.C_alloc ?_ _) | (with_reducible refine Kd.C_drewN ?_ _) | (with_reducible refine Kd.C_drew ?_))); (case side4 => exact (Kd.R_reads' HO_12.out).2.1); rintro e w' ⟨rfl, ⟨nd, rfl⟩⟩))
                                          go_ret
                                          exact ⟨by first | rfl | (simp [errW_none, errW_some] <;> rfl) | (simp [*, errW_none, errW_some] <;> rfl), by repeat (first | (with_reducible first | exact HB.out | apply below_alloc | apply pw_below_drewN | apply below_drew1) | exact HB.out)⟩
                                      · rw [if_neg c49] at H
                                        have c49b0 : (t133 == (wrap64 (t105 + (wrap64 (Int.tmod a3 1001))))) = false := beq_eq_false_iff_ne.mpr c49
                                        have c49b1 : (t133 != (wrap64 (t105 + (wrap64 (Int.tmod a3 1001))))) = true := bne_iff_ne.mpr c49
                                        obtain rfl := Option.some.inj H
                                        go_wp2_with (first | ((with_reducible refine gate_callee (f := 29) rfl ?_); refine goesL_ (some 129) rfl rfl Try.func29 (by kernel_rfl) rfl #[.slice A1 l1.length c1, .int .i64 (wrap64 (1 + (Int.tmod (wrap64 (a2)) (wrap64 (a0 - 1))))), .int .i64 (wrap64 (Int.tmod a3 1001))] rfl (by (try simp only [List.map_toArray, List.map_cons, List.map_nil]); first | done | rfl | (simp only [List.length_drop, List.length_take]; rfl)) ?_; (with_reducible refine (trishawlaw03_dearer.calls kj28 _ _ l1 (wrap64 (1 + (Int.tmod (wrap64 (a2)) (wrap64 (a0 - 1))))) (wrap64 (Int.tmod a3 1001)) t127 true _ ?side1 ?side2 A41.out).mono ?_); (case side1 => repeat (first | exact (Kd.C_below HR1.out HB.out) | (with_reducible refine Kd.C_alloc ?_ _) | (with_reducible refine Kd.C_drewN ?_ _) | (with_reducible refine Kd.C_drew ?_))); (case side2 => exact HC1.out); rintro e w79 ⟨v129, rfl, ho0, hb⟩; refine ⟨_, rfl, ?_⟩; have n0_ := Aside0.mk (Kd.R_below (by (with_reducible repeat (first | apply Kd.R_alloc | apply Kd.R_drewN | apply Kd.R_drew)); exact HO_9.out) hb); have n1_ := Aside0.mk (Kd.R_below (by (with_reducible repeat (first | apply Kd.R_alloc | apply Kd.R_drewN | apply Kd.R_drew)); exact HO_12.out) hb); have n2_ := Aside0.mk (Kd.R_lower ho0 (below_size (by repeat (first | (with_reducible first | exact HB.out | apply below_alloc | apply pw_below_drewN | apply below_drew1) | exact HB.out)))); have n3_ := Aside0.mk (below_step (by repeat (first | (with_reducible first | exact HB.out | apply below_alloc | apply pw_below_drewN | apply below_drew1) | exact HB.out)) hb); clear HO_9; clear HO_12; clear HB; have HO_9 := n0_; have HO_12 := n1_; have HO130 := n2_; have HB := n3_; clear n0_ n1_ n2_ n3_; (try clear hb); (try clear hb2); (try clear hk); (try clear hi); (try clear ho0); obtain ⟨Ao80, co80, eo80⟩ := Kd.R_slice HO130.out; subst eo80) | ((with_reducible refine gate_callee (f := 24) rfl ?_); refine goesL_ (some 138) rfl rfl Try.func24 (by kernel_rfl) rfl #[.int .i64 a0, .slice Ao80 t127.length co80] rfl (by (try simp only [List.map_toArray, List.map_cons, List.map_nil]); first | done | rfl | (simp only [List.length_drop, List.length_take]; rfl)) ?_; (with_reducible refine (branch_Branching.calls kj28 a0 _ _ t127 t132 t133 t134 _ ?side1 ?side2 A43.out).mono ?_); (case side1 => repeat (first | exact (Kd.R_reads' HO130.out).2.2 | (with_reducible refine Kd.C_alloc ?_ _) | (with_reducible refine Kd.C_drewN ?_ _) | (with_reducible refine Kd.C_drew ?_))); (case side2 => exact (Kd.R_reads' HO130.out).2.1); rintro e w81 ⟨v135, rfl, ho0, hb⟩; refine ⟨_, rfl, ?_⟩; have n0_ := Aside0.mk (Kd.R_elder' (by (with_reducible repeat (first | apply Kd.R_alloc | apply Kd.R_drewN | apply Kd.R_drew)); exact HO_9.out) (Kd.R_base ho0) hb); have n1_ := Aside0.mk (Kd.R_elder' (by (with_reducible repeat (first | apply Kd.R_alloc | apply Kd.R_drewN | apply Kd.R_drew)); exact HO_12.out) (Kd.R_base ho0) hb); have n2_ := Aside0.mk (Kd.R_below (by (with_reducible repeat (first | apply Kd.R_alloc | apply Kd.R_drewN | apply Kd.R_drew)); exact HO130.out) hb); have n3_ := Aside0.mk (Kd.R_lower (Kd.R_new' (Kd.R_new' ho0 (Kd.R_lt (by (with_reducible repeat (first | apply Kd.R_alloc | apply Kd.R_drewN | apply Kd.R_drew)); exact HO_9.out))) (Kd.R_lt (by (with_reducible repeat (first | apply Kd.R_alloc | apply Kd.R_drewN | apply Kd.R_drew)); exact HO_12.out))) (below_size (by repeat (first | (with_reducible first | exact HB.out | apply below_alloc | apply pw_below_drewN | apply below_drew1) | exact HB.out)))); have n4_ := Aside0.mk (below_step (by repeat (first | (with_reducible first | exact HB.out | apply below_alloc | apply pw_below_drewN | apply below_drew1) | exact HB.out)) hb); clear HO_9; clear HO_12; clear HO130; clear HB; have HO_9 := n0_; have HO_12 := n1_; have HO130 := n2_; have HO136 := n3_; have HB := n4_; clear n0_ n1_ n2_ n3_ n4_; (try clear hb); (try clear hb2); (try clear hk); (try clear hi); (try clear ho0)) | ((with_reducible refine gate_callee (f := 26) rfl ?_); refine goesL_ (some 145) rfl rfl Try.func26 (by kernel_rfl) rfl #[.int .i64 a0, .slice Ao80 t127.length co80] rfl (by (try simp only [List.map_toArray, List.map_cons, List.map_nil]); first | done | rfl | (simp only [List.length_drop, List.length_take]; rfl)) ?_; (with_reducible refine (branch_Dear.calls kj28 a0 _ _ t127 t137 t138 t139 _ ?side1 ?side2 A44.out).mono ?_); (case side1 => repeat (first | exact (Kd.R_reads' HO130.out).2.2 | (with_reducible refine Kd.C_alloc ?_ _) | (with_reducible refine Kd.C_drewN ?_ _) | (with_reducible refine Kd.C_drew ?_))); (case side2 => exact (Kd.R_reads' HO130.out).2.1); rintro e w82 ⟨v140, rfl, ho0, hb⟩; refine ⟨_, rfl, ?_⟩; have n0_ := Aside0.mk (Kd.R_elder' (by (with_reducible repeat (first | apply Kd.R_alloc | apply Kd.R_drewN | apply Kd.R_drew)); exact HO_9.out) (Kd.R_base ho0) hb); have n1_ := Aside0.mk (Kd.R_elder' (by (with_reducible repeat (first | apply Kd.R_alloc | apply Kd.R_drewN | apply Kd.R_drew)); exact HO_12.out) (Kd.R_base ho0) hb); have n2_ := Aside0.mk (Kd.R_below (by (with_reducible repeat (first | apply Kd.R_alloc | apply Kd.R_drewN | apply Kd.R_drew)); exact HO130.out) hb); have n3_ := Aside0.mk (Kd.R_elder' (by (with_reducible repeat (first | apply Kd.R_alloc | apply Kd.R_drewN | apply Kd.R_drew)); exact HO136.out) (Kd.R_base ho0) hb); have n4_ := Aside0.mk (Kd.R_lower (Kd.R_new' (Kd.R_new' (Kd.R_new' ho0 (Kd.R_lt (by (with_reducible repeat (first | apply Kd.R_alloc | apply Kd.R_drewN | apply Kd.R_drew)); exact HO_9.out))) (Kd.R_lt (by (with_reducible repeat (first | apply Kd.R_alloc | apply Kd.R_drewN | apply Kd.R_drew)); exact HO_12.out))) (Kd.R_lt (by (with_reducible repeat (first | apply Kd.R_alloc | apply Kd.R_drewN | apply Kd.R_drew)); exact HO136.out))) (below_size (by repeat (first | (with_reducible first | exact HB.out | apply below_alloc | apply pw_below_drewN | apply below_drew1) | exact HB.out)))); have n5_ := Aside0.mk (below_step (by repeat (first | (with_reducible first | exact HB.out | apply below_alloc | apply pw_below_drewN | apply below_drew1) | exact HB.out)) hb); clear HO_9; clear HO_12; clear HO130; clear HO136; clear HB; have HO_9 := n0_; have HO_12 := n1_; have HO130 := n2_; have HO136 := n3_; have HO141 := n4_; have HB := n5_; clear n0_ n1_ n2_ n3_ n4_ n5_; (try clear hb); (try clear hb2); (try clear hk); (try clear hi); (try clear ho0); obtain ⟨Ao83, co83, eo83⟩ := Kd.R_slice HO136.out; subst eo83; obtain ⟨Ao84, co84, eo84⟩ := Kd.R_slice HO_9.out; subst eo84) | (go_at_call 25; (with_reducible refine (trishawlaw03_same.calls kj28 _ _ t132 _ _ t104 true _ ?side1 ?side2 ?side3 ?side4 A47.out).mono ?_); (case side1 => repeat (first | exact (Kd.R_reads' HO136.out).2.2 | (with_reducible refine Kd.C_alloc ?_ _) | (with_reducible refine Kd.C_drewN ?_ _) | (with_reducible refine Kd.C_drew ?_))); (case side2 => exact (Kd.R_reads' HO136.out).2.1); (case side3 => repeat (first | exact (Kd.R_reads' HO_9.out).2.2 | (with_reducible refine Kd.C_alloc ?_ _) | (with_reducible refine Kd.C_drewN ?_ _) | (with_reducible refine Kd.C_drew ?_))); (case side4 => exact (Kd.R_reads' HO_9.out).2.1); rintro e w' ⟨rfl, ⟨nd, rfl⟩⟩))
                                        go_ret
                                        exact ⟨by first | rfl | (simp [errW_none, errW_some] <;> rfl) | (simp [*, errW_none, errW_some] <;> rfl), by repeat (first | (with_reducible first | exact HB.out | apply below_alloc | apply pw_below_drewN | apply below_drew1) | exact HB.out)⟩
                                    · replace c48 := Bool.eq_false_iff.mpr c48
                                      subst c48
                                      have H1 : (some false) = some r := by rw [if_neg (show ¬ (false = true) by decide)] at H; exact H
                                      clear H
                                      have H := H1
                                      clear H1
                                      obtain rfl := Option.some.inj H
                                      go_wp2_with (first | ((with_reducible refine gate_callee (f := 29) rfl ?_); refine goesL_ (some 129) rfl rfl Try.func29 (by kernel_rfl) rfl #[.slice A1 l1.length c1, .int .i64 (wrap64 (1 + (Int.tmod (wrap64 (a2)) (wrap64 (a0 - 1))))), .int .i64 (wrap64 (Int.tmod a3 1001))] rfl (by (try simp only [List.map_toArray, List.map_cons, List.map_nil]); first | done | rfl | (simp only [List.length_drop, List.length_take]; rfl)) ?_; (with_reducible refine (trishawlaw03_dearer.calls kj28 _ _ l1 (wrap64 (1 + (Int.tmod (wrap64 (a2)) (wrap64 (a0 - 1))))) (wrap64 (Int.tmod a3 1001)) t127 true _ ?side1 ?side2 A41.out).mono ?_); (case side1 => repeat (first | exact (Kd.C_below HR1.out HB.out) | (with_reducible refine Kd.C_alloc ?_ _) | (with_reducible refine Kd.C_drewN ?_ _) | (with_reducible refine Kd.C_drew ?_))); (case side2 => exact HC1.out); rintro e w85 ⟨v129, rfl, ho0, hb⟩; refine ⟨_, rfl, ?_⟩; have n0_ := Aside0.mk (Kd.R_below (by (with_reducible repeat (first | apply Kd.R_alloc | apply Kd.R_drewN | apply Kd.R_drew)); exact HO_9.out) hb); have n1_ := Aside0.mk (Kd.R_below (by (with_reducible repeat (first | apply Kd.R_alloc | apply Kd.R_drewN | apply Kd.R_drew)); exact HO_12.out) hb); have n2_ := Aside0.mk (Kd.R_lower ho0 (below_size (by repeat (first | (with_reducible first | exact HB.out | apply below_alloc | apply pw_below_drewN | apply below_drew1) | exact HB.out)))); have n3_ := Aside0.mk (below_step (by repeat (first | (with_reducible first | exact HB.out | apply below_alloc | apply pw_below_drewN | apply below_drew1) | exact HB.out)) hb); clear HO_9; clear HO_12; clear HB; have HO_9 := n0_; have HO_12 := n1_; have HO130 := n2_; have HB := n3_; clear n0_ n1_ n2_ n3_; (try clear hb); (try clear hb2); (try clear hk); (try clear hi); (try clear ho0); obtain ⟨Ao86, co86, eo86⟩ := Kd.R_slice HO130.out; subst eo86) | ((with_reducible refine gate_callee (f := 24) rfl ?_); refine goesL_ (some 138) rfl rfl Try.func24 (by kernel_rfl) rfl #[.int .i64 a0, .slice Ao86 t127.length co86] rfl (by (try simp only [List.map_toArray, List.map_cons, List.map_nil]); first | done | rfl | (simp only [List.length_drop, List.length_take]; rfl)) ?_; (with_reducible refine (branch_Branching.calls kj28 a0 _ _ t127 t132 t133 t134 _ ?side1 ?side2 A43.out).mono ?_); (case side1 => repeat (first | exact (Kd.R_reads' HO130.out).2.2 | (with_reducible refine Kd.C_alloc ?_ _) | (with_reducible refine Kd.C_drewN ?_ _) | (with_reducible refine Kd.C_drew ?_))); (case side2 => exact (Kd.R_reads' HO130.out).2.1); rintro e w87 ⟨v135, rfl, ho0, hb⟩; refine ⟨_, rfl, ?_⟩; have n0_ := Aside0.mk (Kd.R_elder' (by (with_reducible repeat (first | apply Kd.R_alloc | apply Kd.R_drewN | apply Kd.R_drew)); exact HO_9.out) (Kd.R_base ho0) hb); have n1_ := Aside0.mk (Kd.R_elder' (by (with_reducible repeat (first | apply Kd.R_alloc | apply Kd.R_drewN | apply Kd.R_drew)); exact HO_12.out) (Kd.R_base ho0) hb); have n2_ := Aside0.mk (Kd.R_below (by (with_reducible repeat (first | apply Kd.R_alloc | apply Kd.R_drewN | apply Kd.R_drew)); exact HO130.out) hb); have n3_ := Aside0.mk (Kd.R_lower (Kd.R_new' (Kd.R_new' ho0 (Kd.R_lt (by (with_reducible repeat (first | apply Kd.R_alloc | apply Kd.R_drewN | apply Kd.R_drew)); exact HO_9.out))) (Kd.R_lt (by (with_reducible repeat (first | apply Kd.R_alloc | apply Kd.R_drewN | apply Kd.R_drew)); exact HO_12.out))) (below_size (by repeat (first | (with_reducible first | exact HB.out | apply below_alloc | apply pw_below_drewN | apply below_drew1) | exact HB.out)))); have n4_ := Aside0.mk (below_step (by repeat (first | (with_reducible first | exact HB.out | apply below_alloc | apply pw_below_drewN | apply below_drew1) | exact HB.out)) hb); clear HO_9; clear HO_12; clear HO130; clear HB; have HO_9 := n0_; have HO_12 := n1_; have HO130 := n2_; have HO136 := n3_; have HB := n4_; clear n0_ n1_ n2_ n3_ n4_; (try clear hb); (try clear hb2); (try clear hk); (try clear hi); (try clear ho0)) | ((with_reducible refine gate_callee (f := 26) rfl ?_); refine goesL_ (some 145) rfl rfl Try.func26 (by kernel_rfl) rfl #[.int .i64 a0, .slice Ao86 t127.length co86] rfl (by (try simp only [List.map_toArray, List.map_cons, List.map_nil]); first | done | rfl | (simp only [List.length_drop, List.length_take]; rfl)) ?_; (with_reducible refine (branch_Dear.calls kj28 a0 _ _ t127 t137 t138 t139 _ ?side1 ?side2 A44.out).mono ?_); (case side1 => repeat (first | exact (Kd.R_reads' HO130.out).2.2 | (with_reducible refine Kd.C_alloc ?_ _) | (with_reducible refine Kd.C_drewN ?_ _) | (with_reducible refine Kd.C_drew ?_))); (case side2 => exact (Kd.R_reads' HO130.out).2.1); rintro e w88 ⟨v140, rfl, ho0, hb⟩; refine ⟨_, rfl, ?_⟩; have n0_ := Aside0.mk (Kd.R_elder' (by (with_reducible repeat (first | apply Kd.R_alloc | apply Kd.R_drewN | apply Kd.R_drew)); exact HO_9.out) (Kd.R_base ho0) hb); have n1_ := Aside0.mk (Kd.R_elder' (by (with_reducible repeat (first | apply Kd.R_alloc | apply Kd.R_drewN | apply Kd.R_drew)); exact HO_12.out) (Kd.R_base ho0) hb); have n2_ := Aside0.mk (Kd.R_below (by (with_reducible repeat (first | apply Kd.R_alloc | apply Kd.R_drewN | apply Kd.R_drew)); exact HO130.out) hb); have n3_ := Aside0.mk (Kd.R_elder' (by (with_reducible repeat (first | apply Kd.R_alloc | apply Kd.R_drewN | apply Kd.R_drew)); exact HO136.out) (Kd.R_base ho0) hb); have n4_ := Aside0.mk (Kd.R_lower (Kd.R_new' (Kd.R_new' (Kd.R_new' ho0 (Kd.R_lt (by (with_reducible repeat (first | apply Kd.R_alloc | apply Kd.R_drewN | apply Kd.R_drew)); exact HO_9.out))) (Kd.R_lt (by (with_reducible repeat (first | apply Kd.R_alloc | apply Kd.R_drewN | apply Kd.R_drew)); exact HO_12.out))) (Kd.R_lt (by (with_reducible repeat (first | apply Kd.R_alloc | apply Kd.R_drewN | apply Kd.R_drew)); exact HO136.out))) (below_size (by repeat (first | (with_reducible first | exact HB.out | apply below_alloc | apply pw_below_drewN | apply below_drew1) | exact HB.out)))); have n5_ := Aside0.mk (below_step (by repeat (first | (with_reducible first | exact HB.out | apply below_alloc | apply pw_below_drewN | apply below_drew1) | exact HB.out)) hb); clear HO_9; clear HO_12; clear HO130; clear HO136; clear HB; have HO_9 := n0_; have HO_12 := n1_; have HO130 := n2_; have HO136 := n3_; have HO141 := n4_; have HB := n5_; clear n0_ n1_ n2_ n3_ n4_ n5_; (try clear hb); (try clear hb2); (try clear hk); (try clear hi); (try clear ho0); obtain ⟨Ao89, co89, eo89⟩ := Kd.R_slice HO136.out; subst eo89; obtain ⟨Ao90, co90, eo90⟩ := Kd.R_slice HO_9.out; subst eo90) | (go_at_call 25; (with_reducible refine (trishawlaw03_same.calls kj28 _ _ t132 _ _ t104 false _ ?side1 ?side2 ?side3 ?side4 A47.out).mono ?_); (case side1 => repeat (first | exact (Kd.R_reads' HO136.out).2.2 | (with_reducible refine Kd.C_alloc ?_ _) | (with_reducible refine Kd.C_drewN ?_ _) | (with_reducible refine Kd.C_drew ?_))); (case side2 => exact (Kd.R_reads' HO136.out).2.1); (case side3 => repeat (first | exact (Kd.R_reads' HO_9.out).2.2 | (with_reducible refine Kd.C_alloc ?_ _) | (with_reducible refine Kd.C_drewN ?_ _) | (with_reducible refine Kd.C_drew ?_))); (case side4 => exact (Kd.R_reads' HO_9.out).2.1); rintro e w' ⟨rfl, ⟨nd, rfl⟩⟩))
                                      go_ret
                                      exact ⟨by first | rfl | (simp [errW_none, errW_some] <;> rfl) | (simp [*, errW_none, errW_some] <;> rfl), by repeat (first | (with_reducible first | exact HB.out | apply below_alloc | apply pw_below_drewN | apply below_drew1) | exact HB.out)⟩
                                  · rw [if_neg c46] at H
                                    have c46b0 : (t139 == 0) = false := beq_eq_false_iff_ne.mpr c46
                                    have c46b1 : (t139 != 0) = true := bne_iff_ne.mpr c46
                                    obtain rfl := Option.some.inj H
                                    go_wp2_with (first | ((with_reducible refine gate_callee (f := 29) rfl ?_); refine goesL_ (some 129) rfl rfl Try.func29 (by kernel_rfl) rfl #[.slice A1 l1.length c1, .int .i64 (wrap64 (1 + (Int.tmod (wrap64 (a2)) (wrap64 (a0 - 1))))), .int .i64 (wrap64 (Int.tmod a3 1001))] rfl (by (try simp only [List.map_toArray, List.map_cons, List.map_nil]); first | done | rfl | (simp only [List.length_drop, List.length_take]; rfl)) ?_; (with_reducible refine (trishawlaw03_dearer.calls kj28 _ _ l1 (wrap64 (1 + (Int.tmod (wrap64 (a2)) (wrap64 (a0 - 1))))) (wrap64 (Int.tmod a3 1001)) t127 true _ ?side1 ?side2 A41.out).mono ?_); (case side1 => repeat (first | exact (Kd.C_below HR1.out HB.out) | (with_reducible refine Kd.C_alloc ?_ _) | (with_reducible refine Kd.C_drewN ?_ _) | (with_reducible refine Kd.C_drew ?_))); (case side2 => exact HC1.out); rintro e w91 ⟨v129, rfl, ho0, hb⟩; refine ⟨_, rfl, ?_⟩; have n0_ := Aside0.mk (Kd.R_below (by (with_reducible repeat (first | apply Kd.R_alloc | apply Kd.R_drewN | apply Kd.R_drew)); exact HO_9.out) hb); have n1_ := Aside0.mk (Kd.R_below (by (with_reducible repeat (first | apply Kd.R_alloc | apply Kd.R_drewN | apply Kd.R_drew)); exact HO_12.out) hb); have n2_ := Aside0.mk (Kd.R_lower ho0 (below_size (by repeat (first | (with_reducible first | exact HB.out | apply below_alloc | apply pw_below_drewN | apply below_drew1) | exact HB.out)))); have n3_ := Aside0.mk (below_step (by repeat (first | (with_reducible first | exact HB.out | apply below_alloc | apply pw_below_drewN | apply below_drew1) | exact HB.out)) hb); clear HO_9; clear HO_12; clear HB; have HO_9 := n0_; have HO_12 := n1_; have HO130 := n2_; have HB := n3_; clear n0_ n1_ n2_ n3_; (try clear hb); (try clear hb2); (try clear hk); (try clear hi); (try clear ho0); obtain ⟨Ao92, co92, eo92⟩ := Kd.R_slice HO130.out; subst eo92) | ((with_reducible refine gate_callee (f := 24) rfl ?_); refine goesL_ (some 138) rfl rfl Try.func24 (by kernel_rfl) rfl #[.int .i64 a0, .slice Ao92 t127.length co92] rfl (by (try simp only [List.map_toArray, List.map_cons, List.map_nil]); first | done | rfl | (simp only [List.length_drop, List.length_take]; rfl)) ?_; (with_reducible refine (branch_Branching.calls kj28 a0 _ _ t127 t132 t133 t134 _ ?side1 ?side2 A43.out).mono ?_); (case side1 => repeat (first | exact (Kd.R_reads' HO130.out).2.2 | (with_reducible refine Kd.C_alloc ?_ _) | (with_reducible refine Kd.C_drewN ?_ _) | (with_reducible refine Kd.C_drew ?_))); (case side2 => exact (Kd.R_reads' HO130.out).2.1); rintro e w93 ⟨v135, rfl, ho0, hb⟩; refine ⟨_, rfl, ?_⟩; have n0_ := Aside0.mk (Kd.R_elder' (by (with_reducible repeat (first | apply Kd.R_alloc | apply Kd.R_drewN | apply Kd.R_drew)); exact HO_9.out) (Kd.R_base ho0) hb); have n1_ := Aside0.mk (Kd.R_elder' (by (with_reducible repeat (first | apply Kd.R_alloc | apply Kd.R_drewN | apply Kd.R_drew)); exact HO_12.out) (Kd.R_base ho0) hb); have n2_ := Aside0.mk (Kd.R_below (by (with_reducible repeat (first | apply Kd.R_alloc | apply Kd.R_drewN | apply Kd.R_drew)); exact HO130.out) hb); have n3_ := Aside0.mk (Kd.R_lower (Kd.R_new' (Kd.R_new' ho0 (Kd.R_lt (by (with_reducible repeat (first | apply Kd.R_alloc | apply Kd.R_drewN | apply Kd.R_drew)); exact HO_9.out))) (Kd.R_lt (by (with_reducible repeat (first | apply Kd.R_alloc | apply Kd.R_drewN | apply Kd.R_drew)); exact HO_12.out))) (below_size (by repeat (first | (with_reducible first | exact HB.out | apply below_alloc | apply pw_below_drewN | apply below_drew1) | exact HB.out)))); have n4_ := Aside0.mk (below_step (by repeat (first | (with_reducible first | exact HB.out | apply below_alloc | apply pw_below_drewN | apply below_drew1) | exact HB.out)) hb); clear HO_9; clear HO_12; clear HO130; clear HB; have HO_9 := n0_; have HO_12 := n1_; have HO130 := n2_; have HO136 := n3_; have HB := n4_; clear n0_ n1_ n2_ n3_ n4_; (try clear hb); (try clear hb2); (try clear hk); (try clear hi); (try clear ho0)) | ((with_reducible refine gate_callee (f := 26) rfl ?_); refine goesL_ (some 145) rfl rfl Try.func26 (by kernel_rfl) rfl #[.int .i64 a0, .slice Ao92 t127.length co92] rfl (by (try simp only [List.map_toArray, List.map_cons, List.map_nil]); first | done | rfl | (simp only [List.length_drop, List.length_take]; rfl)) ?_; (with_reducible refine (branch_Dear.calls kj28 a0 _ _ t127 t137 t138 t139 _ ?side1 ?side2 A44.out).mono ?_); (case side1 => repeat (first | exact (Kd.R_reads' HO130.out).2.2 | (with_reducible refine Kd.C_alloc ?_ _) | (with_reducible refine Kd.C_drewN ?_ _) | (with_reducible refine Kd.C_drew ?_))); (case side2 => exact (Kd.R_reads' HO130.out).2.1); rintro e w94 ⟨v140, rfl, ho0, hb⟩; refine ⟨_, rfl, ?_⟩; have n0_ := Aside0.mk (Kd.R_elder' (by (with_reducible repeat (first | apply Kd.R_alloc | apply Kd.R_drewN | apply Kd.R_drew)); exact HO_9.out) (Kd.R_base ho0) hb); have n1_ := Aside0.mk (Kd.R_elder' (by (with_reducible repeat (first | apply Kd.R_alloc | apply Kd.R_drewN | apply Kd.R_drew)); exact HO_12.out) (Kd.R_base ho0) hb); have n2_ := Aside0.mk (Kd.R_below (by (with_reducible repeat (first | apply Kd.R_alloc | apply Kd.R_drewN | apply Kd.R_drew)); exact HO130.out) hb); have n3_ := Aside0.mk (Kd.R_elder' (by (with_reducible repeat (first | apply Kd.R_alloc | apply Kd.R_drewN | apply Kd.R_drew)); exact HO136.out) (Kd.R_base ho0) hb); have n4_ := Aside0.mk (Kd.R_lower (Kd.R_new' (Kd.R_new' (Kd.R_new' ho0 (Kd.R_lt (by (with_reducible repeat (first | apply Kd.R_alloc | apply Kd.R_drewN | apply Kd.R_drew)); exact HO_9.out))) (Kd.R_lt (by (with_reducible repeat (first | apply Kd.R_alloc | apply Kd.R_drewN | apply Kd.R_drew)); exact HO_12.out))) (Kd.R_lt (by (with_reducible repeat (first | apply Kd.R_alloc | apply Kd.R_drewN | apply Kd.R_drew)); exact HO136.out))) (below_size (by repeat (first | (with_reducible first | exact HB.out | apply below_alloc | apply pw_below_drewN | apply below_drew1) | exact HB.out)))); have n5_ := Aside0.mk (below_step (by repeat (first | (with_reducible first | exact HB.out | apply below_alloc | apply pw_below_drewN | apply below_drew1) | exact HB.out)) hb); clear HO_9; clear HO_12; clear HO130; clear HO136; clear HB; have HO_9 := n0_; have HO_12 := n1_; have HO130 := n2_; have HO136 := n3_; have HO141 := n4_; have HB := n5_; clear n0_ n1_ n2_ n3_ n4_ n5_; (try clear hb); (try clear hb2); (try clear hk); (try clear hi); (try clear ho0)))
                                    go_ret
                                    exact ⟨by first | rfl | (simp [errW_none, errW_some] <;> rfl) | (simp [*, errW_none, errW_some] <;> rfl), by repeat (first | (with_reducible first | exact HB.out | apply below_alloc | apply pw_below_drewN | apply below_drew1) | exact HB.out)⟩
                                · rw [if_neg c45] at H
                                  have c45b0 : (t134 == 0) = false := beq_eq_false_iff_ne.mpr c45
                                  have c45b1 : (t134 != 0) = true := bne_iff_ne.mpr c45
                                  obtain rfl := Option.some.inj H
                                  go_wp2_with (first | ((with_reducible refine gate_callee (f := 29) rfl ?_); refine goesL_ (some 129) rfl rfl Try.func29 (by kernel_rfl) rfl #[.slice A1 l1.length c1, .int .i64 (wrap64 (1 + (Int.tmod (wrap64 (a2)) (wrap64 (a0 - 1))))), .int .i64 (wrap64 (Int.tmod a3 1001))] rfl (by (try simp only [List.map_toArray, List.map_cons, List.map_nil]); first | done | rfl | (simp only [List.length_drop, List.length_take]; rfl)) ?_; (with_reducible refine (trishawlaw03_dearer.calls kj28 _ _ l1 (wrap64 (1 + (Int.tmod (wrap64 (a2)) (wrap64 (a0 - 1))))) (wrap64 (Int.tmod a3 1001)) t127 true _ ?side1 ?side2 A41.out).mono ?_); (case side1 => repeat (first | exact (Kd.C_below HR1.out HB.out) | (with_reducible refine Kd.C_alloc ?_ _) | (with_reducible refine Kd.C_drewN ?_ _) | (with_reducible refine Kd.C_drew ?_))); (case side2 => exact HC1.out); rintro e w95 ⟨v129, rfl, ho0, hb⟩; refine ⟨_, rfl, ?_⟩; have n0_ := Aside0.mk (Kd.R_below (by (with_reducible repeat (first | apply Kd.R_alloc | apply Kd.R_drewN | apply Kd.R_drew)); exact HO_9.out) hb); have n1_ := Aside0.mk (Kd.R_below (by (with_reducible repeat (first | apply Kd.R_alloc | apply Kd.R_drewN | apply Kd.R_drew)); exact HO_12.out) hb); have n2_ := Aside0.mk (Kd.R_lower ho0 (below_size (by repeat (first | (with_reducible first | exact HB.out | apply below_alloc | apply pw_below_drewN | apply below_drew1) | exact HB.out)))); have n3_ := Aside0.mk (below_step (by repeat (first | (with_reducible first | exact HB.out | apply below_alloc | apply pw_below_drewN | apply below_drew1) | exact HB.out)) hb); clear HO_9; clear HO_12; clear HB; have HO_9 := n0_; have HO_12 := n1_; have HO130 := n2_; have HB := n3_; clear n0_ n1_ n2_ n3_; (try clear hb); (try clear hb2); (try clear hk); (try clear hi); (try clear ho0); obtain ⟨Ao96, co96, eo96⟩ := Kd.R_slice HO130.out; subst eo96) | ((with_reducible refine gate_callee (f := 24) rfl ?_); refine goesL_ (some 138) rfl rfl Try.func24 (by kernel_rfl) rfl #[.int .i64 a0, .slice Ao96 t127.length co96] rfl (by (try simp only [List.map_toArray, List.map_cons, List.map_nil]); first | done | rfl | (simp only [List.length_drop, List.length_take]; rfl)) ?_; (with_reducible refine (branch_Branching.calls kj28 a0 _ _ t127 t132 t133 t134 _ ?side1 ?side2 A43.out).mono ?_); (case side1 => repeat (first | exact (Kd.R_reads' HO130.out).2.2 | (with_reducible refine Kd.C_alloc ?_ _) | (with_reducible refine Kd.C_drewN ?_ _) | (with_reducible refine Kd.C_drew ?_))); (case side2 => exact (Kd.R_reads' HO130.out).2.1); rintro e w97 ⟨v135, rfl, ho0, hb⟩; refine ⟨_, rfl, ?_⟩; have n0_ := Aside0.mk (Kd.R_elder' (by (with_reducible repeat (first | apply Kd.R_alloc | apply Kd.R_drewN | apply Kd.R_drew)); exact HO_9.out) (Kd.R_base ho0) hb); have n1_ := Aside0.mk (Kd.R_elder' (by (with_reducible repeat (first | apply Kd.R_alloc | apply Kd.R_drewN | apply Kd.R_drew)); exact HO_12.out) (Kd.R_base ho0) hb); have n2_ := Aside0.mk (Kd.R_below (by (with_reducible repeat (first | apply Kd.R_alloc | apply Kd.R_drewN | apply Kd.R_drew)); exact HO130.out) hb); have n3_ := Aside0.mk (Kd.R_lower (Kd.R_new' (Kd.R_new' ho0 (Kd.R_lt (by (with_reducible repeat (first | apply Kd.R_alloc | apply Kd.R_drewN | apply Kd.R_drew)); exact HO_9.out))) (Kd.R_lt (by (with_reducible repeat (first | apply Kd.R_alloc | apply Kd.R_drewN | apply Kd.R_drew)); exact HO_12.out))) (below_size (by repeat (first | (with_reducible first | exact HB.out | apply below_alloc | apply pw_below_drewN | apply below_drew1) | exact HB.out)))); have n4_ := Aside0.mk (below_step (by repeat (first | (with_reducible first | exact HB.out | apply below_alloc | apply pw_below_drewN | apply below_drew1) | exact HB.out)) hb); clear HO_9; clear HO_12; clear HO130; clear HB; have HO_9 := n0_; have HO_12 := n1_; have HO130 := n2_; have HO136 := n3_; have HB := n4_; clear n0_ n1_ n2_ n3_ n4_; (try clear hb); (try clear hb2); (try clear hk); (try clear hi); (try clear ho0)) | ((with_reducible refine gate_callee (f := 26) rfl ?_); refine goesL_ (some 145) rfl rfl Try.func26 (by kernel_rfl) rfl #[.int .i64 a0, .slice Ao96 t127.length co96] rfl (by (try simp only [List.map_toArray, List.map_cons, List.map_nil]); first | done | rfl | (simp only [List.length_drop, List.length_take]; rfl)) ?_; (with_reducible refine (branch_Dear.calls kj28 a0 _ _ t127 t137 t138 t139 _ ?side1 ?side2 A44.out).mono ?_); (case side1 => repeat (first | exact (Kd.R_reads' HO130.out).2.2 | (with_reducible refine Kd.C_alloc ?_ _) | (with_reducible refine Kd.C_drewN ?_ _) | (with_reducible refine Kd.C_drew ?_))); (case side2 => exact (Kd.R_reads' HO130.out).2.1); rintro e w98 ⟨v140, rfl, ho0, hb⟩; refine ⟨_, rfl, ?_⟩; have n0_ := Aside0.mk (Kd.R_elder' (by (with_reducible repeat (first | apply Kd.R_alloc | apply Kd.R_drewN | apply Kd.R_drew)); exact HO_9.out) (Kd.R_base ho0) hb); have n1_ := Aside0.mk (Kd.R_elder' (by (with_reducible repeat (first | apply Kd.R_alloc | apply Kd.R_drewN | apply Kd.R_drew)); exact HO_12.out) (Kd.R_base ho0) hb); have n2_ := Aside0.mk (Kd.R_below (by (with_reducible repeat (first | apply Kd.R_alloc | apply Kd.R_drewN | apply Kd.R_drew)); exact HO130.out) hb); have n3_ := Aside0.mk (Kd.R_elder' (by (with_reducible repeat (first | apply Kd.R_alloc | apply Kd.R_drewN | apply Kd.R_drew)); exact HO136.out) (Kd.R_base ho0) hb); have n4_ := Aside0.mk (Kd.R_lower (Kd.R_new' (Kd.R_new' (Kd.R_new' ho0 (Kd.R_lt (by (with_reducible repeat (first | apply Kd.R_alloc | apply Kd.R_drewN | apply Kd.R_drew)); exact HO_9.out))) (Kd.R_lt (by (with_reducible repeat (first | apply Kd.R_alloc | apply Kd.R_drewN | apply Kd.R_drew)); exact HO_12.out))) (Kd.R_lt (by (with_reducible repeat (first | apply Kd.R_alloc | apply Kd.R_drewN | apply Kd.R_drew)); exact HO136.out))) (below_size (by repeat (first | (with_reducible first | exact HB.out | apply below_alloc | apply pw_below_drewN | apply below_drew1) | exact HB.out)))); have n5_ := Aside0.mk (below_step (by repeat (first | (with_reducible first | exact HB.out | apply below_alloc | apply pw_below_drewN | apply below_drew1) | exact HB.out)) hb); clear HO_9; clear HO_12; clear HO130; clear HO136; clear HB; have HO_9 := n0_; have HO_12 := n1_; have HO130 := n2_; have HO136 := n3_; have HO141 := n4_; have HB := n5_; clear n0_ n1_ n2_ n3_ n4_ n5_; (try clear hb); (try clear hb2); (try clear hk); (try clear hi); (try clear ho0)))
                                  go_ret
                                  exact ⟨by first | rfl | (simp [errW_none, errW_some] <;> rfl) | (simp [*, errW_none, errW_some] <;> rfl), by repeat (first | (with_reducible first | exact HB.out | apply below_alloc | apply pw_below_drewN | apply below_drew1) | exact HB.out)⟩
                              · replace c42 := Bool.eq_false_iff.mpr c42
                                subst c42
                                have H1 : ((trishawlaw03_alive.f kj28).bind fun t131 => (some t131)) = some r := by rw [if_neg (show ¬ (false = true) by decide)] at H; exact H
                                clear H
                                have H := H1
                                clear H1
                                replace H := Option.bind_eq_some_iff.mp H
                                obtain ⟨t131, A990, H⟩ := H
                                replace H : (some t131) = some r := H
                                have A99 := Aside0.mk A990
                                clear A990
                                obtain rfl := Option.some.inj H
                                go_wp2_with (first | ((with_reducible refine gate_callee (f := 29) rfl ?_); refine goesL_ (some 129) rfl rfl Try.func29 (by kernel_rfl) rfl #[.slice A1 l1.length c1, .int .i64 (wrap64 (1 + (Int.tmod (wrap64 (a2)) (wrap64 (a0 - 1))))), .int .i64 (wrap64 (Int.tmod a3 1001))] rfl (by (try simp only [List.map_toArray, List.map_cons, List.map_nil]); first | done | rfl | (simp only [List.length_drop, List.length_take]; rfl)) ?_; (with_reducible refine (trishawlaw03_dearer.calls kj28 _ _ l1 (wrap64 (1 + (Int.tmod (wrap64 (a2)) (wrap64 (a0 - 1))))) (wrap64 (Int.tmod a3 1001)) t127 false _ ?side1 ?side2 A41.out).mono ?_); (case side1 => repeat (first | exact (Kd.C_below HR1.out HB.out) | (with_reducible refine Kd.C_alloc ?_ _) | (with_reducible refine Kd.C_drewN ?_ _) | (with_reducible refine Kd.C_drew ?_))); (case side2 => exact HC1.out); rintro e w100 ⟨v129, rfl, ho0, hb⟩; refine ⟨_, rfl, ?_⟩; have n0_ := Aside0.mk (Kd.R_below (by (with_reducible repeat (first | apply Kd.R_alloc | apply Kd.R_drewN | apply Kd.R_drew)); exact HO_9.out) hb); have n1_ := Aside0.mk (Kd.R_below (by (with_reducible repeat (first | apply Kd.R_alloc | apply Kd.R_drewN | apply Kd.R_drew)); exact HO_12.out) hb); have n2_ := Aside0.mk (Kd.R_lower ho0 (below_size (by repeat (first | (with_reducible first | exact HB.out | apply below_alloc | apply pw_below_drewN | apply below_drew1) | exact HB.out)))); have n3_ := Aside0.mk (below_step (by repeat (first | (with_reducible first | exact HB.out | apply below_alloc | apply pw_below_drewN | apply below_drew1) | exact HB.out)) hb); clear HO_9; clear HO_12; clear HB; have HO_9 := n0_; have HO_12 := n1_; have HO130 := n2_; have HB := n3_; clear n0_ n1_ n2_ n3_; (try clear hb); (try clear hb2); (try clear hk); (try clear hi); (try clear ho0)) | ((with_reducible refine gate_callee (f := 17) rfl ?_); refine goesL_ (some 134) rfl rfl Try.func17 (by kernel_rfl) rfl #[] rfl (by (try simp only [List.map_toArray, List.map_cons, List.map_nil]); first | done | rfl | (simp only [List.length_drop, List.length_take]; rfl)) ?_; (with_reducible refine (trishawlaw03_alive.calls kj28  t131 _ A99.out).mono ?_); rintro e w101 ⟨rfl, hb⟩; refine ⟨_, rfl, ?_⟩; have n0_ := Aside0.mk (Kd.R_below (by (with_reducible repeat (first | apply Kd.R_alloc | apply Kd.R_drewN | apply Kd.R_drew)); exact HO_9.out) hb); have n1_ := Aside0.mk (Kd.R_below (by (with_reducible repeat (first | apply Kd.R_alloc | apply Kd.R_drewN | apply Kd.R_drew)); exact HO_12.out) hb); have n2_ := Aside0.mk (Kd.R_below (by (with_reducible repeat (first | apply Kd.R_alloc | apply Kd.R_drewN | apply Kd.R_drew)); exact HO130.out) hb); have n3_ := Aside0.mk (below_step (by repeat (first | (with_reducible first | exact HB.out | apply below_alloc | apply pw_below_drewN | apply below_drew1) | exact HB.out)) hb); clear HO_9; clear HO_12; clear HO130; clear HB; have HO_9 := n0_; have HO_12 := n1_; have HO130 := n2_; have HB := n3_; clear n0_ n1_ n2_ n3_; (try clear hb); (try clear hb2); (try clear hk); (try clear hi)))
                                go_ret
                                exact ⟨by first | rfl | (simp [errW_none, errW_some] <;> rfl) | (simp [*, errW_none, errW_some] <;> rfl), by repeat (first | (with_reducible first | exact HB.out | apply below_alloc | apply pw_below_drewN | apply below_drew1) | exact HB.out)⟩
                    · rw [if_neg c28] at H
                      have c28b0 : (t106 == 0) = false := beq_eq_false_iff_ne.mpr c28
                      have c28b1 : (t106 != 0) = true := bne_iff_ne.mpr c28
                      by_cases c102 : t106 = 10
                      · rw [if_pos c102] at H
                        have c102b0 : (t106 == 10) = true := beq_iff_eq.mpr c102
                        have c102b1 : (t106 != 10) = false := bne_eq_false_iff_eq.mpr c102
                        clear c102
                        replace H := Option.bind_eq_some_iff.mp H
                        obtain ⟨t125, A1030, H⟩ := H
                        replace H : (some t125) = some r := H
                        have A103 := Aside0.mk A1030
                        clear A1030
                        obtain rfl := Option.some.inj H
                        go_wp2_with (first | (go_at_call 17; (with_reducible refine (trishawlaw03_alive.calls kj22  t125 _ A103.out).mono ?_); rintro e w104 ⟨rfl, hb⟩; have n0_ := Aside0.mk (Kd.R_below (by (with_reducible repeat (first | apply Kd.R_alloc | apply Kd.R_drewN | apply Kd.R_drew)); exact HO_9.out) hb); have n1_ := Aside0.mk (Kd.R_below (by (with_reducible repeat (first | apply Kd.R_alloc | apply Kd.R_drewN | apply Kd.R_drew)); exact HO_12.out) hb); have n2_ := Aside0.mk (Kd.R_below (by (with_reducible repeat (first | apply Kd.R_alloc | apply Kd.R_drewN | apply Kd.R_drew)); exact HO_17.out) hb); have n3_ := Aside0.mk (below_step (by repeat (first | (with_reducible first | exact HB.out | apply below_alloc | apply pw_below_drewN | apply below_drew1) | exact HB.out)) hb); clear HO_9; clear HO_12; clear HO_17; clear HB; have HO_9 := n0_; have HO_12 := n1_; have HO_17 := n2_; have HB := n3_; clear n0_ n1_ n2_ n3_; (try clear hb); (try clear hb2); (try clear hk); (try clear hi)))
                        go_ret
                        exact ⟨by first | rfl | (simp [errW_none, errW_some] <;> rfl) | (simp [*, errW_none, errW_some] <;> rfl), by repeat (first | (with_reducible first | exact HB.out | apply below_alloc | apply pw_below_drewN | apply below_drew1) | exact HB.out)⟩
                      · rw [if_neg c102] at H
                        have c102b0 : (t106 == 10) = false := beq_eq_false_iff_ne.mpr c102
                        have c102b1 : (t106 != 10) = true := bne_iff_ne.mpr c102
                        obtain rfl := Option.some.inj H
                        go_wp2
                        go_ret
                        exact ⟨by first | rfl | (simp [errW_none, errW_some] <;> rfl) | (simp [*, errW_none, errW_some] <;> rfl), by repeat (first | (with_reducible first | exact HB.out | apply below_alloc | apply pw_below_drewN | apply below_drew1) | exact HB.out)⟩
end Go.Proofs.Ytpmadffgdfholaa.B
namespace Go.Proofs.Ytpmadffgdfholaa.B
open Go.RowKit Go.ChangeShapes Go.WideShapes Go.Deep Go.Proofs.YtpmadffgdfholaaW.PrintWords Go.Proofs.YtpmadffgdfholaaW.PrintLast Go.Proofs.YtpmadffgdfholaaW.PrintMore
/-- A street's three numbers are whole numbers of 64 bits. -/
def okS30 (x : S30) : Prop := (Lit.int .i64 x.f0).wf = true ∧ (Lit.int .i64 x.f1).wf = true ∧ (Lit.int .i64 x.f2).wf = true
section
variable {H : Type} {enc : TypeId × Value → H} {w : World} {spare : Nat → Bool} {held : Bool}
set_option maxRecDepth 100000 in
theorem open_way {fuel : Nat} {cs : List Value} {x : DataW H × List MemPlace} (h : DataW.trod enc Try.prog w 0 spare held fuel 30 cs = some x) : ∃ s : S30, cs = [.int .i64 s.f0, .int .i64 s.f1, .int .i64 s.f2] ∧ okS30 s := by
  obtain ⟨xs, n, _, _, hlen, hxl, hf⟩ := DataW.trod_struct Try.underlying30 h
  have h30 : Try.prog.cellsOf 30 = 3 := by kernel_rfl
  have h3 : Try.prog.cellsOf 3 = 1 := by kernel_rfl
  rw [h30] at hlen
  match cs, hlen with
  | [c0, c1, c2], _ =>
    have hsz : xs.length = 3 := hxl
    match xs, hsz with
    | [y0, y1, y2], _ =>
      have g0 : DataW.trod enc Try.prog w 0 spare held n 3 (([c0, c1, c2].drop 0).take (Try.prog.cellsOf 3)) = some y0 := hf 0 _ rfl
      have g1 : DataW.trod enc Try.prog w 0 spare held n 3 (([c0, c1, c2].drop 1).take (Try.prog.cellsOf 3)) = some y1 := hf 1 _ rfl
      have g2 : DataW.trod enc Try.prog w 0 spare held n 3 (([c0, c1, c2].drop 2).take (Try.prog.cellsOf 3)) = some y2 := hf 2 _ rfl
      rw [h3] at g0 g1 g2
      obtain ⟨n0, e0, _, w0⟩ := DataW.trod_int Try.underlying3 g0
      obtain ⟨n1, e1, _, w1⟩ := DataW.trod_int Try.underlying3 g1
      obtain ⟨n2, e2, _, w2⟩ := DataW.trod_int Try.underlying3 g2
      obtain rfl : c0 = .int .i64 n0 := by injection e0
      obtain rfl : c1 = .int .i64 n1 := by injection e1
      obtain rfl : c2 = .int .i64 n2 := by injection e2
      exact ⟨⟨n0, n1, n2⟩, rfl, w0, w1, w2⟩
theorem open_ways {a : Option Addr} {len cap : Nat} {d : DataW H} {p : List MemPlace} (h : DataW.Trod enc Try.prog w 0 spare held 22 (.slice a len cap) d p) :
    ∃ l : List S30, Kd.C k30 w a l.length l ∧ l.length = len ∧ len ≤ cap ∧ cap ≤ maxLen ∧ ∀ x ∈ l, okS30 x := by
  obtain ⟨fuel, hf⟩ := h
  rcases open_slice Try.underlying22 hf with ⟨hcs, _⟩ | ⟨x, l, c, m, n, D, Pl, hcs, _, hl, hm, hmm, _, hi⟩
  · simp [Value.cells] at hcs
    obtain ⟨rfl, rfl, rfl⟩ := hcs
    exact ⟨[], ⟨rfl, by simp, fun h => absurd h (by simp)⟩, rfl, Nat.le_refl _, by simp, by simp⟩
  · simp [Value.cells] at hcs
    obtain ⟨rfl, rfl, rfl⟩ := hcs
    have hlm : len ≤ m := by rw [hmm]; split <;> omega
    have h30 : Try.prog.cellsOf 30 = 3 := by kernel_rfl
    rw [h30] at hi
    have hex : ∀ i : Nat, ∃ s : S30, i < len → okS30 s ∧ w.cells? 0 (x.add (i * 3)) 3 = some [.int .i64 s.f0, .int .i64 s.f1, .int .i64 s.f2] := by
      intro i
      by_cases h : i < len
      · obtain ⟨cs', hc, ht⟩ := hi i (by omega)
        obtain ⟨s, rfl, hs⟩ := open_way ht
        exact ⟨s, fun _ => ⟨hs, hc⟩⟩
      · exact ⟨z30, fun h' => absurd h' h⟩
    obtain ⟨f, hf⟩ := Classical.axiomOfChoice hex
    have hll : ((List.range len).map f).length = len := by simp
    refine ⟨(List.range len).map f, ⟨rfl, by rw [hll]; simp only [maxLen] at hm; omega, fun _ => ⟨x, rfl, fun j p hj => ?_⟩⟩, hll, hl, hm, fun y hy => ?_⟩
    · have hjl : j < len := by have := (List.getElem?_eq_some_iff.1 hj).1; rw [hll] at this; exact this
      rw [List.getElem?_map, List.getElem?_range hjl] at hj
      injection hj with hj
      subst hj
      obtain ⟨hs, hc⟩ := hf j hjl
      obtain ⟨_, _, hat⟩ := World.cells?_some hc
      refine ⟨[.int .i64 (f j).f0, .int .i64 (f j).f1, .int .i64 (f j).f2], rfl, k30_mk w (f j), fun i u hu => ?_⟩
      have hi3 : i < 3 := (List.getElem?_eq_some_iff.1 hu).1
      show w.cell? (x.add (j * 3 + i)) = some u
      rw [← Go.Deep.add_add, hat i hi3, hu]
    · obtain ⟨j, hj, rfl⟩ := List.mem_map.1 hy
      exact (hf j (List.mem_range.1 hj)).1
end
end Go.Proofs.Ytpmadffgdfholaa.B
namespace Go.Proofs.Ytpmadffgdfholaa.B
open Go.RowKit Go.Proofs.YtpmadffgdfholaaW.PrintWords Go.Proofs.YtpmadffgdfholaaW.PrintLast Go.Proofs.YtpmadffgdfholaaW.PrintMore
def trishawlaw03_BranchCosts.Pure : Prop := ∀ (a0 : Int) (l1 : List S30) (a2 : Int) (a3 : Int), (Lit.int .i64 a0).wf = true → l1.length ≤ maxLen → (∀ x ∈ l1, okS30 x) → (Lit.int .u8 a2).wf = true → (Lit.int .u16 a3).wf = true → ∃ k, trishawlaw03_BranchCosts.f k a0 l1 a2 a3 = some true
theorem trishawlaw03_BranchCosts.walk (P : trishawlaw03_BranchCosts.Pure) (w : World) (a0 : Int) (A1 : Option Addr) (c1 : Nat) (l1 : List S30) (hr1 : Kd.C k30 w A1 l1.length l1) (hc1 : l1.length ≤ c1) (a2 : Int) (a3 : Int) (h0_0 : (Lit.int .i64 a0).wf = true) (h1_0 : l1.length ≤ maxLen) (h2_0 : (∀ x ∈ l1, okS30 x)) (h3_0 : (Lit.int .u8 a2).wf = true) (h4_0 : (Lit.int .u16 a3).wf = true) :
    Calls Try.prog 6 #[.int .i64 a0, .slice A1 l1.length c1, .int .u8 a2, .int .u16 a3] w fun e w' => e = .returned (.bool true) ∧ Below w.heap.size w w' := by
  obtain ⟨k, h⟩ := P a0 l1 a2 a3 h0_0 h1_0 h2_0 h3_0 h4_0
  refine (trishawlaw03_BranchCosts.calls k a0 A1 c1 l1 a2 a3 true w hr1 hc1 h).mono ?_
  rintro e w' ⟨rfl, hd⟩
  exact ⟨rfl, hd⟩
end Go.Proofs.Ytpmadffgdfholaa.B
namespace Go.Proofs.Ytpmadffgdfholaa.B
open Go.RowKit Go.Proofs.YtpmadffgdfholaaW.PrintWords Go.Proofs.YtpmadffgdfholaaW.PrintLast Go.Proofs.YtpmadffgdfholaaW.PrintMore
theorem wrap_nat (i : Nat) (h : i < 4611686018427387904) : wrap64 ((i : Int) + 1) = ((i + 1 : Nat) : Int) := by unfold wrap64; omega
theorem drop_rd30 (l : List S30) (i : Nat) (h : i < l.length) : l.drop i = rd_T30 l (i : Int) :: l.drop (i + 1) := by
  rw [List.drop_eq_getElem_cons h]
  simp [rd_T30, List.getD, List.getElem?_eq_getElem h]
theorem wayOk_iff (n : Int) (x : S30) : wayOk n x = true ↔ 0 ≤ x.f0 ∧ x.f0 < n ∧ 0 ≤ x.f1 ∧ x.f1 < n ∧ x.f0 ≠ x.f1 ∧ 0 ≤ x.f2 ∧ x.f2 ≤ 1000 := by
  unfold wayOk mn mx
  simp only [Bool.not_eq_true', Bool.or_eq_false_iff, decide_eq_false_iff_not, beq_eq_false_iff_ne]
  constructor
  · rintro ⟨⟨⟨⟨h1, h2⟩, h3⟩, h4⟩, h5⟩
    split at h1 <;> split at h2 <;> refine ⟨?_, ?_, ?_, ?_, h3, ?_, ?_⟩ <;> omega
  · rintro ⟨h1, h2, h3, h4, h5, h6, h7⟩
    refine ⟨⟨⟨⟨?_, ?_⟩, h5⟩, ?_⟩, ?_⟩
    · split <;> omega
    · split <;> omega
    · omega
    · omega
theorem town_l0 (n : Int) (l : List S30) (hl : l.length < 1000000) : ∀ d i k : Nat, i + d = l.length → trishawref03_Town.l0 (k + 2 * d + 1) n l (i : Int) = some (if (l.drop i).all (wayOk n) then 0 else 2)
  | 0, i, k, h => by
    simp only [trishawref03_Town.l0]
    rw [if_neg (by omega), List.drop_eq_nil_of_le (by omega)]
    simp
  | d + 1, i, k, h => by
    have hi : i < l.length := by omega
    rw [show k + 2 * (d + 1) + 1 = (k + 2 * d + 1 + 1) + 1 from by omega, drop_rd30 l i hi]
    simp only [trishawref03_Town.l0, List.all_cons]
    rw [if_pos (by omega), if_pos (by omega)]
    have ih := town_l0 n l hl d (i + 1) k (by omega)
    have hw := wrap_nat i (by omega)
    have j2t : trishawref03_Town.j2 (k + 2 * d + 1 + 1) n l (i : Int) true = some 2 := by simp [trishawref03_Town.j2]
    have j2f : trishawref03_Town.j2 (k + 2 * d + 1 + 1) n l (i : Int) false = some (if (l.drop (i + 1)).all (wayOk n) then 0 else 2) := by
      simp only [trishawref03_Town.j2, Bool.false_eq_true, if_false, hw]
      exact ih
    generalize rd_T30 l (i : Int) = x
    have hx := wayOk_iff n x
    by_cases hok : wayOk n x = true
    · obtain ⟨h1, h2, h3, h4, h5, h6, h7⟩ := hx.1 hok
      rw [if_neg (by omega), if_neg (by omega), if_neg (by omega), if_neg (by omega), if_neg h5, if_neg (by omega), show decide (x.f2 > 1000) = false from decide_eq_false (by omega), j2f]
      simp [hok]
    · have hb : wayOk n x = false := Bool.eq_false_iff.mpr hok
      simp only [hb, Bool.false_and, Bool.false_eq_true, if_false]
      by_cases t1 : x.f0 < 0
      · rw [if_pos t1, j2t]
      rw [if_neg t1]
      by_cases t2 : x.f0 ≥ n
      · rw [if_pos t2, j2t]
      rw [if_neg t2]
      by_cases t3 : x.f1 < 0
      · rw [if_pos t3, j2t]
      rw [if_neg t3]
      by_cases t4 : x.f1 ≥ n
      · rw [if_pos t4, j2t]
      rw [if_neg t4]
      by_cases t5 : x.f0 = x.f1
      · rw [if_pos t5, j2t]
      rw [if_neg t5]
      by_cases t6 : x.f2 < 0
      · rw [if_pos t6, j2t]
      rw [if_neg t6]
      by_cases t7 : x.f2 > 1000
      · rw [show decide (x.f2 > 1000) = true from decide_eq_true t7, j2t]
      · exact absurd (hx.2 ⟨by omega, by omega, by omega, by omega, t5, by omega, by omega⟩) hok
theorem town_eq (n : Int) (l : List S30) (k : Nat) (hk : 2 * l.length + 2 ≤ k ∨ 62 ≤ k) : trishawref03_Town.f k n l = some (readB n l) := by
  have key : ∀ k, (2 * l.length + 2 ≤ k ∨ 62 ≤ k) → ∀ b : Bool, trishawref03_Town.j0 k n l b = some (if b = true then 2 else if 30 < l.length then 3 else if l.all (wayOk n) then 0 else 2) := by
    intro k hk b
    obtain ⟨k, rfl⟩ : ∃ k', k = k' + 1 := ⟨k - 1, by omega⟩
    simp only [trishawref03_Town.j0]
    cases b with
    | true => simp
    | false =>
      simp only [Bool.false_eq_true, if_false]
      by_cases h3 : 30 < l.length
      · rw [if_pos (by omega), if_pos h3]
      · rw [if_neg (by omega), if_neg h3]
        have := town_l0 n l (by omega) l.length 0 (k - 2 * l.length - 1) (by omega)
        rw [show k - 2 * l.length - 1 + 2 * l.length + 1 = k from by omega] at this
        simpa using this
  unfold trishawref03_Town.f readB
  by_cases h1 : n < 2
  · rw [if_pos h1, key k hk, if_pos rfl, if_pos (Or.inl h1)]
  · rw [if_neg h1, key k hk]
    by_cases h2 : n > 7
    · rw [show decide (n > 7) = true from decide_eq_true h2, if_pos rfl, if_pos (Or.inr h2)]
    · rw [show decide (n > 7) = false from decide_eq_false h2, if_neg (show ¬ (false = true) by decide), if_neg (show ¬ (n < 2 ∨ 7 < n) by omega)]
/-- A town that is taken. -/
theorem readB_ok {n : Int} {l : List S30} (h : readB n l = 0) : 2 ≤ n ∧ n ≤ 7 ∧ l.length ≤ 30 ∧ ∀ x ∈ l, wayOk n x = true := by
  unfold readB at h
  split at h
  · exact absurd h (by decide)
  split at h
  · exact absurd h (by decide)
  split at h
  · rename_i h1 h2 h3
    exact ⟨by omega, by omega, by omega, List.all_eq_true.1 h3⟩
  · exact absurd h (by decide)
end Go.Proofs.Ytpmadffgdfholaa.B
namespace Go.Proofs.Ytpmadffgdfholaa.B
open Go.RowKit Go.Proofs.YtpmadffgdfholaaW.PrintWords Go.Proofs.YtpmadffgdfholaaW.PrintLast Go.Proofs.YtpmadffgdfholaaW.PrintMore
def cnt (s : Nat) : Nat := ((List.range 7).filter fun b => s.testBit b).length
theorem fin_and : ∀ s : Fin 128, ∀ a : Fin 7, (Go.bits .and .i64 (shr .i64 ((s.val : Nat) : Int) ((a.val : Nat) : Int)) 1 = 1) ↔ s.val.testBit a.val = true := by decide +kernel
theorem fin_or : ∀ s : Fin 128, ∀ a : Fin 7, Go.bits .or .i64 ((s.val : Nat) : Int) (shl .i64 1 ((a.val : Nat) : Int)) = ((s.val ||| (1 <<< a.val) : Nat) : Int) := by decide +kernel
theorem fin_mod : ∀ s : Fin 128, ∀ a : Fin 7, Int.tmod (shr .i64 ((s.val : Nat) : Int) ((a.val : Nat) : Int)) 2 = if s.val.testBit a.val then 1 else 0 := by decide +kernel
theorem fin_add : ∀ s : Fin 128, ∀ a : Fin 7, s.val.testBit a.val = false → wrap64 (((s.val : Nat) : Int) + shl .i64 1 ((a.val : Nat) : Int)) = ((s.val ||| (1 <<< a.val) : Nat) : Int) := by decide +kernel
theorem fin_lt : ∀ n : Fin 8, ∀ s : Fin 128, ∀ a : Fin 7, s.val < 2 ^ n.val → a.val < n.val → s.val ||| (1 <<< a.val) < 2 ^ n.val := by decide +kernel
theorem fin_cnt : ∀ s : Fin 128, ∀ a : Fin 7, s.val.testBit a.val = false → cnt (s.val ||| (1 <<< a.val)) = cnt s.val + 1 := by decide +kernel
theorem fin_same : ∀ s : Fin 128, ∀ a : Fin 7, s.val.testBit a.val = true → s.val ||| (1 <<< a.val) = s.val := by decide +kernel
theorem fin_le : ∀ n : Fin 8, ∀ s : Fin 128, s.val < 2 ^ n.val → cnt s.val ≤ n.val := by decide +kernel
/-- A set that a street has been gone along. -/
def stepS (s : Nat) (x : S30) : Nat := if s.testBit x.f0.toNat then s ||| (1 <<< x.f1.toNat) else s
def passS (l : List S30) (L : List Int) (s : Nat) : Nat := L.foldl (fun s i => stepS s (rd_T30 l i)) s
def itS (l : List S30) (L : List Int) : Nat → Nat → Nat
  | 0, s => s
  | d + 1, s => itS l L d (passS l L s)
theorem it_fix {l : List S30} {L : List Int} {s : Nat} (h : passS l L s = s) : ∀ d, itS l L d s = s
  | 0 => rfl
  | d + 1 => by rw [itS, h]; exact it_fix h d
section
variable {n : Nat} {l : List S30} {L : List Int}
theorem step_facts (hn : n ≤ 7) {s : Nat} (hs : s < 2 ^ n) {x : S30} (hx : wayOk n x = true) : stepS s x < 2 ^ n ∧ (stepS s x = s ∨ cnt (stepS s x) = cnt s + 1) := by
  obtain ⟨h1, h2, h3, h4, _⟩ := (wayOk_iff n x).1 hx
  have h128 : s < 128 := Nat.lt_of_lt_of_le hs (show 2 ^ n ≤ 2 ^ 7 from Nat.pow_le_pow_right (by decide) hn)
  unfold stepS
  split
  · refine ⟨fin_lt ⟨n, by omega⟩ ⟨s, h128⟩ ⟨x.f1.toNat, by omega⟩ hs (by simp only []; omega), ?_⟩
    cases hb : s.testBit x.f1.toNat with
    | true => exact .inl (fin_same ⟨s, h128⟩ ⟨x.f1.toNat, by omega⟩ hb)
    | false => exact .inr (fin_cnt ⟨s, h128⟩ ⟨x.f1.toNat, by omega⟩ hb)
  · exact ⟨hs, .inl rfl⟩
/-- The indices of a list are streets, and the streets are streets of the town. -/
def InL (n : Nat) (l : List S30) (L : List Int) : Prop := ∀ i ∈ L, 0 ≤ i ∧ i < (l.length : Int) ∧ wayOk n (rd_T30 l i) = true
theorem pass_facts (hn : n ≤ 7) : ∀ (L : List Int), InL n l L → ∀ s, s < 2 ^ n → passS l L s < 2 ^ n ∧ (passS l L s = s ∨ cnt s < cnt (passS l L s))
  | [], _, s, hs => ⟨hs, .inl rfl⟩
  | i :: L, hL, s, hs => by
    obtain ⟨a1, a2⟩ := step_facts hn hs (hL i List.mem_cons_self).2.2
    obtain ⟨b1, b2⟩ := pass_facts hn L (fun j hj => hL j (List.mem_cons_of_mem _ hj)) _ a1
    refine ⟨b1, ?_⟩
    show passS l L (stepS s (rd_T30 l i)) = s ∨ cnt s < cnt (passS l L (stepS s (rd_T30 l i)))
    rcases a2 with a2 | a2
    · rw [a2] at b2 ⊢
      exact b2
    · rcases b2 with b2 | b2
      · rw [b2]; exact .inr (by omega)
      · exact .inr (by omega)
theorem it_lt (hn : n ≤ 7) (hL : InL n l L) : ∀ d s, s < 2 ^ n → itS l L d s < 2 ^ n
  | 0, _, h => h
  | d + 1, s, h => it_lt hn hL d _ (pass_facts hn L hL s h).1
/-- Enough rounds are enough. -/
theorem it_stop (hn : n ≤ 7) (hL : InL n l L) : ∀ c s, s < 2 ^ n → n ≤ cnt s + c → itS l L (c + 1) s = itS l L c s
  | 0, s, hs, h => by
    rcases (pass_facts hn L hL s hs).2 with e | e
    · exact it_fix e 1
    · have := fin_le ⟨n, by omega⟩ ⟨passS l L s, Nat.lt_of_lt_of_le (pass_facts hn L hL s hs).1 (show 2 ^ n ≤ 2 ^ 7 from Nat.pow_le_pow_right (by decide) hn)⟩ (pass_facts hn L hL s hs).1
      simp only [] at this
      omega
  | c + 1, s, hs, h => by
    rcases (pass_facts hn L hL s hs).2 with e | e
    · rw [it_fix e, it_fix e]
    · show itS l L (c + 1) (passS l L s) = itS l L c (passS l L s)
      exact it_stop hn hL c _ (pass_facts hn L hL s hs).1 (by omega)
theorem drop_rdI4 (ps : List Int) (i : Nat) (h : i < ps.length) : ps.drop i = rd ps (i : Int) :: ps.drop (i + 1) := by
  rw [List.drop_eq_getElem_cons h]
  simp [rd, List.getD, List.getElem?_eq_getElem h]
theorem rd_mem4 (cols : List Int) (p : Nat) (h : p < cols.length) : rd cols (p : Int) ∈ cols := by
  simp [rd, List.getD, List.getElem?_eq_getElem h]
theorem int_nat {a : Int} (h : 0 ≤ a) : a = ((a.toNat : Nat) : Int) := by omega
/-- One round of the code's. -/
theorem reach_l1 (hn : n ≤ 7) (hL : InL n l L) (hl : L.length < 1000) (N j : Int) : ∀ (d q k s : Nat), q + d = L.length → s < 2 ^ n →
    branch_town_reach.l1 (k + d + 1) L (s : Int) N j L (L.length : Int) (q : Int) (n : Int) l = branch_town_reach.l0 k L ((passS l (L.drop q) s : Nat) : Int) N (wrap64 (j + 1)) (n : Int) l
  | 0, q, k, s, h, _ => by
    simp only [branch_town_reach.l1]
    rw [if_neg (by omega), List.drop_eq_nil_of_le (by omega)]
    rfl
  | d + 1, q, k, s, h, hs => by
    have hq : q < L.length := by omega
    have hw := wrap_nat q (by omega)
    obtain ⟨i0, i1, hx⟩ := hL _ (rd_mem4 L q hq)
    have ih := reach_l1 hn hL hl N j d (q + 1) k (stepS s (rd_T30 l (rd L (q : Int)))) (by omega) (step_facts hn hs hx).1
    have h128 : s < 128 := Nat.lt_of_lt_of_le hs (show 2 ^ n ≤ 2 ^ 7 from Nat.pow_le_pow_right (by decide) hn)
    rw [drop_rdI4 L q hq]
    show _ = branch_town_reach.l0 k L ((passS l (L.drop (q + 1)) (stepS s (rd_T30 l (rd L (q : Int)))) : Nat) : Int) N (wrap64 (j + 1)) (n : Int) l
    rw [← ih, show k + (d + 1) + 1 = (k + d + 1) + 1 from by omega]
    clear ih
    generalize k + d + 1 = qq
    simp only [branch_town_reach.l1, hw]
    rw [if_pos (by omega), if_pos (by omega), if_pos (by omega), if_pos i0, if_pos i1]
    generalize rd_T30 l (rd L (q : Int)) = x at hx
    obtain ⟨h1, h2, h3, h4, _⟩ := (wayOk_iff n x).1 hx
    have f1 := fin_and ⟨s, h128⟩ ⟨x.f0.toNat, by omega⟩
    have f2 := fin_or ⟨s, h128⟩ ⟨x.f1.toNat, by omega⟩
    simp only [← int_nat h1, ← int_nat h3] at f1 f2
    rw [if_pos h1]
    unfold stepS
    by_cases t : s.testBit x.f0.toNat = true
    · rw [if_pos (f1.2 t), if_pos h3, if_pos t, f2]
    · rw [if_neg (fun hh => t (f1.1 hh)), if_neg t]
theorem reach_l0 (hn : n ≤ 7) (hL : InL n l L) (hl : L.length < 1000) : ∀ (d j k s : Nat), j + d = n → s < 2 ^ n →
    branch_town_reach.l0 (k + (L.length + 2) * d + 1) L (s : Int) (n : Int) (j : Int) (n : Int) l = some ((itS l L d s : Nat) : Int)
  | 0, j, k, s, h, _ => by
    simp only [branch_town_reach.l0, Nat.mul_zero, Nat.add_zero]
    rw [if_neg (by omega)]
    rfl
  | d + 1, j, k, s, h, hs => by
    have hw := wrap_nat j (by omega)
    have ih := reach_l0 hn hL hl d (j + 1) k (passS l L s) (by omega) (pass_facts hn L hL s hs).1
    have h1 := reach_l1 hn hL hl (n : Int) (j : Int) L.length 0 (k + (L.length + 2) * d + 1) s (by omega) hs
    rw [show k + (L.length + 2) * (d + 1) + 1 = (k + (L.length + 2) * d + 1 + L.length + 1) + 1 from by rw [Nat.mul_succ]; omega]
    generalize hq : k + (L.length + 2) * d + 1 + L.length + 1 = qq at h1
    simp only [branch_town_reach.l0]
    rw [if_pos (by omega)]
    rw [List.drop_zero, hw] at h1
    exact h1.trans ih
/-- One round of the reference's. -/
theorem reached_l1 (hn : n ≤ 7) (hL : InL n l L) (hl : L.length < 1000) : ∀ (d q k s : Nat) (g : Bool), q + d = L.length → s < 2 ^ n →
    trishawref03_reached.l1 (k + d + 1) l L (s : Int) g (q : Int) = trishawref03_reached.l0 k l L ((passS l (L.drop q) s : Nat) : Int) (g || decide (passS l (L.drop q) s ≠ s))
  | 0, q, k, s, g, h, _ => by
    simp only [trishawref03_reached.l1]
    rw [if_neg (by omega), List.drop_eq_nil_of_le (by omega)]
    simp [passS]
  | d + 1, q, k, s, g, h, hs => by
    have hq : q < L.length := by omega
    have hw := wrap_nat q (by omega)
    obtain ⟨i0, i1, hx⟩ := hL _ (rd_mem4 L q hq)
    have sf := step_facts hn hs hx
    have ih := fun g => reached_l1 hn hL hl d (q + 1) k (stepS s (rd_T30 l (rd L (q : Int)))) g (by omega) sf.1
    have pf := pass_facts (l := l) hn (L.drop (q + 1)) (fun i hi => hL i (List.mem_of_mem_drop hi)) _ sf.1
    have h128 : s < 128 := Nat.lt_of_lt_of_le hs (show 2 ^ n ≤ 2 ^ 7 from Nat.pow_le_pow_right (by decide) hn)
    rw [drop_rdI4 L q hq]
    show _ = trishawref03_reached.l0 k l L ((passS l (L.drop (q + 1)) (stepS s (rd_T30 l (rd L (q : Int)))) : Nat) : Int) (g || decide (passS l (L.drop (q + 1)) (stepS s (rd_T30 l (rd L (q : Int)))) ≠ s))
    rw [show k + (d + 1) + 1 = (k + d + 1) + 1 from by omega]
    generalize k + d + 1 = qq at ih
    simp only [trishawref03_reached.l1, hw]
    rw [if_pos (by omega), if_pos (by omega), if_pos i0, if_pos i1]
    generalize rd_T30 l (rd L (q : Int)) = x at hx ih sf pf
    obtain ⟨h1, h2, h3, h4, _⟩ := (wayOk_iff n x).1 hx
    have f1 := fin_mod ⟨s, h128⟩ ⟨x.f0.toNat, by omega⟩
    have f2 := fin_mod ⟨s, h128⟩ ⟨x.f1.toNat, by omega⟩
    have f3 := fin_add ⟨s, h128⟩ ⟨x.f1.toNat, by omega⟩
    have f4 := fin_same ⟨s, h128⟩ ⟨x.f1.toNat, by omega⟩
    have f5 := fin_cnt ⟨s, h128⟩ ⟨x.f1.toNat, by omega⟩
    simp only [← int_nat h1, ← int_nat h3] at f1 f2 f3 f4 f5
    rw [if_pos h1, f1]
    unfold stepS at ih sf pf ⊢
    by_cases t : s.testBit x.f0.toNat = true
    · simp only [t, if_true] at ih sf pf ⊢
      rw [if_pos h3, f2]
      cases tb : s.testBit x.f1.toNat with
      | true =>
        rw [f4 tb] at ih ⊢
        rw [if_neg (by decide)]
        exact ih g
      | false =>
        rw [if_pos (by decide), f3 tb, ih true]
        have hne : passS l (L.drop (q + 1)) (s ||| 1 <<< x.f1.toNat) ≠ s := by
          intro hh
          have := f5 tb
          rcases pf.2 with e | e
          · rw [e] at hh; rw [hh] at this; omega
          · rw [hh] at e; omega
        simp [hne]
    · simp only [t, if_false, Bool.false_eq_true] at ih sf pf ⊢
      rw [if_neg (by decide)]
      exact ih g
theorem reached_l0 (hn : n ≤ 7) (hL : InL n l L) (hl : L.length < 1000) : ∀ (c k s : Nat), s < 2 ^ n → n ≤ cnt s + c →
    trishawref03_reached.l0 (k + (L.length + 2) * (c + 1) + 1) l L (s : Int) true = some ((itS l L c s : Nat) : Int)
  | c, k, s, hs, h => by
    have h1 := reached_l1 hn hL hl L.length 0 (k + (L.length + 2) * c + 1) s false (by omega) hs
    rw [show k + (L.length + 2) * (c + 1) + 1 = (k + (L.length + 2) * c + 1 + L.length + 1) + 1 from by rw [Nat.mul_succ]; omega]
    generalize hq : k + (L.length + 2) * c + 1 + L.length + 1 = qq at h1
    simp only [trishawref03_reached.l0, if_true]
    rw [List.drop_zero] at h1
    refine h1.trans ?_
    have pf := pass_facts hn L hL s hs
    by_cases e : passS l L s = s
    · rw [e, it_fix e]
      simp only [ne_eq, not_true_eq_false, decide_false, Bool.or_false]
      simp only [trishawref03_reached.l0]
      rfl
    · simp only [ne_eq, e, not_false_eq_true, decide_true, Bool.or_true]
      cases c with
      | zero =>
        have := it_stop hn hL 0 s hs (by omega)
        exact absurd this e
      | succ c =>
        have := reached_l0 hn hL hl c k (passS l L s) pf.1 (by rcases pf.2 with e2 | e2; exact absurd e2 e; omega)
        exact this
end
/-- Both closures. -/
theorem reach_both {n : Nat} {l : List S30} {L : List Int} (hn2 : 1 ≤ n) (hn : n ≤ 7) (hL : InL n l L) (hl : L.length < 1000) :
    ∃ r : Nat, r < 2 ^ n ∧ ∃ K, ∀ k, K ≤ k → branch_town_reach.f k (n : Int) l L = some (r : Int) ∧ trishawref03_reached.f k l L = some (r : Int) := by
  have h1 : (1 : Nat) < 2 ^ n := Nat.one_lt_two_pow (by omega)
  have hc : cnt 1 = 1 := by decide +kernel
  refine ⟨itS l L n 1, it_lt hn hL n 1 h1, (L.length + 2) * (n + 1) + 1, fun k hk => ⟨?_, ?_⟩⟩
  · have := reach_l0 hn hL hl n 0 (k - (L.length + 2) * n - 1) 1 (by omega) h1
    rw [show k - (L.length + 2) * n - 1 + (L.length + 2) * n + 1 = k from by have : (L.length + 2) * (n + 1) = (L.length + 2) * n + (L.length + 2) := Nat.mul_succ _ _; omega] at this
    exact this
  · have := reached_l0 hn hL hl n (k - (L.length + 2) * (n + 1) - 1) 1 h1 (by omega)
    rw [show k - (L.length + 2) * (n + 1) - 1 + (L.length + 2) * (n + 1) + 1 = k from by omega] at this
    exact this
end Go.Proofs.Ytpmadffgdfholaa.B
namespace Go.Proofs.Ytpmadffgdfholaa.B
open Go.RowKit Go.Proofs.YtpmadffgdfholaaW.PrintWords Go.Proofs.YtpmadffgdfholaaW.PrintLast Go.Proofs.YtpmadffgdfholaaW.PrintMore
attribute [local go_sem] max2_int min2_int max_two min_two max_three min_three max_four min_four   -- for this text's walks alone
set_option linter.unusedVariables false
set_option linter.unusedSimpArgs false
def branch_Reach.f (k : Nat) (a0 : Int) (l1 : List (S30)) : Option (Int × Int) := (branch_read.f a0 l1).bind fun t101 => (if t101 = 0 then ((branch_town_all.f k a0 l1).bind fun t103 => ((branch_town_reach.f k a0 l1 t103).bind fun t106 => (some (t106, 0)))) else (some (0, t101)))
end Go.Proofs.Ytpmadffgdfholaa.B
namespace Go.Proofs.Ytpmadffgdfholaa.B
open Go.RowKit Go.Proofs.YtpmadffgdfholaaW.PrintWords Go.Proofs.YtpmadffgdfholaaW.PrintLast Go.Proofs.YtpmadffgdfholaaW.PrintMore
def idx (l : List S30) : List Int := (List.range l.length).map fun q : Nat => (q : Int)
theorem idx_length (l : List S30) : (idx l).length = l.length := by simp [idx]
theorem all_code (l : List S30) (hl : l.length < 1000) : ∀ (d i k : Nat), i + d = l.length → branch_town_all.l0 (k + d + 1) ((List.range i).map fun q : Nat => (q : Int)) (l.length : Int) (i : Int) = some (idx l)
  | 0, i, k, h => by
    obtain rfl : i = l.length := by omega
    simp only [branch_town_all.l0]
    rw [if_neg (by omega)]
    rfl
  | d + 1, i, k, h => by
    have ih := all_code l hl d (i + 1) k (by omega)
    have hw := wrap_nat i (by omega)
    rw [← ih, show k + (d + 1) + 1 = (k + d + 1) + 1 from by omega]
    clear ih
    generalize k + d + 1 = qq
    simp only [branch_town_all.l0, hw]
    rw [if_pos (by omega), if_pos (by simp; omega), List.range_succ, List.map_append]
    rfl
theorem all_ref (l : List S30) (hl : l.length < 1000) : ∀ (d i k : Nat), i + d = l.length → trishawref03_all.l0 (k + d + 1) l ((List.range i).map fun q : Nat => (q : Int)) (i : Int) = some (idx l)
  | 0, i, k, h => by
    obtain rfl : i = l.length := by omega
    simp only [trishawref03_all.l0]
    rw [if_neg (by omega)]
    rfl
  | d + 1, i, k, h => by
    have ih := all_ref l hl d (i + 1) k (by omega)
    have hw := wrap_nat i (by omega)
    rw [← ih, show k + (d + 1) + 1 = (k + d + 1) + 1 from by omega]
    clear ih
    generalize k + d + 1 = qq
    simp only [trishawref03_all.l0, hw]
    rw [if_pos (by omega), if_pos (by simp; omega), List.range_succ, List.map_append]
    rfl
theorem rd_T30_mem (l : List S30) (i : Nat) (h : i < l.length) : rd_T30 l (i : Int) ∈ l := by
  simp [rd_T30, List.getD, List.getElem?_eq_getElem h]
theorem idx_in {n : Nat} {l : List S30} (hx : ∀ x ∈ l, wayOk n x = true) : InL n l (idx l) := by
  intro i hi
  obtain ⟨q, hq, rfl⟩ := List.mem_map.1 hi
  have := List.mem_range.1 hq
  exact ⟨by omega, by omega, hx _ (rd_T30_mem l q this)⟩
theorem reach_eq (n : Int) (l : List S30) : ∃ r t : Int, ∃ K, ∀ k, K ≤ k → branch_Reach.f k n l = some (r, t) ∧ trishawref03_Reach.f k n l = some (r, t) := by
  by_cases hr : readB n l = 0
  · obtain ⟨h2, h7, h30, hx⟩ := readB_ok hr
    obtain ⟨m, rfl⟩ := Int.eq_ofNat_of_zero_le (show 0 ≤ n by omega)
    obtain ⟨r, _, K, hK⟩ := reach_both (n := m) (l := l) (L := idx l) (by omega) (by omega) (idx_in hx) (by rw [idx_length]; omega)
    refine ⟨r, 0, K + l.length + 100, fun k hk => ?_⟩
    obtain ⟨a, b⟩ := hK k (by omega)
    have c1 := all_code l (by omega) l.length 0 (k - l.length - 1) (by omega)
    have c2 := all_ref l (by omega) l.length 0 (k - l.length - 1) (by omega)
    rw [show k - l.length - 1 + l.length + 1 = k from by omega] at c1 c2
    replace c1 : branch_town_all.l0 k [] (l.length : Int) 0 = some (idx l) := c1
    replace c2 : trishawref03_all.l0 k l [] 0 = some (idx l) := c2
    unfold branch_Reach.f trishawref03_Reach.f branch_read.f branch_town_all.f trishawref03_all.f
    rw [town_eq _ _ k (.inr (by omega)), hr]
    simp only [Option.bind_some, if_true]
    rw [c1, c2, Option.bind_some, Option.bind_some, a, b]
    exact ⟨rfl, rfl⟩
  · refine ⟨0, readB n l, 100, fun k hk => ?_⟩
    unfold branch_Reach.f trishawref03_Reach.f branch_read.f
    rw [town_eq _ _ k (.inr (by omega)), Option.bind_some, Option.bind_some]
    exact ⟨by rw [if_neg hr], by rw [if_neg hr]⟩
theorem fin_and0 : ∀ s : Fin 128, ∀ a : Fin 7, (Go.bits .and .i64 (shr .i64 ((s.val : Nat) : Int) ((a.val : Nat) : Int)) 1 = 0) ↔ s.val.testBit a.val = false := by decide +kernel
/-- The streets that enter, from street i on. -/
def entR (l : List S30) (s : Nat) : Nat → Nat → List Int → List Int
  | 0, _, acc => acc
  | d + 1, i, acc => entR l s d (i + 1) (if s.testBit (rd_T30 l (i : Int)).f0.toNat = false ∧ s.testBit (rd_T30 l (i : Int)).f1.toNat = true then acc ++ [(i : Int)] else acc)
section
variable {n : Int} {l : List S30} {s : Nat}
theorem ent_code (hn : n ≤ 7) (hl : l.length < 1000) (hx : ∀ x ∈ l, wayOk n x = true) (hs : s < 128) : ∀ (d i k : Nat) (acc : List Int), i + d = l.length → acc.length ≤ i →
    branch_town_entering.l0 (k + d + 1) (s : Int) acc l (l.length : Int) (i : Int) = some (entR l s d i acc)
  | 0, i, k, acc, h, _ => by
    simp only [branch_town_entering.l0]
    rw [if_neg (by omega)]
    rfl
  | d + 1, i, k, acc, h, ha => by
    have hi : i < l.length := by omega
    have hw := wrap_nat i (by omega)
    have hok := hx _ (rd_T30_mem l i hi)
    have ih := fun acc ha => ent_code hn hl hx hs d (i + 1) k acc (by omega) ha
    rw [show k + (d + 1) + 1 = (k + d + 1) + 1 from by omega]
    generalize k + d + 1 = qq at ih
    simp only [branch_town_entering.l0, hw, entR]
    rw [if_pos (by omega), if_pos (by omega), if_pos (by omega)]
    generalize rd_T30 l (i : Int) = x at hok
    obtain ⟨h1, h2, h3, h4, _⟩ := (wayOk_iff n x).1 hok
    have f1 := fin_and0 ⟨s, hs⟩ ⟨x.f0.toNat, by omega⟩
    have f2 := fin_and ⟨s, hs⟩ ⟨x.f1.toNat, by omega⟩
    simp only [← int_nat h1, ← int_nat h3] at f1 f2
    rw [if_pos h1]
    by_cases t0 : s.testBit x.f0.toNat = false
    · rw [if_pos (f1.2 t0), if_pos h3]
      by_cases t1 : s.testBit x.f1.toNat = true
      · rw [if_pos (f2.2 t1), if_pos (by omega), if_pos ⟨t0, t1⟩]
        exact ih _ (by simp; omega)
      · rw [if_neg (fun hh => t1 (f2.1 hh)), if_neg (fun hh => t1 hh.2)]
        exact ih _ (by omega)
    · rw [if_neg (fun hh => t0 (f1.1 hh)), if_neg (fun hh => t0 hh.1)]
      exact ih _ (by omega)
end
theorem same_self (E : List Int) (hE : E.length ≤ 1000) : ∀ (d i k : Nat), i + d = E.length → trishawlaw03_same.l0 (k + d + 1) E E (i : Int) = some true
  | 0, i, k, h => by
    simp only [trishawlaw03_same.l0]
    rw [if_neg (by omega)]
  | d + 1, i, k, h => by
    have hw := wrap_nat i (by omega)
    have ih := same_self E hE d (i + 1) k (by omega)
    rw [show k + (d + 1) + 1 = (k + d + 1) + 1 from by omega]
    generalize k + d + 1 = qq at ih
    simp only [trishawlaw03_same.l0, hw]
    rw [if_pos (by omega), if_pos (by omega), if_pos (by omega)]
    simpa using ih
end Go.Proofs.Ytpmadffgdfholaa.B
namespace Go.Proofs.Ytpmadffgdfholaa.B
/-- Corners that are reached from s along streets of T. -/
inductive Rc (a b : Nat → Nat) (T : Nat → Prop) (s : Nat) : Nat → Prop
  | refl : Rc a b T s s
  | step {i : Nat} : T i → Rc a b T s (a i) → Rc a b T s (b i)
/-- The same, in k steps. -/
inductive Rk (a b : Nat → Nat) (T : Nat → Prop) (s : Nat) : Nat → Nat → Prop
  | refl : Rk a b T s 0 s
  | step {i k : Nat} : T i → Rk a b T s k (a i) → Rk a b T s (k + 1) (b i)
section
variable {n : Nat} {a b : Nat → Nat} {T U : Nat → Prop} {s c d : Nat}
theorem Rc.mono (h : ∀ i, T i → U i) (r : Rc a b T s c) : Rc a b U s c := by
  induction r with
  | refl => exact .refl
  | step t _ ih => exact .step (h _ t) ih
theorem Rc.trans (r : Rc a b T s c) (q : Rc a b T c d) : Rc a b T s d := by
  induction q with
  | refl => exact r
  | step t _ ih => exact .step t ih
theorem Rc.one {i : Nat} (t : T i) : Rc a b T (a i) (b i) := .step t .refl
theorem Rc.rk (r : Rc a b T s c) : ∃ k, Rk a b T s k c := by
  induction r with
  | refl => exact ⟨0, .refl⟩
  | step t _ ih => obtain ⟨k, h⟩ := ih; exact ⟨k + 1, .step t h⟩
/-- What is closed under the streets and has s has all that is reached. -/
theorem Rc.closed {S : Nat → Prop} (hs : S s) (h : ∀ i, T i → S (a i) → S (b i)) (r : Rc a b T s c) : S c := by
  induction r with
  | refl => exact hs
  | step t _ ih => exact h _ t ih
theorem least_nat {P : Nat → Prop} (h : ∃ k, P k) : ∃ k, P k ∧ ∀ j, j < k → ¬ P j := by
  obtain ⟨k, hk⟩ := h
  induction k using Nat.strongRecOn with
  | _ k ih =>
    by_cases hj : ∃ j, j < k ∧ P j
    · obtain ⟨j, h1, h2⟩ := hj; exact ih j h1 h2
    · exact ⟨k, hk, fun j h1 h2 => hj ⟨j, h1, h2⟩⟩
/-- A branching: the street that leads to each corner but 0. -/
structure IsB (n : Nat) (a b : Nat → Nat) (T : Nat → Prop) (f : Nat → Nat) : Prop where
  on : ∀ c, 0 < c → c < n → T (f c) ∧ b (f c) = c
  all : ∀ c, c < n → Rc a b (fun i => ∃ c, 0 < c ∧ c < n ∧ i = f c) 0 c
theorem IsB.mono {f : Nat → Nat} (h : IsB n a b T f) (hT : ∀ i, T i → U i) : IsB n a b U f :=
  ⟨fun c h0 h1 => ⟨hT _ (h.on c h0 h1).1, (h.on c h0 h1).2⟩, h.all⟩
theorem IsB.within {f : Nat → Nat} (h : IsB n a b T f) (hU : ∀ c, 0 < c → c < n → U (f c)) : IsB n a b U f :=
  ⟨fun c h0 h1 => ⟨hU c h0 h1, (h.on c h0 h1).2⟩, h.all⟩
theorem IsB.congr {f g : Nat → Nat} (h : IsB n a b T f) (e : ∀ c, 0 < c → c < n → f c = g c) : IsB n a b T g :=
  ⟨fun c h0 h1 => e c h0 h1 ▸ h.on c h0 h1, fun c hc => (h.all c hc).mono fun _ ⟨c, h0, h1, q⟩ => ⟨c, h0, h1, q.trans (e c h0 h1)⟩⟩
/-- If all corners are reached, there is a branching. -/
theorem exists_branching (hT : ∀ i, T i → a i < n) (h : ∀ c, c < n → Rc a b T 0 c) : ∃ f, IsB n a b T f := by
  have hd : ∀ c, ∃ k, c < n → Rk a b T 0 k c ∧ ∀ j, j < k → ¬ Rk a b T 0 j c := by
    intro c
    by_cases hc : c < n
    · obtain ⟨k, hk⟩ := least_nat (h c hc).rk
      exact ⟨k, fun _ => hk⟩
    · exact ⟨0, fun h => absurd h hc⟩
  obtain ⟨d, hd⟩ : ∃ d : Nat → Nat, ∀ c, c < n → Rk a b T 0 (d c) c ∧ ∀ j, j < d c → ¬ Rk a b T 0 j c :=
    ⟨fun c => Classical.choose (hd c), fun c => Classical.choose_spec (hd c)⟩
  have hs : ∀ c, ∃ i, 0 < c → c < n → T i ∧ b i = c ∧ a i < n ∧ d (a i) < d c := by
    intro c
    by_cases hc : 0 < c ∧ c < n
    · obtain ⟨h1, h2⟩ := hd c hc.2
      generalize hk : d c = k at h1 h2
      cases h1 with
      | refl => omega
      | @step i k t r =>
        refine ⟨i, fun _ _ => ⟨t, rfl, hT i t, ?_⟩⟩
        have hq : ¬ k < d (a i) := fun hlt => (hd (a i) (hT i t)).2 k hlt r
        omega
    · exact ⟨0, fun h1 h2 => absurd ⟨h1, h2⟩ hc⟩
  obtain ⟨f, hf⟩ : ∃ f : Nat → Nat, ∀ c, 0 < c → c < n → T (f c) ∧ b (f c) = c ∧ a (f c) < n ∧ d (a (f c)) < d c :=
    ⟨fun c => Classical.choose (hs c), fun c => Classical.choose_spec (hs c)⟩
  refine ⟨f, fun c h0 h1 => ⟨(hf c h0 h1).1, (hf c h0 h1).2.1⟩, ?_⟩
  have key : ∀ k c, c < n → d c ≤ k → Rc a b (fun i => ∃ c, 0 < c ∧ c < n ∧ i = f c) 0 c := by
    intro k
    induction k with
    | zero =>
      intro c hc hk
      have hr := (hd c hc).1
      rw [show d c = 0 by omega] at hr
      cases hr
      exact .refl
    | succ k ih =>
      intro c hc hk
      by_cases h0 : 0 < c
      · obtain ⟨_, h2, h3, h4⟩ := hf c h0 hc
        have := Rc.step (a := a) (b := b) (T := fun i => ∃ c, 0 < c ∧ c < n ∧ i = f c) (i := f c) ⟨c, h0, hc, rfl⟩ (ih (a (f c)) h3 (by omega))
        rw [h2] at this
        exact this
      · obtain rfl : c = 0 := by omega
        exact .refl
  exact fun c hc => key (d c) c hc (Nat.le_refl _)
/-- A set of corners is entered by a street of the branching. -/
theorem IsB.enters {f : Nat → Nat} (h : IsB n a b T f) (S : Nat → Prop) (h0 : ¬ S 0) (hs : ∃ c, c < n ∧ S c) : ∃ c, 0 < c ∧ c < n ∧ S c ∧ ¬ S (a (f c)) := by
  refine Classical.byContradiction fun hn => ?_
  obtain ⟨c, hc, hS⟩ := hs
  have hr : ¬ S c := (h.all c hc).closed (S := fun c => ¬ S c) h0 (by
    rintro i ⟨e, e0, e1, rfl⟩ ha hb
    have hbe := (h.on e e0 e1).2
    rw [hbe] at hb
    exact hn ⟨e, e0, e1, hb, ha⟩)
  exact hr hS
def sumZ (g : Nat → Int) : Nat → Int
  | 0 => 0
  | k + 1 => sumZ g k + g k
theorem sumZ_congr {g h : Nat → Int} : ∀ k, (∀ i, i < k → g i = h i) → sumZ g k = sumZ h k
  | 0, _ => rfl
  | k + 1, e => by simp only [sumZ]; rw [sumZ_congr k (fun i hi => e i (by omega)), e k (by omega)]
theorem sumZ_le {g h : Nat → Int} : ∀ k, (∀ i, i < k → g i ≤ h i) → sumZ g k ≤ sumZ h k
  | 0, _ => Int.le_refl _
  | k + 1, e => by simp only [sumZ]; have := sumZ_le k (fun i hi => e i (by omega)); have := e k (by omega); omega
theorem sumZ_add (g h : Nat → Int) : ∀ k, sumZ (fun i => g i + h i) k = sumZ g k + sumZ h k
  | 0 => rfl
  | k + 1 => by simp only [sumZ]; rw [sumZ_add g h k]; omega
theorem sumZ_zero : ∀ k, sumZ (fun _ => 0) k = 0
  | 0 => rfl
  | k + 1 => by simp only [sumZ]; rw [sumZ_zero k]; rfl
/-- At most one number is not 0, and it is at most x. -/
theorem sumZ_one {g : Nat → Int} {v : Nat} {x : Int} (hx : 0 ≤ x) (hv : g v ≤ x) : ∀ k, (∀ i, i < k → i ≠ v → g i ≤ 0) → sumZ g k ≤ x
  | 0, _ => hx
  | k + 1, h => by
    simp only [sumZ]
    by_cases e : k = v
    · have : sumZ g k ≤ sumZ (fun _ => 0) k := sumZ_le k (fun i hi => h i (by omega) (by omega))
      rw [sumZ_zero] at this
      rw [e] at this ⊢
      omega
    · have := sumZ_one hx hv k (fun i hi => h i (by omega))
      have := h k (by omega) e
      omega
theorem sumZ_ge_one {g : Nat → Int} {v : Nat} : ∀ k, v < k → (∀ i, i < k → 0 ≤ g i) → g v ≤ sumZ g k
  | k + 1, hv, h => by
    simp only [sumZ]
    have h0 : sumZ (fun _ => 0) k ≤ sumZ g k := sumZ_le k (fun i hi => h i (by omega))
    rw [sumZ_zero] at h0
    by_cases e : v = k
    · subst e; omega
    · have h1 := sumZ_ge_one (g := g) (v := v) k (by omega) (fun i hi => h i (by omega)); have := h k (by omega); omega
/-- What a branching costs. -/
def costF (n : Nat) (p : Nat → Int) (f : Nat → Nat) : Int := sumZ (fun c => if c = 0 then 0 else p (f c)) n
theorem costF_congr {p q : Nat → Int} {f g : Nat → Nat} (h : ∀ c, 0 < c → c < n → p (f c) = q (g c)) : costF n p f = costF n q g := by
  refine sumZ_congr n fun c hc => ?_
  split
  · rfl
  · exact h c (by omega) hc
theorem costF_le {p q : Nat → Int} {f g : Nat → Nat} (h : ∀ c, 0 < c → c < n → p (f c) ≤ q (g c)) : costF n p f ≤ costF n q g := by
  refine sumZ_le n fun c hc => ?_
  split
  · exact Int.le_refl _
  · exact h c (by omega) hc
theorem costF_nonneg {p : Nat → Int} {f : Nat → Nat} (h : ∀ c, 0 < c → c < n → 0 ≤ p (f c)) : 0 ≤ costF n p f := by
  have := sumZ_le (g := fun _ => 0) (h := fun c => if c = 0 then 0 else p (f c)) n (fun c hc => by split; exact Int.le_refl _; exact h c (by omega) hc)
  rwa [sumZ_zero] at this
/-- v is the least cost of a branching of streets of T. -/
def Opt (n : Nat) (a b : Nat → Nat) (T : Nat → Prop) (p : Nat → Int) (v : Int) : Prop :=
  (∃ f, IsB n a b T f ∧ costF n p f = v) ∧ ∀ f, IsB n a b T f → v ≤ costF n p f
theorem Opt.unique {p : Nat → Int} {v w : Int} (h : Opt n a b T p v) (k : Opt n a b T p w) : v = w := by
  obtain ⟨⟨f, hf, rfl⟩, h2⟩ := h
  obtain ⟨⟨g, hg, rfl⟩, k2⟩ := k
  have := h2 g hg
  have := k2 f hf
  omega
/-- A set that is to be priced: no street that is left for nothing enters it, and it holds together by such streets. -/
structure Alone (n : Nat) (a b : Nat → Nat) (T : Nat → Prop) (p : Nat → Int) (S : Nat → Prop) : Prop where
  h0 : ¬ S 0
  ne : ∃ c, c < n ∧ S c
  out : ∀ i, T i → p i = 0 → S (b i) → S (a i)
  conn : ∀ u v, S u → S v → Rc a b (fun i => T i ∧ p i = 0 ∧ S (a i) ∧ S (b i)) u v
/-- The branching enters the set once, and does not cost more where it counts. -/
theorem shrink {p : Nat → Int} {S : Nat → Prop} (hT : ∀ i, T i → a i < n) (hA : Alone n a b T p S) {g : Nat → Nat} (hg : IsB n a b T g) :
    ∃ f v, IsB n a b T f ∧ (∀ c, 0 < c → c < n → ¬ S c → f c = g c) ∧ S v ∧ 0 < v ∧ v < n ∧ (∀ c, 0 < c → c < n → S c → (c = v ∧ f c = g c) ∨ (T (f c) ∧ p (f c) = 0 ∧ S (a (f c)))) := by
  let T0 : Nat → Prop := fun i => ∃ c, 0 < c ∧ c < n ∧ ¬ S c ∧ i = g c
  have hfirst : ∀ c, Rc a b (fun i => ∃ c, 0 < c ∧ c < n ∧ i = g c) 0 c → Rc a b T0 0 c ∨ ∃ v, S v ∧ 0 < v ∧ v < n ∧ Rc a b T0 0 (a (g v)) := by
    intro c r
    induction r with
    | refl => exact .inl .refl
    | @step i t _ ih =>
      rcases ih with ih | ih
      · obtain ⟨e, e0, e1, rfl⟩ := t
        have hb := (hg.on e e0 e1).2
        by_cases hS : S e
        · exact .inr ⟨e, hS, e0, e1, ih⟩
        · exact .inl (.step ⟨e, e0, e1, hS, rfl⟩ ih)
      · exact .inr ih
  have hT0 : ∀ c, Rc a b T0 0 c → ¬ S c := by
    intro c r
    refine r.closed (S := fun c => ¬ S c) hA.h0 ?_
    rintro i ⟨e, e0, e1, hS, rfl⟩ _
    rw [(hg.on e e0 e1).2]
    exact hS
  obtain ⟨x, hx, hSx⟩ := hA.ne
  obtain ⟨v, hv, v0, v1, hrv⟩ : ∃ v, S v ∧ 0 < v ∧ v < n ∧ Rc a b T0 0 (a (g v)) := by
    rcases hfirst x (hg.all x hx) with h | h
    · exact absurd hSx (hT0 x h)
    · exact h
  let T1 : Nat → Prop := fun i => T0 i ∨ i = g v ∨ (T i ∧ p i = 0 ∧ S (a i) ∧ S (b i))
  have hT1 : ∀ i, T1 i → T i := by
    rintro i (⟨e, e0, e1, _, rfl⟩ | rfl | h)
    · exact (hg.on e e0 e1).1
    · exact (hg.on v v0 v1).1
    · exact h.1
  have hbv := (hg.on v v0 v1).2
  have hrS : ∀ u, S u → Rc a b T1 0 u := by
    intro u hu
    have h1 : Rc a b T1 0 v := by
      have := Rc.step (T := T1) (i := g v) (.inr (.inl rfl)) (hrv.mono fun i h => .inl h)
      rwa [hbv] at this
    exact h1.trans ((hA.conn v u hv hu).mono fun i h => .inr (.inr h))
  have hrA : ∀ c, c < n → Rc a b T1 0 c := by
    intro c hc
    have : ∀ c, Rc a b (fun i => ∃ c, 0 < c ∧ c < n ∧ i = g c) 0 c → Rc a b T1 0 c := by
      intro c r
      induction r with
      | refl => exact .refl
      | @step i t _ ih =>
        obtain ⟨e, e0, e1, rfl⟩ := t
        by_cases hS : S e
        · rw [(hg.on e e0 e1).2]; exact hrS e hS
        · exact .step (.inl ⟨e, e0, e1, hS, rfl⟩) ih
    exact this c (hg.all c hc)
  obtain ⟨f, hf⟩ := exists_branching (fun i h => hT i (hT1 i h)) hrA
  refine ⟨f, v, hf.mono hT1, ?_, hv, v0, v1, ?_⟩
  · intro c c0 c1 hS
    obtain ⟨t, tb⟩ := hf.on c c0 c1
    rcases t with ⟨e, e0, e1, _, q⟩ | q | h
    · have := (hg.on e e0 e1).2
      rw [← q, tb] at this
      rw [q, this]
    · rw [q, hbv] at tb
      exact absurd (tb ▸ hv) hS
    · rw [tb] at h
      exact absurd h.2.2.2 hS
  · intro c c0 c1 hS
    obtain ⟨t, tb⟩ := hf.on c c0 c1
    rcases t with ⟨e, e0, e1, hSe, q⟩ | q | h
    · have := (hg.on e e0 e1).2
      rw [← q, tb] at this
      exact absurd (this ▸ hS) hSe
    · rw [q, hbv] at tb
      exact .inl ⟨tb.symm, by rw [q, tb]⟩
    · exact .inr ⟨h.1, h.2.1, h.2.2.1⟩
/-- One price. -/
theorem Opt.priced {p q : Nat → Int} {S : Nat → Prop} {mm v : Int} (hT : ∀ i, T i → a i < n) (hA : Alone n a b T p S) (hm : 0 ≤ mm)
    (hp : ∀ i, T i → 0 ≤ p i) (hmin : ∀ i, T i → S (b i) → ¬ S (a i) → mm ≤ p i) (hq1 : ∀ i, T i → S (b i) → ¬ S (a i) → q i = p i - mm) (hq2 : ∀ i, T i → ¬ (S (b i) ∧ ¬ S (a i)) → q i = p i)
    (h : Opt n a b T q v) : Opt n a b T p (v + mm) := by
  have hq0 : ∀ i, T i → 0 ≤ q i := by
    intro i t
    by_cases e : S (b i) ∧ ¬ S (a i)
    · have := hmin i t e.1 e.2; rw [hq1 i t e.1 e.2]; omega
    · rw [hq2 i t e]; exact hp i t
  have hlow : ∀ f, IsB n a b T f → v + mm ≤ costF n p f := by
    intro f hf
    obtain ⟨c, c0, c1, cS, cA⟩ := hf.enters S hA.h0 hA.ne
    have h1 := h.2 f hf
    have h2 : costF n p f = costF n q f + sumZ (fun c => if c = 0 then 0 else p (f c) - q (f c)) n := by
      unfold costF
      rw [← sumZ_add]
      refine sumZ_congr n fun i _ => ?_
      split <;> omega
    have h3 := sumZ_ge_one (g := fun c => if c = 0 then 0 else p (f c) - q (f c)) (v := c) n c1 (by
      intro i hi
      split
      · exact Int.le_refl _
      · obtain ⟨t, tb⟩ := hf.on i (by omega) hi
        by_cases e : S (b (f i)) ∧ ¬ S (a (f i))
        · rw [hq1 _ t e.1 e.2]; omega
        · rw [hq2 _ t e]; omega)
    obtain ⟨t, tb⟩ := hf.on c c0 c1
    rw [if_neg (by omega), hq1 _ t (tb.symm ▸ cS) cA] at h3
    omega
  refine ⟨?_, hlow⟩
  obtain ⟨⟨g, hg, hgv⟩, _⟩ := h
  obtain ⟨f, u, hf, hfg, hSu, u0, u1, hfS⟩ := shrink hT hA hg
  refine ⟨f, hf, ?_⟩
  have h1 := hlow f hf
  have h2 : costF n p f = costF n q f + sumZ (fun c => if c = 0 then 0 else p (f c) - q (f c)) n := by
    unfold costF
    rw [← sumZ_add]
    refine sumZ_congr n fun i _ => ?_
    split <;> omega
  have h3 : sumZ (fun c => if c = 0 then 0 else p (f c) - q (f c)) n ≤ mm := by
    refine sumZ_one (v := u) hm ?_ n ?_
    · rw [if_neg (by omega)]
      obtain ⟨t, tb⟩ := hf.on u u0 u1
      by_cases e : S (b (f u)) ∧ ¬ S (a (f u))
      · rw [hq1 _ t e.1 e.2]; omega
      · rw [hq2 _ t e]; omega
    · intro i hi hiu
      split
      · exact Int.le_refl _
      · obtain ⟨t, tb⟩ := hf.on i (by omega) hi
        by_cases hS : S i
        · rcases hfS i (by omega) hi hS with ⟨e, _⟩ | ⟨_, _, e⟩
          · exact absurd e hiu
          · rw [hq2 _ t (fun x => x.2 e)]; omega
        · rw [hq2 _ t (fun x => hS (tb ▸ x.1))]; omega
  have h4 : costF n q f ≤ costF n q g := by
    refine costF_le fun c c0 c1 => ?_
    by_cases hS : S c
    · rcases hfS c c0 c1 hS with ⟨_, e⟩ | ⟨t, e1, e2⟩
      · rw [e]; exact Int.le_refl _
      · rw [hq2 _ t (fun x => x.2 e2), e1]; exact hq0 _ (hg.on c c0 c1).1
    · rw [hfg c c0 c1 hS]; exact Int.le_refl _
  omega
/-- All corners are reached for nothing. -/
theorem Opt.nothing {p : Nat → Int} (hT : ∀ i, T i → a i < n) (hp : ∀ i, T i → 0 ≤ p i) (h : ∀ c, c < n → Rc a b (fun i => T i ∧ p i = 0) 0 c) : Opt n a b T p 0 := by
  obtain ⟨f, hf⟩ := exists_branching (T := fun i => T i ∧ p i = 0) (fun i t => hT i t.1) h
  refine ⟨⟨f, hf.mono fun _ t => t.1, ?_⟩, fun g hg => costF_nonneg fun c c0 c1 => hp _ (hg.on c c0 c1).1⟩
  have : costF n p f = costF n (fun _ => 0) f := costF_congr fun c c0 c1 => (hf.on c c0 c1).1.2
  rw [this]
  unfold costF
  exact (sumZ_congr n fun c _ => by split <;> rfl).trans (sumZ_zero n)
/-- A set that no street enters. -/
theorem no_branching {S : Nat → Prop} (h0 : ¬ S 0) (ne : ∃ c, c < n ∧ S c) (h : ∀ i, T i → S (b i) → S (a i)) (f : Nat → Nat) : ¬ IsB n a b T f := by
  intro hf
  obtain ⟨c, c0, c1, cS, cA⟩ := hf.enters S h0 ne
  obtain ⟨t, tb⟩ := hf.on c c0 c1
  exact cA (h _ t (tb.symm ▸ cS))
/-- R d c: c is reached from d by streets for nothing. If some corner is not reached from 0, then some corner that is not reached from 0 is reached back from all that reach it. -/
theorem exists_back {R : Nat → Nat → Prop} (htr : ∀ x y z, R x y → R y z → R x z) (cnt : Nat → Nat)
    (hcnt : ∀ x y, R x y → ¬ R y x → cnt x < cnt y) {c : Nat} (hc : c < n) (h0 : ¬ R 0 c) (hn : ∀ x y, R x y → y < n → x < n) : ∃ c, c < n ∧ ¬ R 0 c ∧ ∀ d, R d c → R c d := by
  obtain ⟨k, ⟨c, h1, h2, h3⟩, hmin⟩ := least_nat (P := fun k => ∃ c, c < n ∧ ¬ R 0 c ∧ cnt c = k) ⟨_, c, hc, h0, rfl⟩
  refine ⟨c, h1, h2, fun d hd => Classical.byContradiction fun hnd => ?_⟩
  have := hcnt d c hd hnd
  exact hmin (cnt d) (by omega) ⟨d, hn d c hd h1, fun h => h2 (htr _ _ _ h hd), rfl⟩
end
end Go.Proofs.Ytpmadffgdfholaa.B
namespace Go.Proofs.Ytpmadffgdfholaa.B
open Go.RowKit Go.Proofs.YtpmadffgdfholaaW.PrintWords Go.Proofs.YtpmadffgdfholaaW.PrintLast Go.Proofs.YtpmadffgdfholaaW.PrintMore
/-- Where street i begins, and where it ends. -/
def aW (l : List S30) (i : Nat) : Nat := (rd_T30 l (i : Int)).f0.toNat
def bW (l : List S30) (i : Nat) : Nat := (rd_T30 l (i : Int)).f1.toNat
theorem tb_one (b c : Nat) : (1 <<< b).testBit c = decide (c = b) := by
  rw [Nat.shiftLeft_eq, Nat.one_mul, Nat.testBit_two_pow]
  exact decide_eq_decide.mpr eq_comm
theorem tb_or (s b c : Nat) : (s ||| 1 <<< b).testBit c = (s.testBit c || decide (c = b)) := by
  rw [Nat.testBit_or, tb_one]
theorem step_sub (s : Nat) (x : S30) (c : Nat) (h : s.testBit c = true) : (stepS s x).testBit c = true := by
  unfold stepS
  split
  · rw [tb_or, h]; rfl
  · exact h
theorem pass_sub (l : List S30) : ∀ (L : List Int) (s c : Nat), s.testBit c = true → (passS l L s).testBit c = true
  | [], _, _, h => h
  | i :: L, s, c, h => pass_sub l L (stepS s (rd_T30 l i)) c (step_sub s _ c h)
theorem it_sub (l : List S30) (L : List Int) : ∀ (d s c : Nat), s.testBit c = true → (itS l L d s).testBit c = true
  | 0, _, _, h => h
  | d + 1, s, c, h => it_sub l L d _ c (pass_sub l L s c h)
theorem it_iter (l : List S30) (L : List Int) : ∀ d s, itS l L (d + 1) s = passS l L (itS l L d s)
  | 0, _ => rfl
  | d + 1, s => by show itS l L (d + 1) (passS l L s) = passS l L (itS l L d (passS l L s)); exact it_iter l L d _
theorem pass_closed (l : List S30) : ∀ (L : List Int) (s : Nat), passS l L s = s → ∀ i ∈ L, s.testBit (rd_T30 l i).f0.toNat = true → s.testBit (rd_T30 l i).f1.toNat = true
  | [], _, _, i, hi, _ => absurd hi (by simp)
  | j :: L, s, h, i, hi, ha => by
    have h1 : passS l L (stepS s (rd_T30 l j)) = s := h
    have e : stepS s (rd_T30 l j) = s := by
      refine Nat.eq_of_testBit_eq fun c => ?_
      cases hc : s.testBit c with
      | true => exact step_sub s _ c hc
      | false =>
        cases hd : (stepS s (rd_T30 l j)).testBit c with
        | false => rfl
        | true =>
          have := pass_sub l L _ c hd
          rw [h1, hc] at this
          exact absurd this (by decide)
    rw [e] at h1
    rcases List.mem_cons.1 hi with rfl | hi
    · rw [← e]
      unfold stepS
      rw [if_pos ha, tb_or]
      simp
    · exact pass_closed l L s h1 i hi ha
section
variable {n : Nat} {l : List S30} {L : List Int}
theorem pass_sound (hL : InL n l L) : ∀ (L' : List Int), (∀ i ∈ L', i ∈ L) → ∀ (s c : Nat), (passS l L' s).testBit c = true → ∃ e, s.testBit e = true ∧ Rc (aW l) (bW l) (fun i => (i : Int) ∈ L) e c
  | [], _, _, c, h => ⟨c, h, .refl⟩
  | i :: L', hs, s, c, h => by
    obtain ⟨e, he, hr⟩ := pass_sound hL L' (fun j hj => hs j (List.mem_cons_of_mem _ hj)) (stepS s (rd_T30 l i)) c h
    unfold stepS at he
    split at he
    · rename_i ha
      rw [tb_or] at he
      rcases Bool.or_eq_true_iff.1 he with he | he
      · exact ⟨e, he, hr⟩
      · have h2 := hL i (hs i List.mem_cons_self)
        have hi : ((i.toNat : Nat) : Int) = i := by omega
        have e1 : e = bW l i.toNat := by unfold bW; rw [hi]; exact of_decide_eq_true he
        have ea : (rd_T30 l i).f0.toNat = aW l i.toNat := by unfold aW; rw [hi]
        rw [ea] at ha
        refine ⟨aW l i.toNat, ha, Rc.trans (Rc.one (i := i.toNat) (by rw [hi]; exact hs i List.mem_cons_self)) (e1 ▸ hr)⟩
    · exact ⟨e, he, hr⟩
theorem it_sound (hL : InL n l L) : ∀ (d s c : Nat), (itS l L d s).testBit c = true → ∃ e, s.testBit e = true ∧ Rc (aW l) (bW l) (fun i => (i : Int) ∈ L) e c
  | 0, _, c, h => ⟨c, h, .refl⟩
  | d + 1, s, c, h => by
    obtain ⟨e, he, hr⟩ := it_sound hL d _ c h
    obtain ⟨e2, he2, hr2⟩ := pass_sound hL L (fun _ h => h) s e he
    exact ⟨e2, he2, hr2.trans hr⟩
/-- The closure of a set is what is reached from it. -/
theorem closure_iff (hn : n ≤ 7) (hL : InL n l L) {d c : Nat} (hd : d < n) : (itS l L n (1 <<< d)).testBit c = true ↔ Rc (aW l) (bW l) (fun i => (i : Int) ∈ L) d c := by
  have hlt : 1 <<< d < 2 ^ n := by rw [Nat.shiftLeft_eq, Nat.one_mul]; exact Nat.pow_lt_pow_right (by decide) hd
  constructor
  · intro h
    obtain ⟨e, he, hr⟩ := it_sound hL n _ c h
    rw [tb_one] at he
    rw [of_decide_eq_true he] at hr
    exact hr
  · intro hr
    have hfix : passS l L (itS l L n (1 <<< d)) = itS l L n (1 <<< d) := by
      rw [← it_iter]
      exact it_stop hn hL n _ hlt (by omega)
    refine hr.closed (S := fun c => (itS l L n (1 <<< d)).testBit c = true) (it_sub l L n _ d (by rw [tb_one]; simp)) fun i hi ha => ?_
    exact pass_closed l L _ hfix _ hi ha
theorem Rc.lt (hL : InL n l L) {d c : Nat} (hd : d < n) (hr : Rc (aW l) (bW l) (fun i => (i : Int) ∈ L) d c) : c < n := by
  refine hr.closed (S := fun c => c < n) hd fun i hi _ => ?_
  have h := (wayOk_iff n _).1 (hL _ hi).2.2
  unfold bW
  omega
/-- The streets that a test lets through. -/
def someW (l : List S30) (og : Int → Bool) : List Int := (idx l).filter og
theorem idx_rd (l : List S30) (q : Nat) (h : q < l.length) : rd (idx l) (q : Int) = (q : Int) := by
  simp [rd, idx, List.getD, h]
theorem idx_mem (l : List S30) (i : Nat) : (i : Int) ∈ idx l ↔ i < l.length := by
  unfold idx
  simp only [List.mem_map, List.mem_range]
  exact ⟨fun ⟨j, h, e⟩ => by omega, fun h => ⟨i, h, rfl⟩⟩
theorem someW_mem (l : List S30) (og : Int → Bool) (i : Nat) : (i : Int) ∈ someW l og ↔ i < l.length ∧ og (i : Int) = true := by
  unfold someW
  rw [List.mem_filter, idx_mem]
theorem someW_in {l : List S30} (hx : ∀ x ∈ l, wayOk n x = true) (og : Int → Bool) : InL n l (someW l og) :=
  fun i hi => idx_in hx i (List.mem_filter.1 hi).1
theorem al2_l1 (hn : n ≤ 7) (hx : ∀ x ∈ l, wayOk n x = true) (hl : l.length < 1000) (o : Int → Option Bool) (og : Int → Bool) (ho : ∀ i : Nat, i < l.length → o (i : Int) = some (og (i : Int))) (N j : Int) : ∀ (d q k s : Nat), q + d = l.length → s < 2 ^ n →
    branch_town_alone_2.l1 (k + d + 1) (s : Int) N j l (l.length : Int) (q : Int) (n : Int) l o = branch_town_alone_2.l0 k ((passS l (((idx l).drop q).filter og) s : Nat) : Int) N (wrap64 (j + 1)) (n : Int) l o
  | 0, q, k, s, h, _ => by
    simp only [branch_town_alone_2.l1]
    rw [if_neg (by omega), List.drop_eq_nil_of_le (by rw [idx_length]; omega)]
    rfl
  | d + 1, q, k, s, h, hs => by
    have hq : q < l.length := by omega
    have hw := wrap_nat q (by omega)
    have hok := hx _ (rd_T30_mem l q hq)
    have sf := step_facts hn hs hok
    have ih := fun s hs => al2_l1 hn hx hl o og ho N j d (q + 1) k s (by omega) hs
    have h128 : s < 128 := Nat.lt_of_lt_of_le hs (show 2 ^ n ≤ 2 ^ 7 from Nat.pow_le_pow_right (by decide) hn)
    rw [drop_rdI4 (idx l) q (by rw [idx_length]; exact hq), idx_rd l q hq, List.filter_cons]
    rw [show k + (d + 1) + 1 = (k + d + 1) + 1 from by omega]
    generalize hqq : k + d + 1 = qq at ih
    simp only [branch_town_alone_2.l1, hw]
    rw [if_pos (by omega), if_pos (by omega), if_pos (by omega), ho q hq, Option.bind_some]
    cases og (q : Int) with
    | false =>
      rw [if_neg (by decide), if_neg (by decide)]
      exact ih s hs
    | true =>
      rw [if_pos rfl, if_pos rfl]
      show _ = branch_town_alone_2.l0 k ((passS l (((idx l).drop (q + 1)).filter og) (stepS s (rd_T30 l (q : Int))) : Nat) : Int) N (wrap64 (j + 1)) (n : Int) l o
      rw [← ih _ sf.1]
      generalize rd_T30 l (q : Int) = x at hok
      obtain ⟨h1, h2, h3, h4, _⟩ := (wayOk_iff n x).1 hok
      have f1 := fin_and ⟨s, h128⟩ ⟨x.f0.toNat, by omega⟩
      have f2 := fin_or ⟨s, h128⟩ ⟨x.f1.toNat, by omega⟩
      simp only [← int_nat h1, ← int_nat h3] at f1 f2
      rw [if_pos h1]
      unfold stepS
      by_cases t : s.testBit x.f0.toNat = true
      · rw [if_pos (f1.2 t), if_pos h3, if_pos t, f2]
      · rw [if_neg (fun hh => t (f1.1 hh)), if_neg t]
theorem al2_l0 (hn : n ≤ 7) (hx : ∀ x ∈ l, wayOk n x = true) (hl : l.length < 1000) (o : Int → Option Bool) (og : Int → Bool) (ho : ∀ i : Nat, i < l.length → o (i : Int) = some (og (i : Int))) : ∀ (d j k s : Nat), j + d = n → s < 2 ^ n →
    branch_town_alone_2.l0 (k + (l.length + 2) * d + 1) (s : Int) (n : Int) (j : Int) (n : Int) l o = some ((itS l (someW l og) d s : Nat) : Int)
  | 0, j, k, s, h, _ => by
    simp only [branch_town_alone_2.l0, Nat.mul_zero, Nat.add_zero]
    rw [if_neg (by omega)]
    rfl
  | d + 1, j, k, s, h, hs => by
    have hw := wrap_nat j (by omega)
    have ih := al2_l0 hn hx hl o og ho d (j + 1) k (passS l (someW l og) s) (by omega) (pass_facts hn _ (someW_in hx og) s hs).1
    have h1 := al2_l1 hn hx hl o og ho (n : Int) (j : Int) l.length 0 (k + (l.length + 2) * d + 1) s (by omega) hs
    rw [show k + (l.length + 2) * (d + 1) + 1 = (k + (l.length + 2) * d + 1 + l.length + 1) + 1 from by rw [Nat.mul_succ]; omega]
    generalize hq : k + (l.length + 2) * d + 1 + l.length + 1 = qq at h1
    simp only [branch_town_alone_2.l0]
    rw [if_pos (by omega)]
    rw [List.drop_zero, hw] at h1
    exact h1.trans ih
theorem fin_shl1 : ∀ a : Fin 7, shl .i64 1 ((a.val : Nat) : Int) = ((1 <<< a.val : Nat) : Int) := by decide +kernel
theorem al2_f (hn : n ≤ 7) (hx : ∀ x ∈ l, wayOk n x = true) (hl : l.length ≤ 30) (o : Int → Option Bool) (og : Int → Bool) (ho : ∀ i : Nat, i < l.length → o (i : Int) = some (og (i : Int))) (d : Nat) (hd : d < n) (k : Nat) (hk : 300 ≤ k) :
    branch_town_alone_2.f k (d : Int) (n : Int) l o = some ((itS l (someW l og) n (1 <<< d) : Nat) : Int) := by
  have hlt : 1 <<< d < 2 ^ n := by rw [Nat.shiftLeft_eq, Nat.one_mul]; exact Nat.pow_lt_pow_right (by decide) hd
  have hb : (l.length + 2) * n ≤ 32 * 7 := Nat.mul_le_mul (by omega) hn
  have h := al2_l0 hn hx (by omega) o og ho n 0 (k - (l.length + 2) * n - 1) (1 <<< d) (by omega) hlt
  rw [show k - (l.length + 2) * n - 1 + (l.length + 2) * n + 1 = k from by omega] at h
  unfold branch_town_alone_2.f
  have e := fin_shl1 ⟨d, by omega⟩
  simp only [] at e
  rw [if_pos (by omega), e]
  exact h
end
end Go.Proofs.Ytpmadffgdfholaa.B
namespace Go.Proofs.Ytpmadffgdfholaa.B
open Go.RowKit Go.Proofs.YtpmadffgdfholaaW.PrintWords Go.Proofs.YtpmadffgdfholaaW.PrintLast Go.Proofs.YtpmadffgdfholaaW.PrintMore
def cntN (P : Nat → Bool) : Nat → Nat
  | 0 => 0
  | k + 1 => cntN P k + if P k then 1 else 0
theorem cntN_le {P Q : Nat → Bool} : ∀ k, (∀ i, i < k → P i = true → Q i = true) → cntN P k ≤ cntN Q k
  | 0, _ => Nat.le_refl _
  | k + 1, h => by
    have ih := cntN_le k (fun i hi => h i (by omega))
    have hk := h k (by omega)
    simp only [cntN]
    cases hP : P k with
    | false => simp; split <;> omega
    | true => simp [hk hP]; exact ih
theorem cntN_lt {P Q : Nat → Bool} : ∀ k, (∀ i, i < k → P i = true → Q i = true) → ∀ j, j < k → Q j = true → P j = false → cntN P k < cntN Q k
  | k + 1, h, j, hj, hQ, hP => by
    simp only [cntN]
    by_cases e : j = k
    · subst e
      have := cntN_le (P := P) (Q := Q) j (fun i hi => h i (by omega))
      simp [hQ, hP]; omega
    · have ih := cntN_lt k (fun i hi => h i (by omega)) j (by omega) hQ hP
      have hk := h k (by omega)
      cases hPk : P k with
      | false => simp; split <;> omega
      | true => simp [hk hPk]; exact ih
theorem cntN_bound (P : Nat → Bool) : ∀ k, cntN P k ≤ k
  | 0 => Nat.le_refl _
  | k + 1 => by have := cntN_bound P k; simp only [cntN]; split <;> omega
theorem hasB_nat {s c : Nat} (hs : s < 128) (hc : c < 7) : hasB (s : Int) (c : Int) = s.testBit c := by
  have h := fin_and ⟨s, hs⟩ ⟨c, hc⟩
  simp only [] at h
  unfold hasB
  cases ht : s.testBit c with
  | true => exact beq_iff_eq.mpr (h.2 ht)
  | false => exact beq_eq_false_iff_ne.mpr fun e => by rw [h.1 e] at ht; exact absurd ht (by decide)
theorem noB_nat {s c : Nat} (hs : s < 128) (hc : c < 7) : (Go.bits .and .i64 (shr .i64 (s : Int) (c : Int)) 1 == 0) = !s.testBit c := by
  have h := fin_and0 ⟨s, hs⟩ ⟨c, hc⟩
  simp only [] at h
  cases ht : s.testBit c with
  | false => exact beq_iff_eq.mpr (h.2 ht)
  | true => exact beq_eq_false_iff_ne.mpr fun e => by rw [h.1 e] at ht; exact absurd ht (by decide)
theorem gather_nat {R : Int → Int} {r : Nat → Nat} {n : Nat} (hn : n ≤ 7) (hR : ∀ d : Nat, d < n → R (d : Int) = (r d : Int) ∧ r d < 128) {c : Nat} (hc : c < n) : ∀ j, j ≤ n → ∃ q : Nat, gatherB R (c : Int) j = (q : Int) ∧ q < 128 ∧ ∀ d, q.testBit d = (decide (d < j) && (r d).testBit c)
  | 0, _ => ⟨0, rfl, by decide, fun d => by simp⟩
  | j + 1, hj => by
    obtain ⟨q, h1, h2, h3⟩ := gather_nat hn hR hc j (by omega)
    obtain ⟨e1, e2⟩ := hR j (by omega)
    simp only [gatherB]
    rw [e1, hasB_nat e2 (by omega), h1]
    cases ht : (r j).testBit c with
    | true =>
      have f := fin_or ⟨q, h2⟩ ⟨j, by omega⟩
      have f2 := fin_lt ⟨7, by decide⟩ ⟨q, h2⟩ ⟨j, by omega⟩ h2 (by simp only []; omega)
      simp only [] at f f2
      refine ⟨q ||| 1 <<< j, by rw [if_pos rfl, f], f2, fun d => ?_⟩
      rw [tb_or, h3]
      by_cases hd : d = j
      · subst hd; simp [ht]
      · by_cases hl : d < j
        · simp [hd, hl, show d < j + 1 by omega]
        · simp [hd, hl, show ¬ d < j + 1 by omega]
    | false =>
      refine ⟨q, by rw [if_neg (by decide)], h2, fun d => ?_⟩
      rw [h3]
      by_cases hd : d = j
      · subst hd; simp [ht]
      · by_cases hl : d < j
        · simp [hl, show d < j + 1 by omega]
        · simp [hl, show ¬ d < j + 1 by omega]
theorem closed_nat {R : Int → Int} {r : Nat → Nat} {n : Nat} (hn : n ≤ 7) (hR : ∀ d : Nat, d < n → R (d : Int) = (r d : Int) ∧ r d < 128) {c q : Nat} (hc : c < n) (hq : q < 128) : ∀ j, j ≤ n → (closedB R (c : Int) (q : Int) j = true ↔ ∀ d, d < j → q.testBit d = true → (r c).testBit d = true)
  | 0, _ => ⟨fun _ d hd => absurd hd (by omega), fun _ => rfl⟩
  | j + 1, hj => by
    have ih := closed_nat hn hR hc hq j (by omega)
    obtain ⟨e1, e2⟩ := hR c hc
    simp only [closedB]
    rw [e1, hasB_nat hq (by omega), noB_nat e2 (by omega), Bool.and_eq_true, ih]
    constructor
    · rintro ⟨h1, h2⟩ d hd hqd
      by_cases e : d = j
      · subst e
        rw [hqd] at h2
        simpa using h2
      · exact h1 d (by omega) hqd
    · intro h
      refine ⟨fun d hd => h d (by omega), ?_⟩
      cases hb : q.testBit j with
      | false => rfl
      | true => rw [h j (by omega) hb]; rfl
theorem alone_cases {R : Int → Int} {r : Nat → Nat} {n : Nat} (hn : n ≤ 7) (hR : ∀ d : Nat, d < n → R (d : Int) = (r d : Int) ∧ r d < 128 ∧ (r d).testBit d = true) : ∀ j, j ≤ n →
    (aloneB R n j = 0 ∧ ∀ c, n - j ≤ c → c < n → ¬ ((r 0).testBit c = false ∧ ∀ d, d < n → (r d).testBit c = true → (r c).testBit d = true)) ∨
    ∃ c q : Nat, c < n ∧ aloneB R n j = (q : Int) ∧ q < 128 ∧ q ≠ 0 ∧ (r 0).testBit c = false ∧ (∀ d, d < n → (r d).testBit c = true → (r c).testBit d = true) ∧ ∀ d, q.testBit d = (decide (d < n) && (r d).testBit c)
  | 0, _ => .inl ⟨rfl, fun c h1 h2 => by omega⟩
  | j + 1, hj => by
    have hR2 : ∀ d : Nat, d < n → R (d : Int) = (r d : Int) ∧ r d < 128 := fun d hd => ⟨(hR d hd).1, (hR d hd).2.1⟩
    have hc : n - (j + 1) < n := by omega
    obtain ⟨q, g1, g2, g3⟩ := gather_nat hn hR2 hc n (Nat.le_refl _)
    obtain ⟨z1, z2⟩ := hR2 0 (by omega)
    have hcl := closed_nat hn hR2 hc g2 n (Nat.le_refl _)
    simp only [aloneB]
    have hal : isAloneB R n ((n - (j + 1) : Nat) : Int) = true ↔ (r 0).testBit (n - (j + 1)) = false ∧ ∀ d, d < n → (r d).testBit (n - (j + 1)) = true → (r (n - (j + 1))).testBit d = true := by
      unfold isAloneB
      rw [show (R 0) = (r 0 : Int) from z1, hasB_nat z2 (by omega), g1, Bool.and_eq_true, hcl, Bool.not_eq_true']
      refine and_congr Iff.rfl ⟨fun h d hd hr => h d hd (by rw [g3]; simp [hd, hr]), fun h d hd hq => h d hd (by rw [g3] at hq; exact (Bool.and_eq_true _ _ |>.mp hq).2)⟩
    by_cases ha : isAloneB R n ((n - (j + 1) : Nat) : Int) = true
    · rw [if_pos ha]
      obtain ⟨a1, a2⟩ := hal.1 ha
      refine .inr ⟨n - (j + 1), q, hc, g1, g2, ?_, a1, a2, g3⟩
      rintro rfl
      have := g3 (n - (j + 1))
      rw [(hR _ hc).2.2] at this
      simp [hc] at this
    · rw [if_neg ha]
      rcases alone_cases hn hR j (by omega) with ⟨h1, h2⟩ | h
      · refine .inl ⟨h1, fun c c1 c2 hh => ?_⟩
        by_cases e : c = n - (j + 1)
        · subst e; exact ha (hal.2 hh)
        · exact h2 c (by omega) c2 hh
      · exact .inr h
/-- The streets that are not out. -/
def onT (l : List S30) (og : Int → Bool) (i : Nat) : Prop := i < l.length ∧ og (i : Int) = false
theorem onT_lt {n : Nat} {l : List S30} (hx : ∀ x ∈ l, wayOk n x = true) {og : Int → Bool} (i : Nat) (h : onT l og i) : aW l i < n := by
  have := (wayOk_iff n _).1 (hx _ (rd_T30_mem l i h.1))
  unfold aW; omega
theorem onT_ltb {n : Nat} {l : List S30} (hx : ∀ x ∈ l, wayOk n x = true) {og : Int → Bool} (i : Nat) (h : onT l og i) : bW l i < n := by
  have := (wayOk_iff n _).1 (hx _ (rd_T30_mem l i h.1))
  unfold bW; omega
section
variable {n : Nat} {l : List S30}
/-- alone's answer. -/
theorem alone_spec (hn1 : 1 ≤ n) (hn : n ≤ 7) (hl : l.length ≤ 30) (hx : ∀ x ∈ l, wayOk n x = true) (left : List Int) (hleft : left.length = l.length) (o : Int → Option Bool) (og : Int → Bool) (ho : ∀ i : Nat, i < l.length → o (i : Int) = some (og (i : Int))) :
    ∃ q : Nat, q < 2 ^ n ∧ (∀ k, 300 ≤ k → branch_town_alone.f k (n : Int) l left o = some (q : Int)) ∧
      (q = 0 → ∀ c, c < n → Rc (aW l) (bW l) (fun i => onT l og i ∧ rd left (i : Int) = 0) 0 c) ∧
      (q ≠ 0 → Alone n (aW l) (bW l) (onT l og) (fun i => rd left (i : Int)) (fun c => q.testBit c = true)) := by
  have ho1 : ∀ i : Nat, i < l.length → branch_town_alone_1.f (i : Int) left o = some (decide (rd left (i : Int) = 0) && !og (i : Int)) := by
    intro i hi
    unfold branch_town_alone_1.f
    rw [if_pos (by omega), if_pos (by omega), ho i hi]
    by_cases h : rd left (i : Int) = 0
    · rw [if_pos h, Option.bind_some, decide_eq_true h, Bool.true_and]
    · rw [if_neg h, decide_eq_false h, Bool.false_and]
  let fg : Int → Bool := fun i => decide (rd left i = 0) && !og i
  have hFL := someW_in (n := n) hx fg
  let r : Nat → Nat := fun d => itS l (someW l fg) n (1 <<< d)
  have hlt : ∀ d, d < n → 1 <<< d < 2 ^ n := fun d hd => by rw [Nat.shiftLeft_eq, Nat.one_mul]; exact Nat.pow_lt_pow_right (by decide) hd
  have hp : 2 ^ n ≤ 2 ^ 7 := Nat.pow_le_pow_right (by decide) hn
  have hrlt : ∀ d, d < n → r d < 2 ^ n := fun d hd => it_lt hn hFL n _ (hlt d hd)
  have hiff : ∀ d c, d < n → ((r d).testBit c = true ↔ Rc (aW l) (bW l) (fun i => onT l og i ∧ rd left (i : Int) = 0) d c) := by
    intro d c hd
    refine (closure_iff hn hFL hd).trans ⟨fun h => h.mono fun i hi => ?_, fun h => h.mono fun i hi => ?_⟩
    · obtain ⟨h1, h2⟩ := (someW_mem l fg i).1 hi
      simp only [fg, Bool.and_eq_true, decide_eq_true_eq, Bool.not_eq_true'] at h2
      exact ⟨⟨h1, h2.2⟩, h2.1⟩
    · refine (someW_mem l fg i).2 ⟨hi.1.1, ?_⟩
      simp only [fg, Bool.and_eq_true, decide_eq_true_eq, Bool.not_eq_true']
      exact ⟨hi.2, hi.1.2⟩
  have hRk : ∀ k, 300 ≤ k → ∀ d : Nat, d < n → branch_town_alone_2.f k (d : Int) (n : Int) l (fun i => branch_town_alone_1.f i left o) = some (r d : Int) := fun k hk d hd => al2_f hn hx hl _ fg ho1 d hd k hk
  have hval : ∀ k, 300 ≤ k → branch_town_alone.f k (n : Int) l left o = some (aloneB (fun d => (r d.toNat : Int)) n n) := by
    intro k hk
    unfold branch_town_alone.f
    rw [if_pos ⟨by omega, by omega, fun d hd => by rw [hRk k hk d (by have := List.mem_range.1 hd; omega)]; rfl⟩]
    refine congrArg some ?_
    rw [show ((n : Int)).toNat = n from rfl]
    refine aloneB_congr (fun d h0 h1 => ?_) n (Nat.le_refl _)
    have := hRk k hk d.toNat (by omega)
    rw [Int.toNat_of_nonneg h0] at this
    rw [this]; rfl
  have hRr : ∀ d : Nat, d < n → (fun d : Int => (r d.toNat : Int)) (d : Int) = (r d : Int) ∧ r d < 128 ∧ (r d).testBit d = true := by
    intro d hd
    exact ⟨rfl, Nat.lt_of_lt_of_le (hrlt d hd) hp, (hiff d d hd).2 .refl⟩
  have hTn : ∀ i, (onT l og i ∧ rd left (i : Int) = 0) → aW l i < n := fun i h => onT_lt hx i h.1
  have hTb : ∀ i, (onT l og i ∧ rd left (i : Int) = 0) → bW l i < n := fun i h => onT_ltb hx i h.1
  rcases alone_cases (R := fun d : Int => (r d.toNat : Int)) (r := r) hn hRr n (Nat.le_refl _) with ⟨h1, h2⟩ | ⟨c, q, hc, h1, h2, h3, h4, h5, h6⟩
  · refine ⟨0, Nat.pow_pos (by decide), fun k hk => (hval k hk).trans (congrArg some h1), fun _ c hc => ?_, fun h => absurd rfl h⟩
    refine Classical.byContradiction fun hno => ?_
    obtain ⟨e, e1, e2, e3⟩ := exists_back (n := n) (R := fun x y => Rc (aW l) (bW l) (fun i => onT l og i ∧ rd left (i : Int) = 0) x y) (fun _ _ _ => Rc.trans) (fun x => cntN (fun d => (r d).testBit x) n) (by
      intro x y hxy hyx
      by_cases hy : y < n
      · refine cntN_lt n (fun i hi h => (hiff i y hi).2 (((hiff i x hi).1 h).trans hxy)) y hy ((hiff y y hy).2 .refl) ?_
        cases hb : (r y).testBit x with
        | false => rfl
        | true => exact absurd ((hiff y x hy).1 hb) hyx
      · exfalso
        have : x = y ∨ y < n := by
          cases hxy with
          | refl => exact .inl rfl
          | step t _ => exact .inr (hTb _ t)
        rcases this with rfl | h
        · exact hyx .refl
        · exact hy h) hc hno (by
      intro x y hxy
      induction hxy with
      | refl => exact id
      | step t _ ih => exact fun _ => ih (hTn _ t))
    refine h2 e (by omega) e1 ⟨?_, fun d hd hdc => (hiff e d e1).2 (e3 d ((hiff d e hd).1 hdc))⟩
    cases hb : (r 0).testBit e with
    | false => rfl
    | true => exact absurd ((hiff 0 e (by omega)).1 hb) e2
  · refine ⟨q, ?_, fun k hk => (hval k hk).trans (congrArg some h1), fun h => absurd h h3, fun _ => ?_⟩
    · refine Nat.lt_pow_two_of_testBit q fun i hi => ?_
      rw [h6, decide_eq_false (by omega), Bool.false_and]
    · have hS : ∀ d, q.testBit d = true ↔ d < n ∧ Rc (aW l) (bW l) (fun i => onT l og i ∧ rd left (i : Int) = 0) d c := by
        intro d
        rw [h6, Bool.and_eq_true, decide_eq_true_eq]
        exact ⟨fun ⟨a, b⟩ => ⟨a, (hiff d c a).1 b⟩, fun ⟨a, b⟩ => ⟨a, (hiff d c a).2 b⟩⟩
      refine ⟨fun h => ?_, ⟨c, hc, (hS c).2 ⟨hc, .refl⟩⟩, fun i t t0 tb => ?_, fun u v hu hv => ?_⟩
      · have := (hiff 0 c (by omega)).2 ((hS 0).1 h).2
        rw [h4] at this
        exact absurd this (by decide)
      · have hb := ((hS _).1 tb).2
        exact (hS _).2 ⟨onT_lt hx i t, (Rc.one (a := aW l) (b := bW l) (T := fun i => onT l og i ∧ rd left (i : Int) = 0) ⟨t, t0⟩).trans hb⟩
      · have hcv : Rc (aW l) (bW l) (fun i => onT l og i ∧ rd left (i : Int) = 0) c v := by
          obtain ⟨v1, v2⟩ := (hS v).1 hv
          exact (hiff c v hc).1 (h5 v v1 ((hiff v c v1).2 v2))
        have huv := ((hS u).1 hu).2.trans hcv
        have hvc := ((hS v).1 hv).2
        clear hcv
        have key : ∀ y, Rc (aW l) (bW l) (fun i => onT l og i ∧ rd left (i : Int) = 0) u y → Rc (aW l) (bW l) (fun i => onT l og i ∧ rd left (i : Int) = 0) y c → Rc (aW l) (bW l) (fun i => onT l og i ∧ rd left (i : Int) = 0 ∧ q.testBit (aW l i) = true ∧ q.testBit (bW l i) = true) u y := by
          intro y hy
          induction hy with
          | refl => exact fun _ => .refl
          | @step i t _ ih =>
            intro hyc
            have hac := (Rc.one (a := aW l) (b := bW l) (T := fun i => onT l og i ∧ rd left (i : Int) = 0) t).trans hyc
            exact .step ⟨t.1, t.2, (hS _).2 ⟨hTn _ t, hac⟩, (hS _).2 ⟨hTb _ t, hyc⟩⟩ (ih hac)
        exact key v huv hvc
end
end Go.Proofs.Ytpmadffgdfholaa.B
namespace Go.Proofs.Ytpmadffgdfholaa.B
set_option linter.unusedVariables false
open Go.RowKit Go.Proofs.YtpmadffgdfholaaW.PrintWords Go.Proofs.YtpmadffgdfholaaW.PrintLast Go.Proofs.YtpmadffgdfholaaW.PrintMore
/-- Street i enters the set q. -/
def entB (l : List S30) (q : Nat) (i : Nat) : Bool := !q.testBit (aW l i) && q.testBit (bW l i)
def entL (l : List S30) (q : Nat) : List Int := ((List.range l.length).filter (entB l q)).map fun i : Nat => (i : Int)
theorem entL_mem (l : List S30) (q i : Nat) : (i : Int) ∈ entL l q ↔ i < l.length ∧ entB l q i = true := by
  unfold entL
  simp only [List.mem_map, List.mem_filter, List.mem_range]
  constructor
  · rintro ⟨j, h, e⟩
    obtain rfl : j = i := by omega
    exact h
  · exact fun h => ⟨i, h, rfl⟩
theorem entL_nat (l : List S30) (q : Nat) : ∀ x ∈ entL l q, ∃ i : Nat, x = (i : Int) ∧ i < l.length := by
  intro x hx
  unfold entL at hx
  obtain ⟨i, hi, rfl⟩ := List.mem_map.1 hx
  exact ⟨i, rfl, by have := (List.mem_filter.1 hi).1; simpa using this⟩
theorem nodup_map_cast : ∀ {L : List Nat}, L.Nodup → (L.map fun i : Nat => (i : Int)).Nodup
  | [], _ => List.nodup_nil
  | x :: L, h => by
    rw [List.nodup_cons] at h
    rw [List.map_cons, List.nodup_cons]
    refine ⟨fun hm => ?_, nodup_map_cast h.2⟩
    obtain ⟨y, hy, e⟩ := List.mem_map.1 hm
    have e2 : y = x := by omega
    exact h.1 (e2 ▸ hy)
theorem entL_nodup (l : List S30) (q : Nat) : (entL l q).Nodup := nodup_map_cast (List.Pairwise.filter _ List.nodup_range)
theorem entL_length (l : List S30) (q : Nat) : (entL l q).length ≤ l.length := by
  unfold entL
  rw [List.length_map]
  exact Nat.le_trans (List.length_filter_le _ _) (by simp)
theorem entR_eq (l : List S30) (q : Nat) : ∀ (d i : Nat) (acc : List Int), i + d = l.length → acc = ((List.range i).filter (entB l q)).map (fun i : Nat => (i : Int)) → entR l q d i acc = entL l q
  | 0, i, acc, h, e => by
    obtain rfl : i = l.length := by omega
    exact e
  | d + 1, i, acc, h, e => by
    rw [entR]
    refine entR_eq l q d (i + 1) _ (by omega) ?_
    rw [List.range_succ, List.filter_append, List.map_append, ← e]
    have hb : (entB l q i = true) ↔ (q.testBit (rd_T30 l (i : Int)).f0.toNat = false ∧ q.testBit (rd_T30 l (i : Int)).f1.toNat = true) := by
      unfold entB aW bW
      rw [Bool.and_eq_true, Bool.not_eq_true']
    by_cases hc : entB l q i = true
    · rw [if_pos (hb.1 hc), List.filter_cons_of_pos hc]
      rfl
    · rw [if_neg (fun h => hc (hb.2 h)), List.filter_cons_of_neg hc]
      simp
theorem entering_f {n : Nat} {l : List S30} (hn : n ≤ 7) (hl : l.length ≤ 30) (hx : ∀ x ∈ l, wayOk n x = true) {q : Nat} (hq : q < 128) (k : Nat) (hk : 40 ≤ k) : branch_town_entering.f k (n : Int) l (q : Int) = some (entL l q) := by
  have c1 := ent_code (n := (n : Int)) (l := l) (s := q) (by omega) (by omega) hx hq l.length 0 (k - l.length - 1) [] (by omega) (by simp)
  rw [show k - l.length - 1 + l.length + 1 = k from by omega, entR_eq l q l.length 0 [] (by omega) (by simp)] at c1
  unfold branch_town_entering.f
  exact c1
def minL (left : List Int) (og : Int → Bool) : List Int → Int → Int
  | [], m => m
  | i :: E, m => minL left og E (if og i = true then m else if m < 0 then rd left i else if rd left i < m then rd left i else m)
theorem minL_spec (left : List Int) (og : Int → Bool) : ∀ (E : List Int) (m : Int), (∀ i ∈ E, og i = false → 0 ≤ rd left i) → -1 ≤ m →
    (minL left og E m = m ∨ ∃ i ∈ E, og i = false ∧ minL left og E m = rd left i) ∧ (0 ≤ m → minL left og E m ≤ m) ∧ (∀ i ∈ E, og i = false → 0 ≤ minL left og E m ∧ minL left og E m ≤ rd left i) ∧ -1 ≤ minL left og E m ∧ (0 ≤ m → 0 ≤ minL left og E m)
  | [], m, _, hm => ⟨.inl rfl, fun _ => Int.le_refl _, fun i hi => absurd hi (by simp), hm, fun h => h⟩
  | j :: E, m, h, hm => by
    have hj := h j List.mem_cons_self
    have hE : ∀ i ∈ E, og i = false → 0 ≤ rd left i := fun i hi => h i (List.mem_cons_of_mem _ hi)
    simp only [minL]
    cases hog : og j with
    | true =>
      obtain ⟨h1, h2, h3, h4, h5⟩ := minL_spec left og E m hE hm
      simp only [if_true]
      refine ⟨h1.imp id fun ⟨i, hi, e⟩ => ⟨i, List.mem_cons_of_mem _ hi, e⟩, h2, fun i hi ho => ?_, h4, h5⟩
      rcases List.mem_cons.1 hi with rfl | hi
      · rw [hog] at ho; exact absurd ho (by decide)
      · exact h3 i hi ho
    | false =>
      have hj0 := hj hog
      simp only [Bool.false_eq_true, if_false]
      generalize hm2 : (if m < 0 then rd left j else if rd left j < m then rd left j else m) = m2
      have e2 : (m2 = rd left j ∨ m2 = m) ∧ 0 ≤ m2 ∧ m2 ≤ rd left j ∧ (0 ≤ m → m2 ≤ m) := by
        rw [← hm2]
        split
        · exact ⟨.inl rfl, hj0, Int.le_refl _, fun h => by omega⟩
        · split
          · exact ⟨.inl rfl, hj0, Int.le_refl _, fun h => by omega⟩
          · exact ⟨.inr rfl, by omega, by omega, fun h => by omega⟩
      obtain ⟨h1, h2, h3, h4, h5⟩ := minL_spec left og E m2 hE (by omega)
      refine ⟨?_, fun h => by have := h2 e2.2.1; have := e2.2.2.2 h; omega, fun i hi ho => ?_, h4, fun _ => h5 e2.2.1⟩
      · rcases h1 with h1 | ⟨i, hi, e⟩
        · rcases e2.1 with e | e
          · exact .inr ⟨j, List.mem_cons_self, hog, h1.trans e⟩
          · exact .inl (h1.trans e)
        · exact .inr ⟨i, List.mem_cons_of_mem _ hi, e⟩
      · rcases List.mem_cons.1 hi with rfl | hi
        · exact ⟨h5 e2.2.1, by have := h2 e2.2.1; omega⟩
        · exact h3 i hi ho
def subL (m : Int) : List Int → List Int → List Int
  | left, [] => left
  | left, i :: E => subL m (left.set i.toNat (wrap64 (rd left i - m))) E
theorem subL_length (m : Int) : ∀ (E left : List Int), (subL m left E).length = left.length
  | [], _ => rfl
  | i :: E, left => by rw [subL, subL_length m E, List.length_set]
theorem rd_set (L : List Int) (i j : Nat) (x : Int) (h : i < L.length) : rd (L.set i x) (j : Int) = if j = i then x else rd L (j : Int) := by
  simp only [rd, Int.toNat_natCast, List.getD, List.getElem?_set]
  by_cases e : i = j
  · subst e; simp [h]
  · rw [if_neg e, if_neg (fun h => e h.symm)]
theorem subL_rd (m : Int) : ∀ (E left : List Int), (∀ x ∈ E, ∃ i : Nat, x = (i : Int) ∧ i < left.length) → E.Nodup → (∀ x ∈ E, wrap64 (rd left x - m) = rd left x - m) → ∀ j : Nat, rd (subL m left E) (j : Int) = if (j : Int) ∈ E then rd left (j : Int) - m else rd left (j : Int)
  | [], _, _, _, _, j => by simp [subL]
  | x :: E, left, hE, hd, hw, j => by
    obtain ⟨i, rfl, hi⟩ := hE x List.mem_cons_self
    rw [List.nodup_cons] at hd
    rw [subL, Int.toNat_natCast]
    have hr : ∀ j : Nat, rd (left.set i (wrap64 (rd left (i : Int) - m))) (j : Int) = if j = i then wrap64 (rd left (i : Int) - m) else rd left (j : Int) := fun j => rd_set left i j _ hi
    rw [subL_rd m E _ (fun y hy => by obtain ⟨t, e, ht⟩ := hE y (List.mem_cons_of_mem _ hy); exact ⟨t, e, by rw [List.length_set]; exact ht⟩) hd.2 (fun y hy => by
      obtain ⟨t, rfl, ht⟩ := hE y (List.mem_cons_of_mem _ hy)
      have hne : t ≠ i := fun e => hd.1 (e ▸ hy)
      rw [hr, if_neg hne]
      exact hw _ (List.mem_cons_of_mem _ hy)) j, hr]
    by_cases e : j = i
    · subst e
      rw [if_neg hd.1, if_pos rfl, if_pos List.mem_cons_self]
      exact hw _ List.mem_cons_self
    · rw [if_neg e]
      have : ((j : Int) ∈ (i : Int) :: E) ↔ (j : Int) ∈ E := by
        rw [List.mem_cons]
        exact ⟨fun h => h.resolve_left (by omega), .inr⟩
      by_cases hm : (j : Int) ∈ E
      · rw [if_pos hm, if_pos (this.2 hm)]
      · rw [if_neg hm, if_neg (fun h => hm (this.1 h))]
section
variable {n : Nat} {l : List S30}
def chEnd (n : Int) (l : List S30) (k : Nat) (o : Int → Option Bool) (left : List Int) (cost : Int) (proof : List S41) (t m : Int) : Option (Int × List S41 × Bool) :=
  if m < 0 then some (0, [], false) else (branch_town_entering.f k n l t).bind fun e => branch_town_cheapest.l2 k o left cost proof t m e (e.length : Int) 0 n l
theorem ch_l1 (o : Int → Option Bool) (og : Int → Bool) (left : List Int) (cost : Int) (proof : List S41) (t : Int) (E : List Int) (ho : ∀ x ∈ E, o x = some (og x)) (hE : ∀ x ∈ E, ∃ i : Nat, x = (i : Int) ∧ i < left.length) (hlen : E.length < 1000) :
    ∀ (d q k : Nat) (m : Int), q + d = E.length →
    branch_town_cheapest.l1 (k + d + 1) o left cost proof t m E (E.length : Int) (q : Int) (n : Int) l =
      chEnd (n : Int) l k o left cost proof t (minL left og (E.drop q) m)
  | 0, q, k, m, h => by
    simp only [branch_town_cheapest.l1]
    rw [if_neg (by omega), List.drop_eq_nil_of_le (by omega)]
    rfl
  | d + 1, q, k, m, h => by
    have hq : q < E.length := by omega
    have hw := wrap_nat q (by omega)
    have hm := rd_mem4 E q hq
    have hox := ho _ hm
    obtain ⟨i, hi, hil⟩ := hE _ hm
    have ih := fun m => ch_l1 o og left cost proof t E ho hE hlen d (q + 1) k m (by omega)
    rw [show k + (d + 1) + 1 = (k + d + 1) + 1 from by omega]
    rw [drop_rdI4 E q hq]
    simp only [minL]
    generalize k + d + 1 = qq at ih
    simp only [branch_town_cheapest.l1, hw]
    rw [if_pos (by omega), if_pos (by omega), if_pos (by omega), hox, Option.bind_some]
    generalize rd E (q : Int) = x at hi
    subst hi
    by_cases hog : og (i : Int) = true
    · rw [if_pos hog, if_pos hog]
      exact ih m
    · rw [if_neg hog, if_neg hog]
      by_cases h1 : m < 0
      · rw [if_pos h1, if_pos h1, if_pos (by omega), if_pos (by omega)]
        exact ih _
      · rw [if_neg h1, if_neg h1, if_pos (by omega), if_pos (by omega)]
        by_cases h2 : rd left (i : Int) < m
        · rw [if_pos h2, if_pos h2]; exact ih _
        · rw [if_neg h2, if_neg h2]; exact ih _
theorem ch_l2 (o : Int → Option Bool) (cost : Int) (proof : List S41) (t m : Int) (E : List Int) (hlen : E.length < 1000) :
    ∀ (d q k : Nat) (left : List Int), (∀ x ∈ E, ∃ i : Nat, x = (i : Int) ∧ i < left.length) → q + d = E.length →
    branch_town_cheapest.l2 (k + d + 1) o left cost proof t m E (E.length : Int) (q : Int) (n : Int) l =
      if m > 0 then (if proof.length < 8796093022208 then branch_town_cheapest.l0 k o (subL m left (E.drop q)) (wrap64 (cost + m)) (proof ++ [(⟨t, m⟩ : S41)]) (n : Int) l else none) else branch_town_cheapest.l0 k o (subL m left (E.drop q)) cost proof (n : Int) l
  | 0, q, k, left, _, h => by
    simp only [branch_town_cheapest.l2]
    rw [if_neg (by omega), List.drop_eq_nil_of_le (by omega)]
    rfl
  | d + 1, q, k, left, hE, h => by
    have hq : q < E.length := by omega
    have hw := wrap_nat q (by omega)
    have hm := rd_mem4 E q hq
    obtain ⟨i, hi, hil⟩ := hE _ hm
    have ih := ch_l2 o cost proof t m E hlen d (q + 1) k (left.set (rd E (q : Int)).toNat (wrap64 (rd left (rd E (q : Int)) - m))) (fun y hy => by obtain ⟨z, e, hz⟩ := hE y hy; exact ⟨z, e, by rw [List.length_set]; exact hz⟩) (by omega)
    rw [show k + (d + 1) + 1 = (k + d + 1) + 1 from by omega]
    rw [drop_rdI4 E q hq]
    simp only [subL]
    rw [← ih]
    clear ih
    generalize k + d + 1 = qq
    simp only [branch_town_cheapest.l2, hw]
    rw [if_pos (by omega), if_pos (by omega), if_pos (by omega), if_pos (by omega), if_pos (by omega)]
end
/-- The worth of the sets that street i enters. -/
def worthAt (l : List S30) (i : Nat) : List S41 → Int
  | [] => 0
  | p :: P => worthAt l i P + if entB l p.f0.toNat i = true then p.f1 else 0
def worthAll : List S41 → Int
  | [] => 0
  | p :: P => worthAll P + p.f1
theorem worthAt_app (l : List S30) (i : Nat) (p : S41) : ∀ P, worthAt l i (P ++ [p]) = worthAt l i P + if entB l p.f0.toNat i = true then p.f1 else 0
  | [] => by simp [worthAt]
  | x :: P => by
    simp only [List.cons_append, worthAt]
    rw [worthAt_app l i p P]
    omega
theorem worthAll_app (p : S41) : ∀ P, worthAll (P ++ [p]) = worthAll P + p.f1
  | [] => by simp [worthAll]
  | x :: P => by
    simp only [List.cons_append, worthAll]
    rw [worthAll_app p P]
    omega
/-- A set of corners, as_ a price names it. -/
def IsSetN (n : Nat) (s : Int) : Prop := 0 < s ∧ s < 2 ^ n ∧ s.toNat.testBit 0 = false
structure ProofOk (n : Nat) (l : List S30) (T : Nat → Prop) (price : List Int) (P : List S41) (v : Int) : Prop where
  sets : ∀ p ∈ P, IsSetN n p.f0 ∧ 1 ≤ p.f1 ∧ p.f1 ≤ 1000
  apart : (P.map fun p => p.f0).Nodup
  worth : worthAll P = v
  below : ∀ i, T i → worthAt l i P ≤ rd price (i : Int)
/-- What stands at each round. -/
structure ChInv (n : Nat) (l : List S30) (og : Int → Bool) (price left : List Int) (cost : Int) (P : List S41) : Prop where
  len : left.length = l.length
  low : ∀ i : Nat, i < l.length → -(1000 * (P.length : Int)) ≤ rd left (i : Int) ∧ rd left (i : Int) ≤ 1000
  pos : ∀ i, onT l og i → 0 ≤ rd left (i : Int)
  opt : ∀ v, Opt n (aW l) (bW l) (onT l og) (fun i => rd left (i : Int)) v → Opt n (aW l) (bW l) (onT l og) (fun i => rd price (i : Int)) (v + cost)
  sets : ∀ p ∈ P, IsSetN n p.f0 ∧ 1 ≤ p.f1 ∧ p.f1 ≤ 1000 ∧ ∃ i, onT l og i ∧ rd left (i : Int) = 0 ∧ entB l p.f0.toNat i = true
  apart : (P.map fun p => p.f0).Nodup
  worth : worthAll P = cost
  bal : ∀ i : Nat, i < l.length → worthAt l i P + rd left (i : Int) = rd price (i : Int)
  many : cost ≤ 1000 * (P.length : Int) ∧ 0 ≤ cost
def zerosB (l : List S30) (og : Int → Bool) (left : List Int) (i : Nat) : Bool := !og (i : Int) && decide (rd left (i : Int) = 0)
section
variable {n : Nat} {l : List S30}
theorem ch_loop (hn1 : 1 ≤ n) (hn : n ≤ 7) (hl : l.length ≤ 30) (hx : ∀ x ∈ l, wayOk n x = true) (o : Int → Option Bool) (og : Int → Bool) (ho : ∀ i : Nat, i < l.length → o (i : Int) = some (og (i : Int))) (price : List Int) (hpl : price.length = l.length) :
    ∀ (c : Nat) (left : List Int) (cost : Int) (P : List S41), ChInv n l og price left cost P → l.length ≤ cntN (zerosB l og left) l.length + c → P.length + c ≤ 31 →
    ∃ r : Int × List S41 × Bool, (∀ k, 400 + 70 * c ≤ k → branch_town_cheapest.l0 k o left cost P (n : Int) l = some r) ∧
      ((r.2.2 = true ∧ Opt n (aW l) (bW l) (onT l og) (fun i => rd price (i : Int)) r.1 ∧ ProofOk n l (onT l og) price r.2.1 r.1 ∧ r.2.1.length ≤ 31) ∨ (r = (0, [], false) ∧ ∀ f, ¬ IsB n (aW l) (bW l) (onT l og) f)) := by
  intro c
  induction c with
  | zero => ?_
  | succ c ih => ?_
  all_goals
    intro left cost P hI hc hc2
    obtain ⟨q, hq, hal, hz, hS⟩ := alone_spec hn1 hn hl hx left hI.len o og ho
    have hp7 : 2 ^ n ≤ 2 ^ 7 := Nat.pow_le_pow_right (by decide) hn
    have hq7 : q < 128 := Nat.lt_of_lt_of_le hq hp7
    by_cases hq0 : q = 0
    · refine ⟨(cost, P, true), fun k hk => ?_, .inl ⟨rfl, ?_, ⟨fun p hp => ⟨(hI.sets p hp).1, (hI.sets p hp).2.1, (hI.sets p hp).2.2.1⟩, hI.apart, hI.worth, fun i hi => ?_⟩, by show P.length ≤ 31; omega⟩⟩
      · obtain ⟨k, rfl⟩ : ∃ k', k = k' + 1 := ⟨k - 1, by omega⟩
        simp only [branch_town_cheapest.l0]
        rw [hal k (by omega), Option.bind_some, hq0, if_pos (by rfl)]
      · have := hI.opt 0 (Opt.nothing (fun i h => onT_lt hx i h) hI.pos (hz hq0))
        rwa [Int.zero_add] at this
      · have h1 := hI.bal i hi.1
        have h2 := hI.pos i hi
        show worthAt l i P ≤ _
        omega
    have hA := hS hq0
    have hzs : ∀ i, onT l og i → rd left (i : Int) = 0 → entB l q i = false := by
      intro i ht h0
      have := hA.out i ht h0
      unfold entB
      cases hb : q.testBit (bW l i) with
      | false => simp
      | true => rw [this hb]; rfl
    have hE := fun k (hk : 40 ≤ k) => entering_f (n := n) hn hl hx hq7 k hk
    have hEm := entL_mem l q
    have hEn := entL_nat l q
    have hEl := entL_length l q
    have hEpos : ∀ x ∈ entL l q, og x = false → 0 ≤ rd left x := by
      intro x hxE hox
      obtain ⟨i, rfl, hi⟩ := hEn x hxE
      exact hI.pos i ⟨hi, hox⟩
    obtain ⟨m1, m2, m3, m4, m5⟩ := minL_spec left og (entL l q) (-1) hEpos (by omega)
    have M1 := Aside0.mk m1
    clear m1
    have hl0 : ∀ k, 400 ≤ k → branch_town_cheapest.l0 k o left cost P (n : Int) l = if minL left og (entL l q) (-1) < 0 then some (0, [], false) else branch_town_cheapest.l2 (k - (entL l q).length - 2) o left cost P (q : Int) (minL left og (entL l q) (-1)) (entL l q) ((entL l q).length : Int) 0 (n : Int) l := by
      intro k hk
      obtain ⟨k, rfl⟩ : ∃ k', k = k' + 1 := ⟨k - 1, by omega⟩
      have h1 := ch_l1 (n := n) (l := l) o og left cost P (q : Int) (entL l q) (fun x hxE => by obtain ⟨i, rfl, hi⟩ := hEn x hxE; exact ho i hi) (fun x hxE => by obtain ⟨i, e, hi⟩ := hEn x hxE; exact ⟨i, e, by rw [hI.len]; exact hi⟩) (by omega) (entL l q).length 0 (k - (entL l q).length - 1) (-1) (by omega)
      rw [show k - (entL l q).length - 1 + (entL l q).length + 1 = k from by omega, List.drop_zero] at h1
      unfold chEnd at h1
      rw [hE _ (by omega), Option.bind_some] at h1
      simp only [branch_town_cheapest.l0]
      rw [hal k (by omega), Option.bind_some, if_neg (by omega), hE k (by omega), Option.bind_some]
      rw [show k + 1 - (entL l q).length - 2 = k - (entL l q).length - 1 from by omega]
      exact h1
    by_cases hm : minL left og (entL l q) (-1) < 0
    · refine ⟨(0, [], false), fun k hk => by rw [hl0 k (by omega), if_pos hm], .inr ⟨rfl, no_branching (S := fun c => q.testBit c = true) hA.h0 hA.ne fun i ht hb => ?_⟩⟩
      refine Classical.byContradiction fun hna => ?_
      have hent : entB l q i = true := by unfold entB; rw [hb, Bool.eq_false_iff.mpr hna]; rfl
      have := (m3 (i : Int) ((hEm i).2 ⟨ht.1, hent⟩) ht.2).1
      omega
    obtain ⟨j, hjE, hjo, hjm⟩ : ∃ i ∈ entL l q, og i = false ∧ minL left og (entL l q) (-1) = rd left i := by
      rcases M1.out with h | h
      · omega
      · exact h
    clear M1
    obtain ⟨j, rfl, hj⟩ := hEn j hjE
    generalize hmm : minL left og (entL l q) (-1) = m at *
    have hjent := ((hEm j).1 hjE).2
    have hm1 : 1 ≤ m := by
      have := hzs j ⟨hj, hjo⟩
      rw [hjent] at this
      have h0 : rd left (j : Int) ≠ 0 := fun e => absurd (this e) (by decide)
      omega
    have hm1000 : m ≤ 1000 := by have := (hI.low j hj).2; omega
    have hwr : ∀ x ∈ entL l q, wrap64 (rd left x - m) = rd left x - m := by
      intro x hxE
      obtain ⟨i, rfl, hi⟩ := hEn x hxE
      have := hI.low i hi
      unfold wrap64
      omega
    have hrd := subL_rd m (entL l q) left (fun x hxE => by obtain ⟨i, e, hi⟩ := hEn x hxE; exact ⟨i, e, by rw [hI.len]; exact hi⟩) (entL_nodup l q) hwr
    have hrd2 : ∀ i : Nat, i < l.length → rd (subL m left (entL l q)) (i : Int) = if entB l q i = true then rd left (i : Int) - m else rd left (i : Int) := by
      intro i hi
      rw [hrd i]
      by_cases he : entB l q i = true
      · rw [if_pos ((hEm i).2 ⟨hi, he⟩), if_pos he]
      · rw [if_neg (fun h => he ((hEm i).1 h).2), if_neg he]
    have hposT : ∀ i, onT l og i → 0 ≤ rd (subL m left (entL l q)) (i : Int) := by
      intro i ht
      rw [hrd2 i ht.1]
      have := hI.pos i ht
      split
      · rename_i he
        have := (m3 (i : Int) ((hEm i).2 ⟨ht.1, he⟩) ht.2).2
        omega
      · exact this
    have hzero : ∀ i, onT l og i → rd left (i : Int) = 0 → rd (subL m left (entL l q)) (i : Int) = 0 := by
      intro i ht h0
      rw [hrd2 i ht.1, if_neg (by rw [hzs i ht h0]; decide)]
      exact h0
    have hjz : rd (subL m left (entL l q)) (j : Int) = 0 := by
      rw [hrd2 j hj, if_pos hjent]; omega
    have hcl := hI.many
    have hwc : wrap64 (cost + m) = cost + m := by unfold wrap64; omega
    have hset : IsSetN n (q : Int) := by
      refine ⟨by omega, by exact_mod_cast hq, ?_⟩
      rw [Int.toNat_natCast]
      exact Bool.eq_false_iff.mpr hA.h0
    have hnew : ChInv n l og price (subL m left (entL l q)) (cost + m) (P ++ [(⟨(q : Int), m⟩ : S41)]) := by
      refine ⟨by rw [subL_length]; exact hI.len, fun i hi => ?_, hposT, fun v hv => ?_, fun p hp => ?_, ?_, ?_, fun i hi => ?_, ?_⟩
      · rw [hrd2 i hi, List.length_append, List.length_singleton]
        have := hI.low i hi
        split <;> omega
      · have h1 := Opt.priced (p := fun i => rd left (i : Int)) (q := fun i => rd (subL m left (entL l q)) (i : Int)) (S := fun c => q.testBit c = true) (mm := m) (fun i h => onT_lt hx i h) hA (by omega) hI.pos
          (fun i ht hb ha => (m3 (i : Int) ((hEm i).2 ⟨ht.1, by unfold entB; rw [hb, Bool.eq_false_iff.mpr ha]; rfl⟩) ht.2).2)
          (fun i ht hb ha => by show rd (subL m left (entL l q)) (i : Int) = _; rw [hrd2 i ht.1, if_pos (by unfold entB; rw [hb, Bool.eq_false_iff.mpr ha]; rfl)])
          (fun i ht hno => by
            show rd (subL m left (entL l q)) (i : Int) = _
            rw [hrd2 i ht.1, if_neg]
            intro he
            unfold entB at he
            rw [Bool.and_eq_true, Bool.not_eq_true'] at he
            exact hno ⟨he.2, fun h => by rw [he.1] at h; exact absurd h (by decide)⟩) hv
        have h2 := hI.opt _ h1
        rw [show v + (cost + m) = v + m + cost from by omega]
        exact h2
      · rcases List.mem_append.1 hp with hp | hp
        · obtain ⟨a1, a2, a3, i, a4, a5, a6⟩ := hI.sets p hp
          exact ⟨a1, a2, a3, i, a4, hzero i a4 a5, a6⟩
        · obtain rfl := List.mem_singleton.1 hp
          exact ⟨hset, hm1, hm1000, j, ⟨hj, hjo⟩, hjz, by rw [Int.toNat_natCast]; exact hjent⟩
      · rw [List.map_append, List.nodup_append]
        refine ⟨hI.apart, by simp, fun x hxm y hy e => ?_⟩
        obtain rfl : y = (q : Int) := by simpa using hy
        obtain ⟨p, hp, rfl⟩ := List.mem_map.1 hxm
        obtain ⟨_, _, _, i, a4, a5, a6⟩ := hI.sets p hp
        rw [e, Int.toNat_natCast, hzs i a4 a5] at a6
        exact absurd a6 (by decide)
      · rw [worthAll_app, hI.worth]
      · rw [worthAt_app, hrd2 i hi, Int.toNat_natCast]
        have := hI.bal i hi
        show worthAt l i P + (if entB l q i = true then m else 0) + _ = _
        split <;> omega
      · rw [List.length_append, List.length_singleton]
        omega
    have hmeas : cntN (zerosB l og left) l.length < cntN (zerosB l og (subL m left (entL l q))) l.length := by
      refine cntN_lt l.length (fun i hi h => ?_) j hj ?_ ?_
      · unfold zerosB at h ⊢
        rw [Bool.and_eq_true, Bool.not_eq_true', decide_eq_true_eq] at h ⊢
        exact ⟨h.1, hzero i ⟨hi, h.1⟩ h.2⟩
      · unfold zerosB
        rw [hjo, hjz]; rfl
      · unfold zerosB
        rw [decide_eq_false (by omega), Bool.and_false]
    have hcb := cntN_bound (zerosB l og (subL m left (entL l q))) l.length
  · omega
  · obtain ⟨r, hr1, hr2⟩ := ih (subL m left (entL l q)) (cost + m) (P ++ [(⟨(q : Int), m⟩ : S41)]) hnew (by omega) (by rw [List.length_append, List.length_singleton]; omega)
    refine ⟨r, fun k hk => ?_, hr2⟩
    rw [hl0 k (by omega), if_neg hm]
    have h2 := ch_l2 (n := n) (l := l) o cost P (q : Int) m (entL l q) (by omega) (entL l q).length 0 (k - (entL l q).length - 2 - (entL l q).length - 1) left (fun x hxE => by obtain ⟨i, e, hi⟩ := hEn x hxE; exact ⟨i, e, by rw [hI.len]; exact hi⟩) (by omega)
    rw [show k - (entL l q).length - 2 - (entL l q).length - 1 + (entL l q).length + 1 = k - (entL l q).length - 2 from by omega, List.drop_zero, if_pos (by omega), if_pos (by omega), hwc] at h2
    exact h2.trans (hr1 _ (by omega))
/-- cheapest's answer. -/
theorem cheapest_spec (hn1 : 1 ≤ n) (hn : n ≤ 7) (hl : l.length ≤ 30) (hx : ∀ x ∈ l, wayOk n x = true) (o : Int → Option Bool) (og : Int → Bool) (ho : ∀ i : Nat, i < l.length → o (i : Int) = some (og (i : Int))) (price : List Int) (hpl : price.length = l.length) (hp : ∀ i : Nat, i < l.length → 0 ≤ rd price (i : Int) ∧ rd price (i : Int) ≤ 1000) :
    ∃ r : Int × List S41 × Bool, (∀ k, 3000 ≤ k → branch_town_cheapest.f k (n : Int) l price o = some r) ∧
      ((r.2.2 = true ∧ Opt n (aW l) (bW l) (onT l og) (fun i => rd price (i : Int)) r.1 ∧ ProofOk n l (onT l og) price r.2.1 r.1 ∧ r.2.1.length ≤ 31) ∨ (r = (0, [], false) ∧ ∀ f, ¬ IsB n (aW l) (bW l) (onT l og) f)) := by
  have h0 : ChInv n l og price price 0 [] := by
    refine ⟨hpl, fun i hi => ⟨by have := (hp i hi).1; simpa using this, (hp i hi).2⟩, fun i hi => (hp i hi.1).1, fun v hv => by rwa [Int.add_zero], fun p hp => absurd hp (by simp), by simp, rfl, fun i hi => by simp [worthAt], by simp⟩
  obtain ⟨r, h1, h2⟩ := ch_loop hn1 hn hl hx o og ho price hpl l.length price 0 [] h0 (by omega) (by simp; omega)
  refine ⟨r, fun k hk => ?_, h2⟩
  unfold branch_town_cheapest.f slices_Clone.f
  rw [if_pos (by omega), Option.bind_some]
  exact h1 k (by omega)
end
end Go.Proofs.Ytpmadffgdfholaa.B
