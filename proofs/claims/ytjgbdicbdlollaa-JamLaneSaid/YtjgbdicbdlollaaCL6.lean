/- Texts behind the row of JamLane, part 6: contracts of the functions it reaches, words that their walks use, and lemmas in plain Lean. -/
import Derived.Below
import Derived.Deep.Draws
import Derived.Deep.AppendLies
import Derived.Maps.AppendAt
import Derived.OwnWalk
import Derived.Laws.BytesArg
import Derived.Laws.MakeOwn
import Derived.Laws.OwnMore
import Derived.Deep.OwnRows
import Derived.Tactics
import Derived.Lib.ConvBytes
import Derived.Laws.Slices
import Derived.WalkKit
import Derived.KernelRfl
import Derived.RowKit3
import Derived.Deep.LoopGhost
import Derived.Deep.QuietTactic
import Derived.BigQuiet
import Derived.WideLaws
import Derived.Deep.DeepCutAuto
import Derived.Deep.CutBlock
import Derived.Deep.RegionHeld3
import Derived.Laws.Rows
import Derived.Lib.AppendStr
import Derived.ArgAppend
import Derived.Laws.IdiomCopy
import Derived.RowKit
import Derived.OrdersHeld
import Derived.Laws.BitsLemmas
import Derived.Laws.StructEq
import Derived.Test.YtjgbdicbdlollaaProg
import Derived.WalkSpells
import Derived.MapKept
import Derived.Maps.RangeWalk
import Derived.Shelf.SlSortCmp.SmallK
import Derived.Ground.SlsfProg
import Derived.Deep.Slices
import Derived.Deep.Fields
import Derived.ChangeSame
import Derived.ChangeSlices
import Derived.SizedLaws
import Derived.Sort.LotA
import Derived.Test.YtjgbdicbdlollaaCL1
import Derived.Test.YtjgbdicbdlollaaCL2
import Derived.Test.YtjgbdicbdlollaaCL3
import Derived.Test.YtjgbdicbdlollaaCL4
import Derived.Test.YtjgbdicbdlollaaCL5
namespace Go.Proofs.Ytjgbdicbdlollaa.B
open Go.RowKit Go.Proofs.YtjgbdicbdlollaaW.PrintWords Go.Proofs.YtjgbdicbdlollaaW.PrintLast Go.Proofs.YtjgbdicbdlollaaW.PrintMore
attribute [local go_sem] max2_int min2_int max_two min_two max_three min_three max_four min_four   -- for this text's walks alone
set_option linter.unusedVariables false
set_option linter.unusedSimpArgs false
mutual
def lJL_.j0 : Nat → List (S36) → List (S36) → Bool → Option (Bool)
  | 0, _, _, _ => none
  | k + 1, x0, x5, x36 => if x36 = true then ((lAl_.f k).bind fun t215 => (some t215)) else ((jam_Balance.f k x0).bind fun bt216 => ((jam_Balance.f k x5).bind fun bt225 => ((jCh_.f k x0).bind fun bt234 => ((jCh_.f k x5).bind fun bt243 => (if bt216.2.2.2.2 = 0 then (if bt225.2.2.2.2 = 0 then (if bt234.2.2.2.2 = 0 then (if bt243.2.2.2.2 = 0 then (if bt216.2.2.2.1 < 1 then (lJL_.j1 k true bt216.2.2.1 bt216.2.2.2.1 bt225.2.2.1 bt225.2.2.2.1 bt234.2.2.1 bt234.2.2.2.1 bt243.2.2.1 bt243.2.2.2.1) else (if bt225.2.2.2.1 < 1 then (lJL_.j1 k true bt216.2.2.1 bt216.2.2.2.1 bt225.2.2.1 bt225.2.2.2.1 bt234.2.2.1 bt234.2.2.2.1 bt243.2.2.1 bt243.2.2.2.1) else (if bt234.2.2.2.1 < 1 then (lJL_.j1 k true bt216.2.2.1 bt216.2.2.2.1 bt225.2.2.1 bt225.2.2.2.1 bt234.2.2.1 bt234.2.2.2.1 bt243.2.2.1 bt243.2.2.2.1) else (lJL_.j1 k (decide (bt243.2.2.2.1 < 1)) bt216.2.2.1 bt216.2.2.2.1 bt225.2.2.1 bt225.2.2.2.1 bt234.2.2.1 bt234.2.2.2.1 bt243.2.2.1 bt243.2.2.2.1)))) else (lJL_.j1 k true bt216.2.2.1 bt216.2.2.2.1 bt225.2.2.1 bt225.2.2.2.1 bt234.2.2.1 bt234.2.2.2.1 bt243.2.2.1 bt243.2.2.2.1)) else (lJL_.j1 k true bt216.2.2.1 bt216.2.2.2.1 bt225.2.2.1 bt225.2.2.2.1 bt234.2.2.1 bt234.2.2.2.1 bt243.2.2.1 bt243.2.2.2.1)) else (lJL_.j1 k true bt216.2.2.1 bt216.2.2.2.1 bt225.2.2.1 bt225.2.2.2.1 bt234.2.2.1 bt234.2.2.2.1 bt243.2.2.1 bt243.2.2.2.1)) else (lJL_.j1 k true bt216.2.2.1 bt216.2.2.2.1 bt225.2.2.1 bt225.2.2.2.1 bt234.2.2.1 bt234.2.2.2.1 bt243.2.2.1 bt243.2.2.2.1))))))
def lJL_.j1 : Nat → Bool → Int → Int → Int → Int → Int → Int → Int → Int → Option (Bool)
  | 0, _, _, _, _, _, _, _, _, _ => none
  | k + 1, x95, x225000, x225001, x234000, x234001, x243000, x243001, x252000, x252001 => if x95 = true then (some false) else ((lLe_.f k x225000 x225001 1 x234000 x234001 1).bind fun t252 => (if t252 = true then (some false) else ((lLe_.f k x243000 x243001 1 x252000 x252001 1).bind fun t253 => (if t253 = true then (some false) else ((lAl_.f k).bind fun t254 => (some t254))))))
end
def lJL_.f (k : Nat) (l0 : List (S36)) (a1_0 : Int) (a1_1 : Int) : Option (Bool) := (some (([] : List (S36)) : List (S36))).bind fun y201 => (if y201.length + l0.length < 8796093022208 then ((some (y201 ++ l0 : List (S36))).bind fun y204 => ((some (([(⟨a1_0, a1_1⟩ : S36)] : List (S36)) : List (S36))).bind fun y207 => (if y204.length + y207.length < 8796093022208 then ((some (y204 ++ y207 : List (S36))).bind fun y210 => (if (l0.length : Int) > 20 then (lJL_.j0 k l0 y210 true) else ((rLn.f k l0).bind fun t213 => (if t213 = 0 then ((rLn.f k y210).bind fun t214 => (lJL_.j0 k l0 y210 (t214 != 0))) else (lJL_.j0 k l0 y210 true))))) else (none)))) else (none))
theorem lJL_.j1_no (k : Nat) (y1 : Int) (y2 : Int) (y3 : Int) (y4 : Int) (y5 : Int) (y6 : Int) (y7 : Int) (y8 : Int) (r : Bool) (h : lJL_.j1 k true y1 y2 y3 y4 y5 y6 y7 y8 = some r) : r = false := by
  cases k with
  | zero => simp only [lJL_.j1] at h; exact absurd h (by simp)
  | succ k => simp only [lJL_.j1] at h; rw [if_pos trivial] at h; exact (Option.some.inj h).symm
set_option maxHeartbeats 8000000 in
set_option maxRecDepth 100000 in
theorem lJL_.calls (k : Nat) (A0 : Option Addr) (c0 : Nat) (l0 : List (S36)) (a1_0 : Int) (a1_1 : Int) (r : Bool) (w : World) (hr0 : Kd.C k36 w A0 l0.length l0) (hc0 : l0.length ≤ c0) (h : lJL_.f k l0 a1_0 a1_1 = some r) (hrt : r = true) :
  Calls Try.prog 5 #[.slice A0 l0.length c0, .agg #[.int .i64 a1_0, .int .i64 a1_1]] w fun e w' => e = .returned (.bool r) ∧ Below w.heap.size w w' := by
 have hu36 := Try.underlying36
 have hu26 := Try.underlying26
 have hu28 := Try.underlying28
 have HR0 := Az0.mk hr0
 have HC0 := Az0.mk hc0
 clear hr0 hc0
 have HB := Az0.mk (Below.refl w.heap.size w)
 have H : ((some (([] : List (S36)) : List (S36))).bind fun y201 => (if y201.length + l0.length < 8796093022208 then ((some (y201 ++ l0 : List (S36))).bind fun y204 => ((some (([(⟨a1_0, a1_1⟩ : S36)] : List (S36)) : List (S36))).bind fun y207 => (if y204.length + y207.length < 8796093022208 then ((some (y204 ++ y207 : List (S36))).bind fun y210 => (if (l0.length : Int) > 20 then (lJL_.j0 k l0 y210 true) else ((rLn.f k l0).bind fun t213 => (if t213 = 0 then ((rLn.f k y210).bind fun t214 => (lJL_.j0 k l0 y210 (t214 != 0))) else (lJL_.j0 k l0 y210 true))))) else (none)))) else (none))) = some r := h
 clear h
 have HRT := Az0.mk hrt
 clear hrt
 obtain ⟨y201, hy201⟩ : ∃ y_ : List (S36), y_ = (([] : List (S36))) := ⟨_, rfl⟩
 replace H : (if y201.length + l0.length < 8796093022208 then ((some (y201 ++ l0 : List (S36))).bind fun y204 => ((some (([(⟨a1_0, a1_1⟩ : S36)] : List (S36)) : List (S36))).bind fun y207 => (if y204.length + y207.length < 8796093022208 then ((some (y204 ++ y207 : List (S36))).bind fun y210 => (if (l0.length : Int) > 20 then (lJL_.j0 k l0 y210 true) else ((rLn.f k l0).bind fun t213 => (if t213 = 0 then ((rLn.f k y210).bind fun t214 => (lJL_.j0 k l0 y210 (t214 != 0))) else (lJL_.j0 k l0 y210 true))))) else (none)))) else (none)) = some r := by first | (rw [hy201]; with_reducible exact H) | (have H2_ := (Option.bind_some _ _).symm.trans H; rw [hy201]; with_reducible exact H2_) | (have H2_ := (Option.bind_some _ _).symm.trans H; with_reducible exact H2_) | with_reducible exact H | (rw [hy201]; exact H) | exact H
 have Ny201 := Az0.mk hy201
 clear hy201
 by_cases c3 : y201.length + l0.length < 8796093022208
 ·rw [if_pos c3] at H
  have LMc3 := Az0.mk c3
  clear c3
  obtain ⟨y204, hy204⟩ : ∃ y_ : List (S36), y_ = (y201 ++ l0) := ⟨_, rfl⟩
  replace H : ((some (([(⟨a1_0, a1_1⟩ : S36)] : List (S36)) : List (S36))).bind fun y207 => (if y204.length + y207.length < 8796093022208 then ((some (y204 ++ y207 : List (S36))).bind fun y210 => (if (l0.length : Int) > 20 then (lJL_.j0 k l0 y210 true) else ((rLn.f k l0).bind fun t213 => (if t213 = 0 then ((rLn.f k y210).bind fun t214 => (lJL_.j0 k l0 y210 (t214 != 0))) else (lJL_.j0 k l0 y210 true))))) else (none))) = some r := by first | (rw [hy204]; with_reducible exact H) | (have H2_ := (Option.bind_some _ _).symm.trans H; rw [hy204]; with_reducible exact H2_) | (have H2_ := (Option.bind_some _ _).symm.trans H; with_reducible exact H2_) | with_reducible exact H | (rw [hy204]; exact H) | exact H
  have Ny204 := Az0.mk hy204
  clear hy204
  obtain ⟨y207, hy207⟩ : ∃ y_ : List (S36), y_ = (([(⟨a1_0, a1_1⟩ : S36)] : List (S36))) := ⟨_, rfl⟩
  replace H : (if y204.length + y207.length < 8796093022208 then ((some (y204 ++ y207 : List (S36))).bind fun y210 => (if (l0.length : Int) > 20 then (lJL_.j0 k l0 y210 true) else ((rLn.f k l0).bind fun t213 => (if t213 = 0 then ((rLn.f k y210).bind fun t214 => (lJL_.j0 k l0 y210 (t214 != 0))) else (lJL_.j0 k l0 y210 true))))) else (none)) = some r := by first | (rw [hy207]; with_reducible exact H) | (have H2_ := (Option.bind_some _ _).symm.trans H; rw [hy207]; with_reducible exact H2_) | (have H2_ := (Option.bind_some _ _).symm.trans H; with_reducible exact H2_) | with_reducible exact H | (rw [hy207]; exact H) | exact H
  have Ny207 := Az0.mk hy207
  clear hy207
  by_cases c4 : y204.length + y207.length < 8796093022208
  ·rw [if_pos c4] at H
   have LMc4 := Az0.mk c4
   clear c4
   obtain ⟨y210, hy210⟩ : ∃ y_ : List (S36), y_ = (y204 ++ y207) := ⟨_, rfl⟩
   replace H : (if (l0.length : Int) > 20 then (lJL_.j0 k l0 y210 true) else ((rLn.f k l0).bind fun t213 => (if t213 = 0 then ((rLn.f k y210).bind fun t214 => (lJL_.j0 k l0 y210 (t214 != 0))) else (lJL_.j0 k l0 y210 true)))) = some r := by first | (rw [hy210]; with_reducible exact H) | (have H2_ := (Option.bind_some _ _).symm.trans H; rw [hy210]; with_reducible exact H2_) | (have H2_ := (Option.bind_some _ _).symm.trans H; with_reducible exact H2_) | with_reducible exact H | (rw [hy210]; exact H) | exact H
   have Ny210 := Az0.mk hy210
   clear hy210
   have HC5 := Az0.mk H
   clear H
   go_enter Try.func5, Try.ntmps5
   try go_wp2_with (first | ((with_reducible refine gD_ (N := 3) rfl ?_); refine bE_ ?hg (N := 3) ?hd (cs := #[.int .i64 a1_0, .int .i64 a1_1]) (t := 36) ?hr ?_; (case hd => rfl); (case hg => rfl); (case hr => first | (go_simp; done) | (go_simp; rfl)); intro gb200 hg w6 hbox hb; have n0_ := Az0.mk (bP_ (by repeat (first | (with_reducible first | exact HB.out | apply baA_ | apply pbN_ | apply bD1_) | exact HB.out)) hb); have n1_ := Az0.mk (hbox); have n2_ := Az0.mk ((by rw [hg]; exact (bZ_ (by repeat (first | (with_reducible first | exact HB.out | apply baA_ | apply pbN_ | apply bD1_) | exact HB.out))) : w.heap.size ≤ gb200)); have n3_ := Az0.mk ((by rw [hg]; exact (bZ_ (by repeat (first | (with_reducible first | exact HB.out | apply baA_ | apply pbN_ | apply bD1_) | exact HB.out))) : w.heap.size ≤ gb200)); clear HB; have HB := n0_; have BK200 := n1_; have GW200 := n2_; have GE200 := n3_; clear n0_ n1_ n2_ n3_; clear hb hbox hg))
   replace BK200 := Az0.mk (bW_ BK200.out)
   replace HB := Az0.mk (bD1_ HB.out)
   skip
   refine start_ (n := 7) (S := fun w' => w'.cell? ⟨gb200, 0, none⟩ = some (.int .i64 a1_0) ∧ w'.cell? ⟨gb200, 1, none⟩ = some (.int .i64 a1_1)) (ds := []) #[false, false, false, false, false, false, false] (by kernel_rfl) rfl rfl ⟨(bkC BK200.out 0).trans rfl, (bkC BK200.out 1).trans rfl⟩ (fun hHeld => ?_)
   generalize w6.drew = w7 at BK200 HB hHeld ⊢
   refine pure_ (i := 1) (N := some 19) (v := ?_) (a' := ?_) #[false, true, false, false, false, false, false] rfl rfl (by kernel_rfl) (fun _ _ _ h => h) (Or.inl ⟨by rfl, ?_⟩) ?_ ?_
   rotate_left
   ·intro w'
    go_simp
    with_reducible rfl
   rotate_left
   ·simp only [Act.put, List.setIfInBounds_toArray, List.set_cons_zero, List.set_cons_succ, i64_w, i32_w]
    rfl
   refine take_ (i := 3) (N := some 21) (v := ?_) (a' := ?_) #[false, true, false, true, false, false, false] rfl rfl (by kernel_rfl) (fun _ _ _ h => h) (Or.inl ⟨by rfl, ?_⟩) hHeld ?_ ?_
   rotate_left
   ·rintro w' ⟨s0, s1⟩
    go_simp
    with_reducible rfl
   rotate_left
   ·simp only [Act.put, List.setIfInBounds_toArray, List.set_cons_zero, List.set_cons_succ, i64_w, i32_w]
    rfl
   refine join_ (σ := Value × Value × Value) 2 #[true, true, true, true, true, false, false] (fun s_ => [(18, s_.1), (20, s_.2.1), (22, s_.2.2)]) (fun s_ w' => (w'.cell? ⟨gb200, 0, none⟩ = some (.int .i64 a1_0) ∧ w'.cell? ⟨gb200, 1, none⟩ = some (.int .i64 a1_1)) ∧ (Kd.R k36 36 w' w.heap.size (fun k_ => some k_ ≠ (s_.2.2 : Value).ownBlock ∧ k_ ≠ gb200) s_.2.1 y204) ∧ (Kd.R k36 36 w' w.heap.size (fun k_ => some k_ ≠ (s_.2.1 : Value).ownBlock ∧ k_ ≠ gb200) s_.2.2 y207) ∧ (w'.heap[gb200]? = some (.cells #[.int .i64 a1_0, .int .i64 a1_1] 36 (0, 0))) ∧ (Below w.heap.size w w')) ?_ ?_
   rotate_left
   ·intro hCont
    refine two_ (i := 0) (j := 4) (Ni := some 18) (Nj := some 22) #[true, true, false, true, false, false, false] #[false, true, false, true, true, false, false] rfl rfl rfl rfl (by kernel_rfl) (by decide) (by decide) (fun K hK => ?_) (fun K hK => ?_)
    ·skip
     refine Kd.R_lit_step k36 _ 36 ?hg (N := 18) ?hd (xs := ([] : List (S36))) (inner := []) (ok := fun _ => True) (okp := fun _ => True) ?hr ?hp (fun _ hk => hk) trivial (Below.refl _ _) (Nat.le_refl _) (by simp) ?_; (case hd => rfl); (case hg => rfl); (case hr => first | (go_simp; done) | (go_simp; rfl)); (case hp => exact (Reps.none _ _))
     intro v202 w8 ho9 hb hg_ hnew_
     clear hg_ hnew_
     (first | rw [← Ny201.out] at ho9 | (simp only [Int.reduceToNat] at ho9; rw [← Ny201.out] at ho9))
     have n0_ := Az0.mk (Kd.R_lower (Kd.R_newB ho9 (g := gb200) (o := .cells #[.int .i64 a1_0, .int .i64 a1_1] 36 (0, 0)) (by (with_reducible repeat (first | refine bN_ ?_ _ | refine bW_ ?_ | refine bA_ ?_ _)); exact BK200.out)) (bZ_ (by repeat (first | (with_reducible first | exact HB.out | apply baA_ | apply pbN_ | apply bD1_ | refine bS_ ?_ GE200.out) | exact HB.out))))
     have n1_ := Az0.mk (bB_ (g := gb200) (o := .cells #[.int .i64 a1_0, .int .i64 a1_1] 36 (0, 0)) (by (with_reducible repeat (first | refine bN_ ?_ _ | refine bW_ ?_ | refine bA_ ?_ _)); exact BK200.out) hb)
     have n2_ := Az0.mk (bP_ (by repeat (first | (with_reducible first | exact HB.out | apply baA_ | apply pbN_ | apply bD1_ | refine bS_ ?_ GE200.out) | exact HB.out)) hb)
     clear BK200
     clear HB
     have HO203 := n0_
     have BK200 := n1_
     have HB := n2_
     clear n0_ n1_ n2_
     clear hb ho9
     refine hK.out _ _ ⟨(bkC BK200.out 0).trans rfl, (bkC BK200.out 1).trans rfl⟩ (fun hHeld => ?_)
     clear hK K
     refine norm_ (a' := ?_) ?_ ?_
     rotate_left
     ·show Act.put _ (some 18) _ = _
      simp only [Act.put, List.setIfInBounds_toArray, List.set_cons_zero, List.set_cons_succ, i64_w, i32_w]
      rfl
     refine two_ (i := 2) (j := 4) (Ni := some 20) (Nj := some 22) #[true, true, true, true, false, false, false] #[true, true, false, true, true, false, false] rfl rfl rfl rfl (by kernel_rfl) (by decide) (by decide) (fun K hK => ?_) (fun K hK => ?_)
     ·skip
      refine Kd.R_append_rows_step k36 (w0 := w) w.heap.size (by rfl) (.tmp 18) (.tmp 19) 22 36 (.agg #[(.int .i64 0), (.int .i64 0)]) 16 rfl Try.underlying22 info36 rfl (by decide) (by omega) v202 y201 l0 _ _ _ (fun k_ => k_ ≠ gb200) (fun _ => False) rfl rfl ?aO ?aR (fun _ _ h => h) (fun _ h => h.elim) ?aF ?aB ?aS ?aL ?_
      (case aR => repeat (first | exact (Kd.C_below HR0.out HB.out) | (with_reducible refine Kd.C_alloc ?_ _) | (with_reducible refine Kd.C_drewN ?_ _) | (with_reducible refine Kd.C_drew ?_)))
      (case aB => exact (by repeat (first | (with_reducible first | exact HB.out | apply baA_ | apply pbN_ | apply bD1_ | refine bS_ ?_ GE200.out) | exact HB.out)))
      (case aF => exact (fun k_ hk => Kd.freshB (g := gb200) (o := .cells #[.int .i64 a1_0, .int .i64 a1_1] 36 (0, 0)) (by (with_reducible repeat (first | refine bN_ ?_ _ | refine bW_ ?_ | refine bA_ ?_ _)); exact BK200.out) k_ hk))
      (case aO => exact (by (with_reducible repeat (first | apply Kd.R_alloc | apply Kd.R_drewN | apply Kd.R_drew)); exact Kd.rM_ HO203.out (fun _ hk => hk.2)))
      (case aS => exact (bZ_ (by repeat (first | (with_reducible first | exact HB.out | apply baA_ | apply pbN_ | apply bD1_ | refine bS_ ?_ GE200.out) | exact HB.out))))
      (case aL => have := LMc3.out; omega)
      intro v205 w10 ho hb hg hat
      rw [← Ny204.out] at ho
      replace BK200 := Az0.mk (blk_grown (g := gb200) (o := .cells #[.int .i64 a1_0, .int .i64 a1_1] 36 (0, 0)) (by (with_reducible repeat (first | refine bN_ ?_ _ | refine bW_ ?_ | refine bA_ ?_ _)); exact BK200.out) hg (Kd.R_away HO203.out (fun _ hk => hk.2)))
      replace HB := Az0.mk (hb)
      have n2_ := Az0.mk (ho)
      clear HO203
      have HO206 := n2_
      clear n2_
      clear ho hb hg hat
      refine hK.out _ _ ⟨(bkC BK200.out 0).trans rfl, (bkC BK200.out 1).trans rfl⟩ (fun hHeld => ?_)
      clear hK K
      refine norm_ (a' := ?_) ?_ ?_
      rotate_left
      ·show Act.put _ (some 20) _ = _
       simp only [Act.put, List.setIfInBounds_toArray, List.set_cons_zero, List.set_cons_succ, i64_w, i32_w]
       rfl
      refine one_ (i := 4) (N := some 22) #[true, true, true, true, true, false, false] rfl rfl (by kernel_rfl) (by decide) (fun K hK => ?_)
      refine Kd.R_lit_step k36 _ 36 ?hg (N := 22) ?hd (xs := ([(⟨a1_0, a1_1⟩ : S36)] : List (S36))) (inner := [.int .i64 a1_0, .int .i64 a1_1]) (ok := fun _ => True) (okp := fun _ => True) ?hr ?hp (fun _ hk => hk) trivial (Below.refl _ _) (Nat.le_refl _) (by simp) ?_; (case hd => rfl); (case hg => rfl); (case hr => first | (go_simp; done) | (go_simp; rfl)); (case hp => exact (Reps.c2 (show Kd.M k36 _ _ _ (⟨a1_0, a1_1⟩ : S36) [.int .i64 a1_0, .int .i64 a1_1] from (k36_mkM _ _ _ (⟨a1_0, a1_1⟩ : S36) )) (Reps.none _ _)))
      intro v208 w11 ho12 hb hg_ hnew_
      clear hg_ hnew_
      (first | rw [← Ny207.out] at ho12 | (simp only [Int.reduceToNat] at ho12; rw [← Ny207.out] at ho12))
      have n0_ := Az0.mk (Kd.R_elder' (by (with_reducible repeat (first | apply Kd.R_alloc | apply Kd.R_drewN | apply Kd.R_drew)); exact HO206.out) (Kd.rB_ ho12) hb)
      have n1_ := Az0.mk (Kd.R_lower (Kd.R_newB (Kd.R_new' ho12 (Kd.R_lt (by (with_reducible repeat (first | apply Kd.R_alloc | apply Kd.R_drewN | apply Kd.R_drew)); exact HO206.out))) (g := gb200) (o := .cells #[.int .i64 a1_0, .int .i64 a1_1] 36 (0, 0)) (by (with_reducible repeat (first | refine bN_ ?_ _ | refine bW_ ?_ | refine bA_ ?_ _)); exact BK200.out)) (bZ_ (by repeat (first | (with_reducible first | exact HB.out | apply baA_ | apply pbN_ | apply bD1_ | refine bS_ ?_ GE200.out) | exact HB.out))))
      have n2_ := Az0.mk (bB_ (g := gb200) (o := .cells #[.int .i64 a1_0, .int .i64 a1_1] 36 (0, 0)) (by (with_reducible repeat (first | refine bN_ ?_ _ | refine bW_ ?_ | refine bA_ ?_ _)); exact BK200.out) hb)
      have n3_ := Az0.mk (bP_ (by repeat (first | (with_reducible first | exact HB.out | apply baA_ | apply pbN_ | apply bD1_ | refine bS_ ?_ GE200.out) | exact HB.out)) hb)
      clear HO206
      clear BK200
      clear HB
      have HO206 := n0_
      have HO209 := n1_
      have BK200 := n2_
      have HB := n3_
      clear n0_ n1_ n2_ n3_
      clear hb ho12
      refine hK.out _ _ ⟨(bkC BK200.out 0).trans rfl, (bkC BK200.out 1).trans rfl⟩ (fun hHeld => ?_)
      clear hK K
      refine norm_ (a' := ?_) ?_ ?_
      rotate_left
      ·show Act.put _ (some 22) _ = _
       simp only [Act.put, List.setIfInBounds_toArray, List.set_cons_zero, List.set_cons_succ, i64_w, i32_w]
       rfl
      exact norm_ (by simp only [putAll, Act.put, List.setIfInBounds_toArray, List.set_cons_zero, List.set_cons_succ]) (hCont (v202, v205, v208) _ ⟨hHeld, (by (with_reducible repeat (first | apply Kd.R_alloc | apply Kd.R_drewN | apply Kd.R_drew)); exact Kd.rM_ HO206.out (fun _ hk => ⟨hk.2, hk.1⟩)), (by (with_reducible repeat (first | apply Kd.R_alloc | apply Kd.R_drewN | apply Kd.R_drew)); exact Kd.rM_ HO209.out (fun _ hk => ⟨hk.1.2, hk.2⟩)), (by (with_reducible repeat (first | refine bN_ ?_ _ | refine bW_ ?_ | refine bA_ ?_ _)); exact BK200.out), (by repeat (first | (with_reducible first | exact HB.out | apply baA_ | apply pbN_ | apply bD1_ | refine bS_ ?_ GE200.out) | exact HB.out))⟩)
     ·skip
      refine Kd.R_lit_step k36 _ 36 ?hg (N := 22) ?hd (xs := ([(⟨a1_0, a1_1⟩ : S36)] : List (S36))) (inner := [.int .i64 a1_0, .int .i64 a1_1]) (ok := fun _ => True) (okp := fun _ => True) ?hr ?hp (fun _ hk => hk) trivial (Below.refl _ _) (Nat.le_refl _) (by simp) ?_; (case hd => rfl); (case hg => rfl); (case hr => first | (go_simp; done) | (go_simp; rfl)); (case hp => exact (Reps.c2 (show Kd.M k36 _ _ _ (⟨a1_0, a1_1⟩ : S36) [.int .i64 a1_0, .int .i64 a1_1] from (k36_mkM _ _ _ (⟨a1_0, a1_1⟩ : S36) )) (Reps.none _ _)))
      intro v208 w10 ho11 hb hg_ hnew_
      clear hg_ hnew_
      (first | rw [← Ny207.out] at ho11 | (simp only [Int.reduceToNat] at ho11; rw [← Ny207.out] at ho11))
      have n0_ := Az0.mk (Kd.R_elder' (by (with_reducible repeat (first | apply Kd.R_alloc | apply Kd.R_drewN | apply Kd.R_drew)); exact HO203.out) (Kd.rB_ ho11) hb)
      have n1_ := Az0.mk (Kd.R_lower (Kd.R_newB (Kd.R_new' ho11 (Kd.R_lt (by (with_reducible repeat (first | apply Kd.R_alloc | apply Kd.R_drewN | apply Kd.R_drew)); exact HO203.out))) (g := gb200) (o := .cells #[.int .i64 a1_0, .int .i64 a1_1] 36 (0, 0)) (by (with_reducible repeat (first | refine bN_ ?_ _ | refine bW_ ?_ | refine bA_ ?_ _)); exact BK200.out)) (bZ_ (by repeat (first | (with_reducible first | exact HB.out | apply baA_ | apply pbN_ | apply bD1_ | refine bS_ ?_ GE200.out) | exact HB.out))))
      have n2_ := Az0.mk (bB_ (g := gb200) (o := .cells #[.int .i64 a1_0, .int .i64 a1_1] 36 (0, 0)) (by (with_reducible repeat (first | refine bN_ ?_ _ | refine bW_ ?_ | refine bA_ ?_ _)); exact BK200.out) hb)
      have n3_ := Az0.mk (bP_ (by repeat (first | (with_reducible first | exact HB.out | apply baA_ | apply pbN_ | apply bD1_ | refine bS_ ?_ GE200.out) | exact HB.out)) hb)
      clear HO203
      clear BK200
      clear HB
      have HO203 := n0_
      have HO209 := n1_
      have BK200 := n2_
      have HB := n3_
      clear n0_ n1_ n2_ n3_
      clear hb ho11
      refine hK.out _ _ ⟨(bkC BK200.out 0).trans rfl, (bkC BK200.out 1).trans rfl⟩ (fun hHeld => ?_)
      clear hK K
      refine norm_ (a' := ?_) ?_ ?_
      rotate_left
      ·show Act.put _ (some 22) _ = _
       simp only [Act.put, List.setIfInBounds_toArray, List.set_cons_zero, List.set_cons_succ, i64_w, i32_w]
       rfl
      refine one_ (i := 2) (N := some 20) #[true, true, true, true, true, false, false] rfl rfl (by kernel_rfl) (by decide) (fun K hK => ?_)
      refine Kd.R_append_rows_step k36 (w0 := w) w.heap.size (by rfl) (.tmp 18) (.tmp 19) 22 36 (.agg #[(.int .i64 0), (.int .i64 0)]) 16 rfl Try.underlying22 info36 rfl (by decide) (by omega) v202 y201 l0 _ _ _ (fun k_ => some k_ ≠ (v208 : Value).ownBlock ∧ k_ ≠ gb200) (fun _ => False) rfl rfl ?aO ?aR (fun _ _ h => h) (fun _ h => h.elim) ?aF ?aB ?aS ?aL ?_
      (case aR => repeat (first | exact (Kd.C_below HR0.out HB.out) | (with_reducible refine Kd.C_alloc ?_ _) | (with_reducible refine Kd.C_drewN ?_ _) | (with_reducible refine Kd.C_drew ?_)))
      (case aB => exact (by repeat (first | (with_reducible first | exact HB.out | apply baA_ | apply pbN_ | apply bD1_ | refine bS_ ?_ GE200.out) | exact HB.out)))
      (case aF => exact (fun k_ hk => ⟨Kd.fresh' (Kd.R_lt (by (with_reducible repeat (first | apply Kd.R_alloc | apply Kd.R_drewN | apply Kd.R_drew)); exact HO209.out)) k_ hk, Kd.freshB (g := gb200) (o := .cells #[.int .i64 a1_0, .int .i64 a1_1] 36 (0, 0)) (by (with_reducible repeat (first | refine bN_ ?_ _ | refine bW_ ?_ | refine bA_ ?_ _)); exact BK200.out) k_ hk⟩))
      (case aO => exact (by (with_reducible repeat (first | apply Kd.R_alloc | apply Kd.R_drewN | apply Kd.R_drew)); exact Kd.rM_ HO203.out (fun _ hk => ⟨hk.2, hk.1.2⟩)))
      (case aS => exact (bZ_ (by repeat (first | (with_reducible first | exact HB.out | apply baA_ | apply pbN_ | apply bD1_ | refine bS_ ?_ GE200.out) | exact HB.out))))
      (case aL => have := LMc3.out; omega)
      intro v205 w12 ho hb hg hat
      rw [← Ny204.out] at ho
      replace BK200 := Az0.mk (blk_grown (g := gb200) (o := .cells #[.int .i64 a1_0, .int .i64 a1_1] 36 (0, 0)) (by (with_reducible repeat (first | refine bN_ ?_ _ | refine bW_ ?_ | refine bA_ ?_ _)); exact BK200.out) hg (Kd.R_away HO203.out (fun _ hk => hk.1.2)))
      replace HO209 := Az0.mk (Kd.R_after (ok := (fun k_ => k_ ≠ gb200)) (by (with_reducible repeat (first | apply Kd.R_alloc | apply Kd.R_drewN | apply Kd.R_drew)); exact Kd.rM_ HO209.out (fun _ hk => ⟨hk.2, hk.1.2⟩)) hg hat)
      replace HB := Az0.mk (hb)
      have n3_ := Az0.mk (ho)
      clear HO203
      have HO206 := n3_
      clear n3_
      clear ho hb hg hat
      refine hK.out _ _ ⟨(bkC BK200.out 0).trans rfl, (bkC BK200.out 1).trans rfl⟩ (fun hHeld => ?_)
      clear hK K
      refine norm_ (a' := ?_) ?_ ?_
      rotate_left
      ·show Act.put _ (some 20) _ = _
       simp only [Act.put, List.setIfInBounds_toArray, List.set_cons_zero, List.set_cons_succ, i64_w, i32_w]
       rfl
      exact norm_ (by simp only [putAll, Act.put, List.setIfInBounds_toArray, List.set_cons_zero, List.set_cons_succ]) (hCont (v202, v205, v208) _ ⟨hHeld, (by (with_reducible repeat (first | apply Kd.R_alloc | apply Kd.R_drewN | apply Kd.R_drew)); exact HO206.out), (by (with_reducible repeat (first | apply Kd.R_alloc | apply Kd.R_drewN | apply Kd.R_drew)); exact Kd.rM_ HO209.out (fun _ hk => ⟨hk.2, hk.1⟩)), (by (with_reducible repeat (first | refine bN_ ?_ _ | refine bW_ ?_ | refine bA_ ?_ _)); exact BK200.out), (by repeat (first | (with_reducible first | exact HB.out | apply baA_ | apply pbN_ | apply bD1_ | refine bS_ ?_ GE200.out) | exact HB.out))⟩)
    ·skip
     refine Kd.R_lit_step k36 _ 36 ?hg (N := 22) ?hd (xs := ([(⟨a1_0, a1_1⟩ : S36)] : List (S36))) (inner := [.int .i64 a1_0, .int .i64 a1_1]) (ok := fun _ => True) (okp := fun _ => True) ?hr ?hp (fun _ hk => hk) trivial (Below.refl _ _) (Nat.le_refl _) (by simp) ?_; (case hd => rfl); (case hg => rfl); (case hr => first | (go_simp; done) | (go_simp; rfl)); (case hp => exact (Reps.c2 (show Kd.M k36 _ _ _ (⟨a1_0, a1_1⟩ : S36) [.int .i64 a1_0, .int .i64 a1_1] from (k36_mkM _ _ _ (⟨a1_0, a1_1⟩ : S36) )) (Reps.none _ _)))
     intro v208 w8 ho9 hb hg_ hnew_
     clear hg_ hnew_
     (first | rw [← Ny207.out] at ho9 | (simp only [Int.reduceToNat] at ho9; rw [← Ny207.out] at ho9))
     have n0_ := Az0.mk (Kd.R_lower (Kd.R_newB ho9 (g := gb200) (o := .cells #[.int .i64 a1_0, .int .i64 a1_1] 36 (0, 0)) (by (with_reducible repeat (first | refine bN_ ?_ _ | refine bW_ ?_ | refine bA_ ?_ _)); exact BK200.out)) (bZ_ (by repeat (first | (with_reducible first | exact HB.out | apply baA_ | apply pbN_ | apply bD1_ | refine bS_ ?_ GE200.out) | exact HB.out))))
     have n1_ := Az0.mk (bB_ (g := gb200) (o := .cells #[.int .i64 a1_0, .int .i64 a1_1] 36 (0, 0)) (by (with_reducible repeat (first | refine bN_ ?_ _ | refine bW_ ?_ | refine bA_ ?_ _)); exact BK200.out) hb)
     have n2_ := Az0.mk (bP_ (by repeat (first | (with_reducible first | exact HB.out | apply baA_ | apply pbN_ | apply bD1_ | refine bS_ ?_ GE200.out) | exact HB.out)) hb)
     clear BK200
     clear HB
     have HO209 := n0_
     have BK200 := n1_
     have HB := n2_
     clear n0_ n1_ n2_
     clear hb ho9
     refine hK.out _ _ ⟨(bkC BK200.out 0).trans rfl, (bkC BK200.out 1).trans rfl⟩ (fun hHeld => ?_)
     clear hK K
     refine norm_ (a' := ?_) ?_ ?_
     rotate_left
     ·show Act.put _ (some 22) _ = _
      simp only [Act.put, List.setIfInBounds_toArray, List.set_cons_zero, List.set_cons_succ, i64_w, i32_w]
      rfl
     refine one_ (i := 0) (N := some 18) #[true, true, false, true, true, false, false] rfl rfl (by kernel_rfl) (by decide) (fun K hK => ?_)
     refine Kd.R_lit_step k36 _ 36 ?hg (N := 18) ?hd (xs := ([] : List (S36))) (inner := []) (ok := fun _ => True) (okp := fun _ => True) ?hr ?hp (fun _ hk => hk) trivial (Below.refl _ _) (Nat.le_refl _) (by simp) ?_; (case hd => rfl); (case hg => rfl); (case hr => first | (go_simp; done) | (go_simp; rfl)); (case hp => exact (Reps.none _ _))
     intro v202 w10 ho11 hb hg_ hnew_
     clear hg_ hnew_
     (first | rw [← Ny201.out] at ho11 | (simp only [Int.reduceToNat] at ho11; rw [← Ny201.out] at ho11))
     have n0_ := Az0.mk (Kd.R_elder' (by (with_reducible repeat (first | apply Kd.R_alloc | apply Kd.R_drewN | apply Kd.R_drew)); exact HO209.out) (Kd.rB_ ho11) hb)
     have n1_ := Az0.mk (Kd.R_lower (Kd.R_newB (Kd.R_new' ho11 (Kd.R_lt (by (with_reducible repeat (first | apply Kd.R_alloc | apply Kd.R_drewN | apply Kd.R_drew)); exact HO209.out))) (g := gb200) (o := .cells #[.int .i64 a1_0, .int .i64 a1_1] 36 (0, 0)) (by (with_reducible repeat (first | refine bN_ ?_ _ | refine bW_ ?_ | refine bA_ ?_ _)); exact BK200.out)) (bZ_ (by repeat (first | (with_reducible first | exact HB.out | apply baA_ | apply pbN_ | apply bD1_ | refine bS_ ?_ GE200.out) | exact HB.out))))
     have n2_ := Az0.mk (bB_ (g := gb200) (o := .cells #[.int .i64 a1_0, .int .i64 a1_1] 36 (0, 0)) (by (with_reducible repeat (first | refine bN_ ?_ _ | refine bW_ ?_ | refine bA_ ?_ _)); exact BK200.out) hb)
     have n3_ := Az0.mk (bP_ (by repeat (first | (with_reducible first | exact HB.out | apply baA_ | apply pbN_ | apply bD1_ | refine bS_ ?_ GE200.out) | exact HB.out)) hb)
     clear HO209
     clear BK200
     clear HB
     have HO209 := n0_
     have HO203 := n1_
     have BK200 := n2_
     have HB := n3_
     clear n0_ n1_ n2_ n3_
     clear hb ho11
     refine hK.out _ _ ⟨(bkC BK200.out 0).trans rfl, (bkC BK200.out 1).trans rfl⟩ (fun hHeld => ?_)
     clear hK K
     refine norm_ (a' := ?_) ?_ ?_
     rotate_left
     ·show Act.put _ (some 18) _ = _
      simp only [Act.put, List.setIfInBounds_toArray, List.set_cons_zero, List.set_cons_succ, i64_w, i32_w]
      rfl
     refine one_ (i := 2) (N := some 20) #[true, true, true, true, true, false, false] rfl rfl (by kernel_rfl) (by decide) (fun K hK => ?_)
     refine Kd.R_append_rows_step k36 (w0 := w) w.heap.size (by rfl) (.tmp 18) (.tmp 19) 22 36 (.agg #[(.int .i64 0), (.int .i64 0)]) 16 rfl Try.underlying22 info36 rfl (by decide) (by omega) v202 y201 l0 _ _ _ (fun k_ => some k_ ≠ (v208 : Value).ownBlock ∧ k_ ≠ gb200) (fun _ => False) rfl rfl ?aO ?aR (fun _ _ h => h) (fun _ h => h.elim) ?aF ?aB ?aS ?aL ?_
     (case aR => repeat (first | exact (Kd.C_below HR0.out HB.out) | (with_reducible refine Kd.C_alloc ?_ _) | (with_reducible refine Kd.C_drewN ?_ _) | (with_reducible refine Kd.C_drew ?_)))
     (case aB => exact (by repeat (first | (with_reducible first | exact HB.out | apply baA_ | apply pbN_ | apply bD1_ | refine bS_ ?_ GE200.out) | exact HB.out)))
     (case aF => exact (fun k_ hk => ⟨Kd.fresh' (Kd.R_lt (by (with_reducible repeat (first | apply Kd.R_alloc | apply Kd.R_drewN | apply Kd.R_drew)); exact HO209.out)) k_ hk, Kd.freshB (g := gb200) (o := .cells #[.int .i64 a1_0, .int .i64 a1_1] 36 (0, 0)) (by (with_reducible repeat (first | refine bN_ ?_ _ | refine bW_ ?_ | refine bA_ ?_ _)); exact BK200.out) k_ hk⟩))
     (case aO => exact (by (with_reducible repeat (first | apply Kd.R_alloc | apply Kd.R_drewN | apply Kd.R_drew)); exact Kd.rM_ HO203.out (fun _ hk => ⟨hk.1.2, hk.2⟩)))
     (case aS => exact (bZ_ (by repeat (first | (with_reducible first | exact HB.out | apply baA_ | apply pbN_ | apply bD1_ | refine bS_ ?_ GE200.out) | exact HB.out))))
     (case aL => have := LMc3.out; omega)
     intro v205 w12 ho hb hg hat
     rw [← Ny204.out] at ho
     replace BK200 := Az0.mk (blk_grown (g := gb200) (o := .cells #[.int .i64 a1_0, .int .i64 a1_1] 36 (0, 0)) (by (with_reducible repeat (first | refine bN_ ?_ _ | refine bW_ ?_ | refine bA_ ?_ _)); exact BK200.out) hg (Kd.R_away HO203.out (fun _ hk => hk.2)))
     replace HO209 := Az0.mk (Kd.R_after (ok := (fun k_ => k_ ≠ gb200)) (by (with_reducible repeat (first | apply Kd.R_alloc | apply Kd.R_drewN | apply Kd.R_drew)); exact Kd.rM_ HO209.out (fun _ hk => ⟨hk.1.2, hk.2⟩)) hg hat)
     replace HB := Az0.mk (hb)
     have n3_ := Az0.mk (ho)
     clear HO203
     have HO206 := n3_
     clear n3_
     clear ho hb hg hat
     refine hK.out _ _ ⟨(bkC BK200.out 0).trans rfl, (bkC BK200.out 1).trans rfl⟩ (fun hHeld => ?_)
     clear hK K
     refine norm_ (a' := ?_) ?_ ?_
     rotate_left
     ·show Act.put _ (some 20) _ = _
      simp only [Act.put, List.setIfInBounds_toArray, List.set_cons_zero, List.set_cons_succ, i64_w, i32_w]
      rfl
     exact norm_ (by simp only [putAll, Act.put, List.setIfInBounds_toArray, List.set_cons_zero, List.set_cons_succ]) (hCont (v202, v205, v208) _ ⟨hHeld, (by (with_reducible repeat (first | apply Kd.R_alloc | apply Kd.R_drewN | apply Kd.R_drew)); exact HO206.out), (by (with_reducible repeat (first | apply Kd.R_alloc | apply Kd.R_drewN | apply Kd.R_drew)); exact Kd.rM_ HO209.out (fun _ hk => ⟨hk.2, hk.1⟩)), (by (with_reducible repeat (first | refine bN_ ?_ _ | refine bW_ ?_ | refine bA_ ?_ _)); exact BK200.out), (by repeat (first | (with_reducible first | exact HB.out | apply baA_ | apply pbN_ | apply bD1_ | refine bS_ ?_ GE200.out) | exact HB.out))⟩)
   rintro ⟨v202, v205, v208⟩ w13 ⟨hS_, h0_, h1_, h2_, h3_⟩
   have n0_ : Az0 (Kd.R k36 36 w13 w.heap.size (fun k_ => some k_ ≠ (v208 : Value).ownBlock ∧ k_ ≠ gb200) v205 y204) := ⟨h0_⟩
   have n1_ : Az0 (Kd.R k36 36 w13 w.heap.size (fun k_ => some k_ ≠ (v205 : Value).ownBlock ∧ k_ ≠ gb200) v208 y207) := ⟨h1_⟩
   have n2_ : Az0 (w13.heap[gb200]? = some (.cells #[.int .i64 a1_0, .int .i64 a1_1] 36 (0, 0))) := ⟨h2_⟩
   have n3_ : Az0 (Below w.heap.size w w13) := ⟨h3_⟩
   clear BK200
   clear HB
   clear h0_ h1_ h2_ h3_
   have HO206 := n0_
   have HO209 := n1_
   have BK200 := n2_
   have HB := n3_
   clear n0_ n1_ n2_ n3_
   have hHeld : w13.cell? ⟨gb200, 0, none⟩ = some (.int .i64 a1_0) ∧ w13.cell? ⟨gb200, 1, none⟩ = some (.int .i64 a1_1) := hS_
   obtain ⟨Ao15, co15, eo15⟩ := Kd.R_slice HO209.out
   (first | subst eo15 | (injection eo15 with f1_ f2_ f3_; have f4_ := f1_.symm; have f5_ := f3_.symm; clear f1_ f2_ f3_; subst f4_; subst f5_))
   refine norm_ (a' := ?_) ?_ ?_
   rotate_left
   ·simp only [putAll, Act.put, List.setIfInBounds_toArray, List.set_cons_zero, List.set_cons_succ]
    rfl
   refine one_ (i := 5) (N := some 23) #[true, true, true, true, true, true, false] rfl rfl (by kernel_rfl) (by decide) (fun K hK => ?_)
   refine Kd.R_append_rows_step k36 (w0 := w) w.heap.size (by rfl) (.tmp 20) (.tmp 22) 22 36 (.agg #[(.int .i64 0), (.int .i64 0)]) 16 rfl Try.underlying22 info36 rfl (by decide) (by omega) v205 y204 y207 _ _ _ (fun k_ => some k_ ≠ (.slice Ao15 y207.length co15 : Value).ownBlock ∧ k_ ≠ gb200) (fun _ => False) rfl rfl ?aO ?aR (fun _ _ h => h) (fun _ h => h.elim) ?aF ?aB ?aS ?aL ?_
   (case aR => repeat (first | exact (Kd.R_reads' HO209.out).2.2 | (with_reducible refine Kd.C_alloc ?_ _) | (with_reducible refine Kd.C_drewN ?_ _) | (with_reducible refine Kd.C_drew ?_)))
   (case aB => exact (by repeat (first | (with_reducible first | exact HB.out | apply baA_ | apply pbN_ | apply bD1_ | refine bS_ ?_ GE200.out) | exact HB.out)))
   (case aF => exact (fun k_ hk => ⟨Kd.fresh' (Kd.R_lt (by (with_reducible repeat (first | apply Kd.R_alloc | apply Kd.R_drewN | apply Kd.R_drew)); exact HO209.out)) k_ hk, Kd.freshB (g := gb200) (o := .cells #[.int .i64 a1_0, .int .i64 a1_1] 36 (0, 0)) (by (with_reducible repeat (first | refine bN_ ?_ _ | refine bW_ ?_ | refine bA_ ?_ _)); exact BK200.out) k_ hk⟩))
   (case aO => exact (by (with_reducible repeat (first | apply Kd.R_alloc | apply Kd.R_drewN | apply Kd.R_drew)); exact HO206.out))
   (case aS => exact (bZ_ (by repeat (first | (with_reducible first | exact HB.out | apply baA_ | apply pbN_ | apply bD1_ | refine bS_ ?_ GE200.out) | exact HB.out))))
   (case aL => have := LMc4.out; omega)
   intro v211 w14 ho hb hg hat
   rw [← Ny210.out] at ho
   replace BK200 := Az0.mk (blk_grown (g := gb200) (o := .cells #[.int .i64 a1_0, .int .i64 a1_1] 36 (0, 0)) (by (with_reducible repeat (first | refine bN_ ?_ _ | refine bW_ ?_ | refine bA_ ?_ _)); exact BK200.out) hg (Kd.R_away HO206.out (fun _ hk => hk.2)))
   replace HB := Az0.mk (hb)
   have n3_ := Az0.mk (ho)
   clear HO206
   have HO212 := n3_
   clear n3_
   clear ho hb hg hat
   refine hK.out _ _ ⟨(bkC BK200.out 0).trans rfl, (bkC BK200.out 1).trans rfl⟩ (fun hHeld => ?_)
   clear hK K
   refine norm_ (a' := ?_) ?_ ?_
   rotate_left
   ·show Act.put _ (some 23) _ = _
    simp only [Act.put, List.setIfInBounds_toArray, List.set_cons_zero, List.set_cons_succ, i64_w, i32_w]
    rfl
   refine pure_ (i := 6) (N := some 5) (v := ?_) (a' := ?_) #[true, true, true, true, true, true, true] rfl rfl (by kernel_rfl) (fun _ _ _ h => h) (Or.inl ⟨by rfl, ?_⟩) ?_ ?_
   rotate_left
   ·intro w'
    go_simp
    with_reducible rfl
   rotate_left
   ·simp only [Act.put, List.setIfInBounds_toArray, List.set_cons_zero, List.set_cons_succ, i64_w, i32_w]
    rfl
   refine done_ (by kernel_rfl) ?_
   go_upto_region 2 with (fail)
   go_cut [36] (fun v36 wc => ∃ (kq : Nat) (x36_4 : Bool), v36 = .bool x36_4 ∧ Az0 (lJL_.j0 kq l0 y210 x36_4 = some r) ∧ Az0 (kq ≤ k) ∧ Az0 (Kd.R k36 36 wc w.heap.size (fun k_ => k_ ≠ gb200) v211 y210) ∧ Az0 (wc.heap[gb200]? = some (.cells #[.int .i64 a1_0, .int .i64 a1_1] 36 (0, 0))) ∧ Az0 (Below w.heap.size w wc))
   case first =>
    have H := HC5.out
    clear HC5
    by_cases c16 : (l0.length : Int) > 20
    ·rw [if_pos c16] at H
     have c16b0 : decide (20 < (l0.length : Int)) = true := decide_eq_true c16
     have c16b1 : decide (20 < l0.length) = true := decide_eq_true (by omega)
     clear c16
     (first | rw [c16b0] | (simp only [i64_w, i32_w]; rw [c16b0]) | skip)
     have H' := Az0.mk H
     clear H
     go_wp2
     go_meet
     case rel => exact ⟨_, (true), (by first | rfl | (simp; done) | (simp [*]; done)), H', ⟨by first | omega | exact Nat.le_refl _⟩, ⟨by (with_reducible repeat (first | apply Kd.R_alloc | apply Kd.R_drewN | apply Kd.R_drew)); exact Kd.rM_ HO212.out (fun _ hk => hk.2)⟩, ⟨by (with_reducible repeat (first | refine bN_ ?_ _ | refine bW_ ?_ | refine bA_ ?_ _)); exact BK200.out⟩, ⟨by repeat (first | (with_reducible first | exact HB.out | apply baA_ | apply pbN_ | apply bD1_ | refine bS_ ?_ GE200.out) | exact HB.out)⟩⟩
    ·rw [if_neg c16] at H
     have c16b0 : decide (20 < (l0.length : Int)) = false := decide_eq_false c16
     have c16b1 : decide (20 < l0.length) = false := decide_eq_false (by omega)
     clear c16
     (first | rw [c16b0] | (simp only [i64_w, i32_w]; rw [c16b0]) | skip)
     replace H := Option.bind_eq_some_iff.mp H
     obtain ⟨t213, A170, H⟩ := H
     replace H : (if t213 = 0 then ((rLn.f k y210).bind fun t214 => (lJL_.j0 k l0 y210 (t214 != 0))) else (lJL_.j0 k l0 y210 true)) = some r := H
     have A17 := Az0.mk A170
     clear A170
     by_cases c18 : t213 = 0
     ·rw [if_pos c18] at H
      have c18b0 : (t213 == 0) = true := beq_iff_eq.mpr c18
      have c18b1 : (t213 != 0) = false := bne_eq_false_iff_eq.mpr c18
      clear c18
      replace H := Option.bind_eq_some_iff.mp H
      obtain ⟨t214, A190, H⟩ := H
      replace H : (lJL_.j0 k l0 y210 (t214 != 0)) = some r := H
      have A19 := Az0.mk A190
      clear A190
      have H' := Az0.mk H
      clear H
      go_wp2_with (first | (go_at_call 22; (with_reducible refine (rLn.calls k _ _ l0 t213 _ ?side1 ?side2 A17.out).mono ?_); (case side1 => repeat (first | exact (Kd.C_below HR0.out HB.out) | (with_reducible refine Kd.C_alloc ?_ _) | (with_reducible refine Kd.C_drewN ?_ _) | (with_reducible refine Kd.C_drew ?_))); (case side2 => exact HC0.out); rintro e w' ⟨rfl, ⟨nd, rfl⟩⟩; obtain ⟨Ao20, co20, eo20⟩ := Kd.R_slice HO212.out; subst eo20) | (go_at_call 22; (with_reducible refine (rLn.calls k _ _ y210 t214 _ ?side1 ?side2 A19.out).mono ?_); (case side1 => repeat (first | exact (Kd.R_reads' HO212.out).2.2 | (with_reducible refine Kd.C_alloc ?_ _) | (with_reducible refine Kd.C_drewN ?_ _) | (with_reducible refine Kd.C_drew ?_))); (case side2 => exact (Kd.R_reads' HO212.out).2.1); rintro e w' ⟨rfl, ⟨nd, rfl⟩⟩))
      go_meet
      case rel => exact ⟨_, ((t214 != 0)), (by first | rfl | (simp; done) | (simp [*]; done)), H', ⟨by first | omega | exact Nat.le_refl _⟩, ⟨by (with_reducible repeat (first | apply Kd.R_alloc | apply Kd.R_drewN | apply Kd.R_drew)); exact Kd.rM_ HO212.out (fun _ hk => hk.2)⟩, ⟨by (with_reducible repeat (first | refine bN_ ?_ _ | refine bW_ ?_ | refine bA_ ?_ _)); exact BK200.out⟩, ⟨by repeat (first | (with_reducible first | exact HB.out | apply baA_ | apply pbN_ | apply bD1_ | refine bS_ ?_ GE200.out) | exact HB.out)⟩⟩
     ·rw [if_neg c18] at H
      have c18b0 : (t213 == 0) = false := beq_eq_false_iff_ne.mpr c18
      have c18b1 : (t213 != 0) = true := bne_iff_ne.mpr c18
      have H' := Az0.mk H
      clear H
      go_wp2_with (first | (go_at_call 22; (with_reducible refine (rLn.calls k _ _ l0 t213 _ ?side1 ?side2 A17.out).mono ?_); (case side1 => repeat (first | exact (Kd.C_below HR0.out HB.out) | (with_reducible refine Kd.C_alloc ?_ _) | (with_reducible refine Kd.C_drewN ?_ _) | (with_reducible refine Kd.C_drew ?_))); (case side2 => exact HC0.out); rintro e w' ⟨rfl, ⟨nd, rfl⟩⟩))
      go_meet
      case rel => exact ⟨_, (true), (by first | rfl | (simp; done) | (simp [*]; done)), H', ⟨by first | omega | exact Nat.le_refl _⟩, ⟨by (with_reducible repeat (first | apply Kd.R_alloc | apply Kd.R_drewN | apply Kd.R_drew)); exact Kd.rM_ HO212.out (fun _ hk => hk.2)⟩, ⟨by (with_reducible repeat (first | refine bN_ ?_ _ | refine bW_ ?_ | refine bA_ ?_ _)); exact BK200.out⟩, ⟨by repeat (first | (with_reducible first | exact HB.out | apply baA_ | apply pbN_ | apply bD1_ | refine bS_ ?_ GE200.out) | exact HB.out)⟩⟩
   case rest =>
    clear HC5
    try clear c1
    try clear c2
    try clear p2
    try clear c3
    try clear c4
    try clear c5
    try clear c16
    try clear c16b0
    try clear c16b1
    try clear c18
    try clear c18b0
    try clear c18b1
    obtain ⟨kq, x36_4, rfl, HA, HJ4, HO_5, BK200, HB⟩ := hcut
    cases kq with
    | zero => exact absurd HA.out (by simp [lJL_.j0])
    | succ kj4 =>
     have H := HA.out
     clear HA
     simp only [lJL_.j0] at H
     by_cases c21 : x36_4 = true
     ·subst c21
      have H1 : ((lAl_.f kj4).bind fun t215 => (some t215)) = some r := by rw [if_pos rfl] at H; exact H
      clear H
      have H := H1
      clear H1
      replace H := Option.bind_eq_some_iff.mp H
      obtain ⟨t215, A220, H⟩ := H
      replace H : (some t215) = some r := H
      have A22 := Az0.mk A220
      clear A220
      obtain rfl := Option.some.inj H
      go_wp2_with (first | ((with_reducible refine gate_callee (f := 16) rfl ?_); refine goesL_ (some 37) rfl rfl Try.func16 (by kernel_rfl) rfl #[] rfl (by (try simp only [List.map_toArray, List.map_cons, List.map_nil]); first | done | rfl | (simp only [List.length_drop, List.length_take]; rfl)) ?_; (with_reducible refine (lAl_.calls kj4  t215 _ A22.out).mono ?_); rintro e w23 ⟨rfl, hb⟩; refine ⟨_, rfl, ?_⟩; replace HO_5 := Az0.mk (Kd.rW_ (by (with_reducible repeat (first | apply Kd.R_alloc | apply Kd.R_drewN | apply Kd.R_drew)); exact HO_5.out) hb); replace BK200 := Az0.mk (bB_ (g := gb200) (o := .cells #[.int .i64 a1_0, .int .i64 a1_1] 36 (0, 0)) (by (with_reducible repeat (first | refine bN_ ?_ _ | refine bW_ ?_ | refine bA_ ?_ _)); exact BK200.out) hb); replace HB := Az0.mk (bP_ (by repeat (first | (with_reducible first | exact HB.out | apply baA_ | apply pbN_ | apply bD1_ | refine bS_ ?_ GE200.out) | exact HB.out)) hb); (try clear hb); (try clear hb2); (try clear hk); (try clear hi)))
      go_ret
      exact ⟨by first | rfl | (simp [errW_none, errW_some] <;> rfl) | (simp [*, errW_none, errW_some] <;> rfl), by repeat (first | (with_reducible first | exact HB.out | apply baA_ | apply pbN_ | apply bD1_ | refine bS_ ?_ GE200.out) | exact HB.out)⟩
     ·replace c21 := Bool.eq_false_iff.mpr c21
      subst c21
      have H1 : ((jam_Balance.f kj4 l0).bind fun bt216 => ((jam_Balance.f kj4 y210).bind fun bt225 => ((jCh_.f kj4 l0).bind fun bt234 => ((jCh_.f kj4 y210).bind fun bt243 => (if bt216.2.2.2.2 = 0 then (if bt225.2.2.2.2 = 0 then (if bt234.2.2.2.2 = 0 then (if bt243.2.2.2.2 = 0 then (if bt216.2.2.2.1 < 1 then (lJL_.j1 kj4 true bt216.2.2.1 bt216.2.2.2.1 bt225.2.2.1 bt225.2.2.2.1 bt234.2.2.1 bt234.2.2.2.1 bt243.2.2.1 bt243.2.2.2.1) else (if bt225.2.2.2.1 < 1 then (lJL_.j1 kj4 true bt216.2.2.1 bt216.2.2.2.1 bt225.2.2.1 bt225.2.2.2.1 bt234.2.2.1 bt234.2.2.2.1 bt243.2.2.1 bt243.2.2.2.1) else (if bt234.2.2.2.1 < 1 then (lJL_.j1 kj4 true bt216.2.2.1 bt216.2.2.2.1 bt225.2.2.1 bt225.2.2.2.1 bt234.2.2.1 bt234.2.2.2.1 bt243.2.2.1 bt243.2.2.2.1) else (lJL_.j1 kj4 (decide (bt243.2.2.2.1 < 1)) bt216.2.2.1 bt216.2.2.2.1 bt225.2.2.1 bt225.2.2.2.1 bt234.2.2.1 bt234.2.2.2.1 bt243.2.2.1 bt243.2.2.2.1)))) else (lJL_.j1 kj4 true bt216.2.2.1 bt216.2.2.2.1 bt225.2.2.1 bt225.2.2.2.1 bt234.2.2.1 bt234.2.2.2.1 bt243.2.2.1 bt243.2.2.2.1)) else (lJL_.j1 kj4 true bt216.2.2.1 bt216.2.2.2.1 bt225.2.2.1 bt225.2.2.2.1 bt234.2.2.1 bt234.2.2.2.1 bt243.2.2.1 bt243.2.2.2.1)) else (lJL_.j1 kj4 true bt216.2.2.1 bt216.2.2.2.1 bt225.2.2.1 bt225.2.2.2.1 bt234.2.2.1 bt234.2.2.2.1 bt243.2.2.1 bt243.2.2.2.1)) else (lJL_.j1 kj4 true bt216.2.2.1 bt216.2.2.2.1 bt225.2.2.1 bt225.2.2.2.1 bt234.2.2.1 bt234.2.2.2.1 bt243.2.2.1 bt243.2.2.2.1)))))) = some r := by rw [if_neg (show ¬ (false = true) by decide)] at H; exact H
      clear H
      have H := H1
      clear H1
      replace H := Option.bind_eq_some_iff.mp H
      obtain ⟨⟨t216, t219, t220, t221, t222⟩, A240, H⟩ := H
      replace H : ((jam_Balance.f kj4 y210).bind fun bt225 => ((jCh_.f kj4 l0).bind fun bt234 => ((jCh_.f kj4 y210).bind fun bt243 => (if t222 = 0 then (if bt225.2.2.2.2 = 0 then (if bt234.2.2.2.2 = 0 then (if bt243.2.2.2.2 = 0 then (if t221 < 1 then (lJL_.j1 kj4 true t220 t221 bt225.2.2.1 bt225.2.2.2.1 bt234.2.2.1 bt234.2.2.2.1 bt243.2.2.1 bt243.2.2.2.1) else (if bt225.2.2.2.1 < 1 then (lJL_.j1 kj4 true t220 t221 bt225.2.2.1 bt225.2.2.2.1 bt234.2.2.1 bt234.2.2.2.1 bt243.2.2.1 bt243.2.2.2.1) else (if bt234.2.2.2.1 < 1 then (lJL_.j1 kj4 true t220 t221 bt225.2.2.1 bt225.2.2.2.1 bt234.2.2.1 bt234.2.2.2.1 bt243.2.2.1 bt243.2.2.2.1) else (lJL_.j1 kj4 (decide (bt243.2.2.2.1 < 1)) t220 t221 bt225.2.2.1 bt225.2.2.2.1 bt234.2.2.1 bt234.2.2.2.1 bt243.2.2.1 bt243.2.2.2.1)))) else (lJL_.j1 kj4 true t220 t221 bt225.2.2.1 bt225.2.2.2.1 bt234.2.2.1 bt234.2.2.2.1 bt243.2.2.1 bt243.2.2.2.1)) else (lJL_.j1 kj4 true t220 t221 bt225.2.2.1 bt225.2.2.2.1 bt234.2.2.1 bt234.2.2.2.1 bt243.2.2.1 bt243.2.2.2.1)) else (lJL_.j1 kj4 true t220 t221 bt225.2.2.1 bt225.2.2.2.1 bt234.2.2.1 bt234.2.2.2.1 bt243.2.2.1 bt243.2.2.2.1)) else (lJL_.j1 kj4 true t220 t221 bt225.2.2.1 bt225.2.2.2.1 bt234.2.2.1 bt234.2.2.2.1 bt243.2.2.1 bt243.2.2.2.1))))) = some r := H
      have A24 := Az0.mk A240
      clear A240
      replace H := Option.bind_eq_some_iff.mp H
      obtain ⟨⟨t225, t228, t229, t230, t231⟩, A250, H⟩ := H
      replace H : ((jCh_.f kj4 l0).bind fun bt234 => ((jCh_.f kj4 y210).bind fun bt243 => (if t222 = 0 then (if t231 = 0 then (if bt234.2.2.2.2 = 0 then (if bt243.2.2.2.2 = 0 then (if t221 < 1 then (lJL_.j1 kj4 true t220 t221 t229 t230 bt234.2.2.1 bt234.2.2.2.1 bt243.2.2.1 bt243.2.2.2.1) else (if t230 < 1 then (lJL_.j1 kj4 true t220 t221 t229 t230 bt234.2.2.1 bt234.2.2.2.1 bt243.2.2.1 bt243.2.2.2.1) else (if bt234.2.2.2.1 < 1 then (lJL_.j1 kj4 true t220 t221 t229 t230 bt234.2.2.1 bt234.2.2.2.1 bt243.2.2.1 bt243.2.2.2.1) else (lJL_.j1 kj4 (decide (bt243.2.2.2.1 < 1)) t220 t221 t229 t230 bt234.2.2.1 bt234.2.2.2.1 bt243.2.2.1 bt243.2.2.2.1)))) else (lJL_.j1 kj4 true t220 t221 t229 t230 bt234.2.2.1 bt234.2.2.2.1 bt243.2.2.1 bt243.2.2.2.1)) else (lJL_.j1 kj4 true t220 t221 t229 t230 bt234.2.2.1 bt234.2.2.2.1 bt243.2.2.1 bt243.2.2.2.1)) else (lJL_.j1 kj4 true t220 t221 t229 t230 bt234.2.2.1 bt234.2.2.2.1 bt243.2.2.1 bt243.2.2.2.1)) else (lJL_.j1 kj4 true t220 t221 t229 t230 bt234.2.2.1 bt234.2.2.2.1 bt243.2.2.1 bt243.2.2.2.1)))) = some r := H
      have A25 := Az0.mk A250
      clear A250
      replace H := Option.bind_eq_some_iff.mp H
      obtain ⟨⟨t234, t237, t238, t239, t240⟩, A260, H⟩ := H
      replace H : ((jCh_.f kj4 y210).bind fun bt243 => (if t222 = 0 then (if t231 = 0 then (if t240 = 0 then (if bt243.2.2.2.2 = 0 then (if t221 < 1 then (lJL_.j1 kj4 true t220 t221 t229 t230 t238 t239 bt243.2.2.1 bt243.2.2.2.1) else (if t230 < 1 then (lJL_.j1 kj4 true t220 t221 t229 t230 t238 t239 bt243.2.2.1 bt243.2.2.2.1) else (if t239 < 1 then (lJL_.j1 kj4 true t220 t221 t229 t230 t238 t239 bt243.2.2.1 bt243.2.2.2.1) else (lJL_.j1 kj4 (decide (bt243.2.2.2.1 < 1)) t220 t221 t229 t230 t238 t239 bt243.2.2.1 bt243.2.2.2.1)))) else (lJL_.j1 kj4 true t220 t221 t229 t230 t238 t239 bt243.2.2.1 bt243.2.2.2.1)) else (lJL_.j1 kj4 true t220 t221 t229 t230 t238 t239 bt243.2.2.1 bt243.2.2.2.1)) else (lJL_.j1 kj4 true t220 t221 t229 t230 t238 t239 bt243.2.2.1 bt243.2.2.2.1)) else (lJL_.j1 kj4 true t220 t221 t229 t230 t238 t239 bt243.2.2.1 bt243.2.2.2.1))) = some r := H
      have A26 := Az0.mk A260
      clear A260
      replace H := Option.bind_eq_some_iff.mp H
      obtain ⟨⟨t243, t246, t247, t248, t249⟩, A270, H⟩ := H
      replace H : (if t222 = 0 then (if t231 = 0 then (if t240 = 0 then (if t249 = 0 then (if t221 < 1 then (lJL_.j1 kj4 true t220 t221 t229 t230 t238 t239 t247 t248) else (if t230 < 1 then (lJL_.j1 kj4 true t220 t221 t229 t230 t238 t239 t247 t248) else (if t239 < 1 then (lJL_.j1 kj4 true t220 t221 t229 t230 t238 t239 t247 t248) else (lJL_.j1 kj4 (decide (t248 < 1)) t220 t221 t229 t230 t238 t239 t247 t248)))) else (lJL_.j1 kj4 true t220 t221 t229 t230 t238 t239 t247 t248)) else (lJL_.j1 kj4 true t220 t221 t229 t230 t238 t239 t247 t248)) else (lJL_.j1 kj4 true t220 t221 t229 t230 t238 t239 t247 t248)) else (lJL_.j1 kj4 true t220 t221 t229 t230 t238 t239 t247 t248)) = some r := H
      have A27 := Az0.mk A270
      clear A270
      have HC28 := Az0.mk H
      clear H
      go_upto_region 8 with (first | ((with_reducible refine gate_callee (f := 17) rfl ?_); refine goesL_ (some 40) rfl rfl Try.func17 (by kernel_rfl) rfl #[.slice A0 l0.length c0] rfl (by (try simp only [List.map_toArray, List.map_cons, List.map_nil]); first | done | rfl | (simp only [List.length_drop, List.length_take]; rfl)) ?_; (with_reducible refine (jam_Balance.calls kj4 _ _ l0 t216 t219 t220 t221 t222 _ ?side1 ?side2 A24.out).mono ?_); (case side1 => repeat (first | exact (Kd.C_below HR0.out HB.out) | (with_reducible refine Kd.C_alloc ?_ _) | (with_reducible refine Kd.C_drewN ?_ _) | (with_reducible refine Kd.C_drew ?_))); (case side2 => exact HC0.out); rintro e w29 ⟨v217, rfl, ho0, hb⟩; refine ⟨_, rfl, ?_⟩; replace HO_5 := Az0.mk (Kd.rW_ (by (with_reducible repeat (first | apply Kd.R_alloc | apply Kd.R_drewN | apply Kd.R_drew)); exact HO_5.out) hb); have n1_ := Az0.mk (Kd.R_lower ho0 (bZ_ (by repeat (first | (with_reducible first | exact HB.out | apply baA_ | apply pbN_ | apply bD1_ | refine bS_ ?_ GE200.out) | exact HB.out)))); replace BK200 := Az0.mk (bB_ (g := gb200) (o := .cells #[.int .i64 a1_0, .int .i64 a1_1] 36 (0, 0)) (by (with_reducible repeat (first | refine bN_ ?_ _ | refine bW_ ?_ | refine bA_ ?_ _)); exact BK200.out) hb); have n3_ := Az0.mk (bP_ (by repeat (first | (with_reducible first | exact HB.out | apply baA_ | apply pbN_ | apply bD1_ | refine bS_ ?_ GE200.out) | exact HB.out)) hb); clear HB; have HO218 := n1_; have HB := n3_; clear n1_ n3_; (try clear hb); (try clear hb2); (try clear hk); (try clear hi); (try clear ho0)) | ((with_reducible refine gD_ (N := 6) rfl ?_); refine bE_ ?hg (N := 6) ?hd (cs := #[.slice none 0 0, .int .i64 0]) (t := 26) ?hr ?_; (case hd => rfl); (case hg => rfl); (case hr => first | (go_simp; done) | (go_simp; rfl)); intro gb223 hg w30 hbox hb; replace HO_5 := Az0.mk (Kd.rW_ (by (with_reducible repeat (first | apply Kd.R_alloc | apply Kd.R_drewN | apply Kd.R_drew)); exact HO_5.out) hb); replace HO218 := Az0.mk (Kd.rW_ (by (with_reducible repeat (first | apply Kd.R_alloc | apply Kd.R_drewN | apply Kd.R_drew)); exact HO218.out) hb); have n2_ := Az0.mk (bB_ (g := gb200) (o := .cells #[.int .i64 a1_0, .int .i64 a1_1] 36 (0, 0)) (by (with_reducible repeat (first | refine bN_ ?_ _ | refine bW_ ?_ | refine bA_ ?_ _)); exact BK200.out) hb); have n3_ := Az0.mk (bP_ (by repeat (first | (with_reducible first | exact HB.out | apply baA_ | apply pbN_ | apply bD1_ | refine bS_ ?_ GE200.out) | exact HB.out)) hb); have n4_ := Az0.mk (hbox); have n5_ := Az0.mk ((by rw [hg]; exact (bZ_ (by repeat (first | (with_reducible first | exact HB.out | apply baA_ | apply pbN_ | apply bD1_ | refine bS_ ?_ GE200.out) | exact HB.out))) : w.heap.size ≤ gb223)); have n6_ := Az0.mk ((by rw [hg]; exact (bZ_ (by repeat (first | (with_reducible first | exact HB.out | apply baA_ | apply pbN_ | apply bD1_ | refine bS_ ?_ GE200.out) | exact HB.out))) : w.heap.size ≤ gb223)); have n7_ := Az0.mk ((by rw [hg]; exact Nat.ne_of_lt (bL_ (g := gb200) (o := .cells #[.int .i64 a1_0, .int .i64 a1_1] 36 (0, 0)) (by (with_reducible repeat (first | refine bN_ ?_ _ | refine bW_ ?_ | refine bA_ ?_ _)); exact BK200.out)) : gb200 ≠ gb223)); have n8_ := Az0.mk ((by rw [hg]; exact Nat.ne_of_gt (bL_ (g := gb200) (o := .cells #[.int .i64 a1_0, .int .i64 a1_1] 36 (0, 0)) (by (with_reducible repeat (first | refine bN_ ?_ _ | refine bW_ ?_ | refine bA_ ?_ _)); exact BK200.out)) : gb223 ≠ gb200)); clear BK200; clear HB; have BK200 := n2_; have HB := n3_; have BK223 := n4_; have GW223 := n5_; have GE223 := n6_; have NB200_223 := n7_; have NB223_200 := n8_; clear n2_ n3_ n4_ n5_ n6_ n7_ n8_; clear hb hbox hg) | ((with_reducible refine gD_ (N := 7) rfl ?_); refine bE_ ?hg (N := 7) ?hd (cs := #[.int .i64 0, .int .i64 0]) (t := 28) ?hr ?_; (case hd => rfl); (case hg => rfl); (case hr => first | (go_simp; done) | (go_simp; rfl)); intro gb224 hg w31 hbox hb; replace HO_5 := Az0.mk (Kd.rW_ (by (with_reducible repeat (first | apply Kd.R_alloc | apply Kd.R_drewN | apply Kd.R_drew)); exact HO_5.out) hb); replace HO218 := Az0.mk (Kd.rW_ (by (with_reducible repeat (first | apply Kd.R_alloc | apply Kd.R_drewN | apply Kd.R_drew)); exact HO218.out) hb); have n2_ := Az0.mk (bB_ (g := gb200) (o := .cells #[.int .i64 a1_0, .int .i64 a1_1] 36 (0, 0)) (by (with_reducible repeat (first | refine bN_ ?_ _ | refine bW_ ?_ | refine bA_ ?_ _)); exact BK200.out) hb); have n3_ := Az0.mk (bB_ (g := gb223) (o := .cells #[.slice none 0 0, .int .i64 0] 26 (0, 0)) (by (with_reducible repeat (first | refine bN_ ?_ _ | refine bW_ ?_ | refine bA_ ?_ _)); exact BK223.out) hb); have n4_ := Az0.mk (bP_ (by repeat (first | (with_reducible first | exact HB.out | apply baA_ | apply pbN_ | apply bD1_ | refine bS_ ?_ GE200.out | refine bS_ ?_ GE223.out) | exact HB.out)) hb); have n5_ := Az0.mk (hbox); have n6_ := Az0.mk ((by rw [hg]; exact (bZ_ (by repeat (first | (with_reducible first | exact HB.out | apply baA_ | apply pbN_ | apply bD1_ | refine bS_ ?_ GE200.out | refine bS_ ?_ GE223.out) | exact HB.out))) : w.heap.size ≤ gb224)); have n7_ := Az0.mk ((by rw [hg]; exact (bZ_ (by repeat (first | (with_reducible first | exact HB.out | apply baA_ | apply pbN_ | apply bD1_ | refine bS_ ?_ GE200.out | refine bS_ ?_ GE223.out) | exact HB.out))) : w.heap.size ≤ gb224)); have n8_ := Az0.mk ((by rw [hg]; exact Nat.ne_of_lt (bL_ (g := gb200) (o := .cells #[.int .i64 a1_0, .int .i64 a1_1] 36 (0, 0)) (by (with_reducible repeat (first | refine bN_ ?_ _ | refine bW_ ?_ | refine bA_ ?_ _)); exact BK200.out)) : gb200 ≠ gb224)); have n9_ := Az0.mk ((by rw [hg]; exact Nat.ne_of_gt (bL_ (g := gb200) (o := .cells #[.int .i64 a1_0, .int .i64 a1_1] 36 (0, 0)) (by (with_reducible repeat (first | refine bN_ ?_ _ | refine bW_ ?_ | refine bA_ ?_ _)); exact BK200.out)) : gb224 ≠ gb200)); have n10_ := Az0.mk ((by rw [hg]; exact Nat.ne_of_lt (bL_ (g := gb223) (o := .cells #[.slice none 0 0, .int .i64 0] 26 (0, 0)) (by (with_reducible repeat (first | refine bN_ ?_ _ | refine bW_ ?_ | refine bA_ ?_ _)); exact BK223.out)) : gb223 ≠ gb224)); have n11_ := Az0.mk ((by rw [hg]; exact Nat.ne_of_gt (bL_ (g := gb223) (o := .cells #[.slice none 0 0, .int .i64 0] 26 (0, 0)) (by (with_reducible repeat (first | refine bN_ ?_ _ | refine bW_ ?_ | refine bA_ ?_ _)); exact BK223.out)) : gb224 ≠ gb223)); clear BK200; clear BK223; clear HB; have BK200 := n2_; have BK223 := n3_; have HB := n4_; have BK224 := n5_; have GW224 := n6_; have GE224 := n7_; have NB200_224 := n8_; have NB224_200 := n9_; have NB223_224 := n10_; have NB224_223 := n11_; clear n2_ n3_ n4_ n5_ n6_ n7_ n8_ n9_ n10_ n11_; clear hb hbox hg; obtain ⟨Ao32, co32, eo32⟩ := Kd.R_slice HO218.out; subst eo32; have hnb33 := NB223_200.out; have hnc33 := NB200_223.out; have hnb34 := NB223_224.out; have hnc34 := NB224_223.out; have hcz35_0 : w31.cell? ⟨gb223, 0, none⟩ = some (.slice none 0 0) := (bkC BK223.out 0).trans rfl; have hcz35_1 : w31.cell? ⟨gb223, 1, none⟩ = some (.int .i64 0) := (bkC BK223.out 1).trans rfl; have hfz35_0 := bF_ BK223.out 0; have hfz35_1 := bF_ BK223.out 1; have hnb36 := NB224_200.out; have hnc36 := NB200_224.out; have hcz37_0 : w31.cell? ⟨gb224, 0, none⟩ = some (.int .i64 0) := (bkC BK224.out 0).trans rfl; have hcz37_1 : w31.cell? ⟨gb224, 1, none⟩ = some (.int .i64 0) := (bkC BK224.out 1).trans rfl; have hfz37_0 := bF_ BK224.out 0; have hfz37_1 := bF_ BK224.out 1; obtain ⟨Ao38, co38, eo38⟩ := Kd.R_slice HO_5.out; subst eo38) | ((with_reducible refine gate_callee (f := 17) rfl ?_); refine goesL_ (some 46) rfl rfl Try.func17 (by kernel_rfl) rfl #[.slice Ao38 y210.length co38] rfl (by (try simp only [List.map_toArray, List.map_cons, List.map_nil]); first | done | rfl | (simp only [List.length_drop, List.length_take]; rfl)) ?_; (with_reducible refine (jam_Balance.calls kj4 _ _ y210 t225 t228 t229 t230 t231 _ ?side1 ?side2 A25.out).mono ?_); (case side1 => refine (Kd.R_reads' (e := 36) (base := w.heap.size) (ok := fun k_ => k_ ≠ gb200) (n := y210.length) (c := co38) ?_).2.2; exact (by (with_reducible repeat (first | apply Kd.R_alloc | apply Kd.R_drewN | apply Kd.R_drew)); exact (Kd.rM_ (Kd.rM_ (Kd.rF_ (p := ⟨gb224, 1, none⟩) (Kd.rF_ (p := ⟨gb224, 0, none⟩) (Kd.rF_ (p := ⟨gb223, 1, none⟩) (Kd.rF_ (p := ⟨gb223, 0, none⟩) (Kd.rY_ (Kd.rY_ HO_5.out BK223.out (by decide)) BK224.out (by decide)) (fun _ hk => hk.1.2) (.slice Ao32 t216.length co32)) (fun _ hk => hk.1.2) (.int .i64 t219)) (fun _ hk => hk.2) (.int .i64 t220)) (fun _ hk => hk.2) (.int .i64 t221)) (fun _ h_ => h_.1)) (fun _ h_ => h_.1)))); (case side2 => exact (Kd.R_reads' HO_5.out).2.1); rintro e w39 ⟨v226, rfl, ho0, hb⟩; refine ⟨_, rfl, ?_⟩; have n0_ := Az0.mk (Kd.rW_ (by (with_reducible repeat (first | apply Kd.R_alloc | apply Kd.R_drewN | apply Kd.R_drew)); exact (Kd.rM_ (Kd.rM_ (Kd.rF_ (p := ⟨gb224, 1, none⟩) (Kd.rF_ (p := ⟨gb224, 0, none⟩) (Kd.rF_ (p := ⟨gb223, 1, none⟩) (Kd.rF_ (p := ⟨gb223, 0, none⟩) (Kd.rY_ (Kd.rY_ HO_5.out BK223.out (by decide)) BK224.out (by decide)) (fun _ hk => hk.1.2) (.slice Ao32 t216.length co32)) (fun _ hk => hk.1.2) (.int .i64 t219)) (fun _ hk => hk.2) (.int .i64 t220)) (fun _ hk => hk.2) (.int .i64 t221)) (fun _ h_ => h_.1)) (fun _ h_ => h_.1))) hb); have n1_ := Az0.mk (Kd.R_elder' (by (with_reducible repeat (first | apply Kd.R_alloc | apply Kd.R_drewN | apply Kd.R_drew)); exact (Kd.rM_ (Kd.rM_ (Kd.rF_ (p := ⟨gb224, 1, none⟩) (Kd.rF_ (p := ⟨gb224, 0, none⟩) (Kd.rF_ (p := ⟨gb223, 1, none⟩) (Kd.rF_ (p := ⟨gb223, 0, none⟩) (Kd.rY_ (Kd.rY_ HO218.out BK223.out (by decide)) BK224.out (by decide)) (fun _ hk => hk.1.2) (.slice Ao32 t216.length co32)) (fun _ hk => hk.1.2) (.int .i64 t219)) (fun _ hk => hk.2) (.int .i64 t220)) (fun _ hk => hk.2) (.int .i64 t221)) (fun _ h_ => h_.1)) (fun _ h_ => h_.1))) (Kd.rB_ ho0) hb); have n2_ := Az0.mk (Kd.R_lower (Kd.R_new' ho0 (Kd.R_lt (by (with_reducible repeat (first | apply Kd.R_alloc | apply Kd.R_drewN | apply Kd.R_drew)); exact (Kd.rM_ (Kd.rM_ (Kd.rF_ (p := ⟨gb224, 1, none⟩) (Kd.rF_ (p := ⟨gb224, 0, none⟩) (Kd.rF_ (p := ⟨gb223, 1, none⟩) (Kd.rF_ (p := ⟨gb223, 0, none⟩) (Kd.rY_ (Kd.rY_ HO218.out BK223.out (by decide)) BK224.out (by decide)) (fun _ hk => hk.1.2) (.slice Ao32 t216.length co32)) (fun _ hk => hk.1.2) (.int .i64 t219)) (fun _ hk => hk.2) (.int .i64 t220)) (fun _ hk => hk.2) (.int .i64 t221)) (fun _ h_ => h_.1)) (fun _ h_ => h_.1))))) (bZ_ (by repeat (first | (with_reducible first | exact HB.out | apply baA_ | apply pbN_ | apply bD1_ | refine bS_ ?_ GE200.out | refine bS_ ?_ GE223.out | refine bS_ ?_ GE224.out) | exact HB.out)))); replace BK200 := Az0.mk (bB_ (g := gb200) (o := .cells #[.int .i64 a1_0, .int .i64 a1_1] 36 (0, 0)) (by (with_reducible repeat (first | refine bN_ ?_ _ | refine bW_ ?_ | refine bA_ ?_ _)); refine bR_ ?_ NB200_224.out _; (with_reducible repeat (first | refine bN_ ?_ _ | refine bW_ ?_ | refine bA_ ?_ _)); refine bR_ ?_ NB200_224.out _; (with_reducible repeat (first | refine bN_ ?_ _ | refine bW_ ?_ | refine bA_ ?_ _)); refine bR_ ?_ NB200_223.out _; (with_reducible repeat (first | refine bN_ ?_ _ | refine bW_ ?_ | refine bA_ ?_ _)); refine bR_ ?_ NB200_223.out _; (with_reducible repeat (first | refine bN_ ?_ _ | refine bW_ ?_ | refine bA_ ?_ _)); exact BK200.out) hb); have n4_ := Az0.mk (bB_ (g := gb223) (o := .cells #[.slice Ao32 t216.length co32, .int .i64 t219] 26 (0, 0)) (by (with_reducible repeat (first | refine bN_ ?_ _ | refine bW_ ?_ | refine bA_ ?_ _)); refine bR_ ?_ NB223_224.out _; (with_reducible repeat (first | refine bN_ ?_ _ | refine bW_ ?_ | refine bA_ ?_ _)); refine bR_ ?_ NB223_224.out _; (with_reducible repeat (first | refine bN_ ?_ _ | refine bW_ ?_ | refine bA_ ?_ _)); refine blk_put (cs := #[.slice Ao32 t216.length co32, .int .i64 0]) ?_ 1 _ rfl; (with_reducible repeat (first | refine bN_ ?_ _ | refine bW_ ?_ | refine bA_ ?_ _)); refine blk_put (cs := #[.slice none 0 0, .int .i64 0]) ?_ 0 _ rfl; (with_reducible repeat (first | refine bN_ ?_ _ | refine bW_ ?_ | refine bA_ ?_ _)); exact BK223.out) hb); have n5_ := Az0.mk (bB_ (g := gb224) (o := .cells #[.int .i64 t220, .int .i64 t221] 28 (0, 0)) (by (with_reducible repeat (first | refine bN_ ?_ _ | refine bW_ ?_ | refine bA_ ?_ _)); refine blk_put (cs := #[.int .i64 t220, .int .i64 0]) ?_ 1 _ rfl; (with_reducible repeat (first | refine bN_ ?_ _ | refine bW_ ?_ | refine bA_ ?_ _)); refine blk_put (cs := #[.int .i64 0, .int .i64 0]) ?_ 0 _ rfl; (with_reducible repeat (first | refine bN_ ?_ _ | refine bW_ ?_ | refine bA_ ?_ _)); refine bR_ ?_ NB224_223.out _; (with_reducible repeat (first | refine bN_ ?_ _ | refine bW_ ?_ | refine bA_ ?_ _)); refine bR_ ?_ NB224_223.out _; (with_reducible repeat (first | refine bN_ ?_ _ | refine bW_ ?_ | refine bA_ ?_ _)); exact BK224.out) hb); have n6_ := Az0.mk (bP_ (by repeat (first | (with_reducible first | exact HB.out | apply baA_ | apply pbN_ | apply bD1_ | refine bS_ ?_ GE200.out | refine bS_ ?_ GE223.out | refine bS_ ?_ GE224.out) | exact HB.out)) hb); clear HO_5; clear HO218; clear BK223; clear BK224; clear HB; have HO_5 := n0_; have HO218 := n1_; have HO227 := n2_; have BK223 := n4_; have BK224 := n5_; have HB := n6_; clear n0_ n1_ n2_ n4_ n5_ n6_; (try clear hb); (try clear hb2); (try clear hk); (try clear hi); (try clear ho0)) | ((with_reducible refine gD_ (N := 9) rfl ?_); refine bE_ ?hg (N := 9) ?hd (cs := #[.slice none 0 0, .int .i64 0]) (t := 26) ?hr ?_; (case hd => rfl); (case hg => rfl); (case hr => first | (go_simp; done) | (go_simp; rfl)); intro gb232 hg w40 hbox hb; replace HO_5 := Az0.mk (Kd.rW_ (by (with_reducible repeat (first | apply Kd.R_alloc | apply Kd.R_drewN | apply Kd.R_drew)); exact HO_5.out) hb); replace HO218 := Az0.mk (Kd.rW_ (by (with_reducible repeat (first | apply Kd.R_alloc | apply Kd.R_drewN | apply Kd.R_drew)); exact HO218.out) hb); replace HO227 := Az0.mk (Kd.rW_ (by (with_reducible repeat (first | apply Kd.R_alloc | apply Kd.R_drewN | apply Kd.R_drew)); exact HO227.out) hb); have n3_ := Az0.mk (bB_ (g := gb200) (o := .cells #[.int .i64 a1_0, .int .i64 a1_1] 36 (0, 0)) (by (with_reducible repeat (first | refine bN_ ?_ _ | refine bW_ ?_ | refine bA_ ?_ _)); exact BK200.out) hb); have n4_ := Az0.mk (bB_ (g := gb223) (o := .cells #[.slice Ao32 t216.length co32, .int .i64 t219] 26 (0, 0)) (by (with_reducible repeat (first | refine bN_ ?_ _ | refine bW_ ?_ | refine bA_ ?_ _)); exact BK223.out) hb); have n5_ := Az0.mk (bB_ (g := gb224) (o := .cells #[.int .i64 t220, .int .i64 t221] 28 (0, 0)) (by (with_reducible repeat (first | refine bN_ ?_ _ | refine bW_ ?_ | refine bA_ ?_ _)); exact BK224.out) hb); have n6_ := Az0.mk (bP_ (by repeat (first | (with_reducible first | exact HB.out | apply baA_ | apply pbN_ | apply bD1_ | refine bS_ ?_ GE200.out | refine bS_ ?_ GE223.out | refine bS_ ?_ GE224.out) | exact HB.out)) hb); have n7_ := Az0.mk (hbox); have n8_ := Az0.mk ((by rw [hg]; exact (bZ_ (by repeat (first | (with_reducible first | exact HB.out | apply baA_ | apply pbN_ | apply bD1_ | refine bS_ ?_ GE200.out | refine bS_ ?_ GE223.out | refine bS_ ?_ GE224.out) | exact HB.out))) : w.heap.size ≤ gb232)); have n9_ := Az0.mk ((by rw [hg]; exact (bZ_ (by repeat (first | (with_reducible first | exact HB.out | apply baA_ | apply pbN_ | apply bD1_ | refine bS_ ?_ GE200.out | refine bS_ ?_ GE223.out | refine bS_ ?_ GE224.out) | exact HB.out))) : w.heap.size ≤ gb232)); have n10_ := Az0.mk ((by rw [hg]; exact Nat.ne_of_lt (bL_ (g := gb200) (o := .cells #[.int .i64 a1_0, .int .i64 a1_1] 36 (0, 0)) (by (with_reducible repeat (first | refine bN_ ?_ _ | refine bW_ ?_ | refine bA_ ?_ _)); exact BK200.out)) : gb200 ≠ gb232)); have n11_ := Az0.mk ((by rw [hg]; exact Nat.ne_of_gt (bL_ (g := gb200) (o := .cells #[.int .i64 a1_0, .int .i64 a1_1] 36 (0, 0)) (by (with_reducible repeat (first | refine bN_ ?_ _ | refine bW_ ?_ | refine bA_ ?_ _)); exact BK200.out)) : gb232 ≠ gb200)); have n12_ := Az0.mk ((by rw [hg]; exact Nat.ne_of_lt (bL_ (g := gb223) (o := .cells #[.slice Ao32 t216.length co32, .int .i64 t219] 26 (0, 0)) (by (with_reducible repeat (first | refine bN_ ?_ _ | refine bW_ ?_ | refine bA_ ?_ _)); exact BK223.out)) : gb223 ≠ gb232)); have n13_ := Az0.mk ((by rw [hg]; exact Nat.ne_of_gt (bL_ (g := gb223) (o := .cells #[.slice Ao32 t216.length co32, .int .i64 t219] 26 (0, 0)) (by (with_reducible repeat (first | refine bN_ ?_ _ | refine bW_ ?_ | refine bA_ ?_ _)); exact BK223.out)) : gb232 ≠ gb223)); have n14_ := Az0.mk ((by rw [hg]; exact Nat.ne_of_lt (bL_ (g := gb224) (o := .cells #[.int .i64 t220, .int .i64 t221] 28 (0, 0)) (by (with_reducible repeat (first | refine bN_ ?_ _ | refine bW_ ?_ | refine bA_ ?_ _)); exact BK224.out)) : gb224 ≠ gb232)); have n15_ := Az0.mk ((by rw [hg]; exact Nat.ne_of_gt (bL_ (g := gb224) (o := .cells #[.int .i64 t220, .int .i64 t221] 28 (0, 0)) (by (with_reducible repeat (first | refine bN_ ?_ _ | refine bW_ ?_ | refine bA_ ?_ _)); exact BK224.out)) : gb232 ≠ gb224)); clear BK200; clear BK223; clear BK224; clear HB; have BK200 := n3_; have BK223 := n4_; have BK224 := n5_; have HB := n6_; have BK232 := n7_; have GW232 := n8_; have GE232 := n9_; have NB200_232 := n10_; have NB232_200 := n11_; have NB223_232 := n12_; have NB232_223 := n13_; have NB224_232 := n14_; have NB232_224 := n15_; clear n3_ n4_ n5_ n6_ n7_ n8_ n9_ n10_ n11_ n12_ n13_ n14_ n15_; clear hb hbox hg) | ((with_reducible refine gD_ (N := 10) rfl ?_); refine bE_ ?hg (N := 10) ?hd (cs := #[.int .i64 0, .int .i64 0]) (t := 28) ?hr ?_; (case hd => rfl); (case hg => rfl); (case hr => first | (go_simp; done) | (go_simp; rfl)); intro gb233 hg w41 hbox hb; replace HO_5 := Az0.mk (Kd.rW_ (by (with_reducible repeat (first | apply Kd.R_alloc | apply Kd.R_drewN | apply Kd.R_drew)); exact HO_5.out) hb); replace HO218 := Az0.mk (Kd.rW_ (by (with_reducible repeat (first | apply Kd.R_alloc | apply Kd.R_drewN | apply Kd.R_drew)); exact HO218.out) hb); replace HO227 := Az0.mk (Kd.rW_ (by (with_reducible repeat (first | apply Kd.R_alloc | apply Kd.R_drewN | apply Kd.R_drew)); exact HO227.out) hb); have n3_ := Az0.mk (bB_ (g := gb200) (o := .cells #[.int .i64 a1_0, .int .i64 a1_1] 36 (0, 0)) (by (with_reducible repeat (first | refine bN_ ?_ _ | refine bW_ ?_ | refine bA_ ?_ _)); exact BK200.out) hb); have n4_ := Az0.mk (bB_ (g := gb223) (o := .cells #[.slice Ao32 t216.length co32, .int .i64 t219] 26 (0, 0)) (by (with_reducible repeat (first | refine bN_ ?_ _ | refine bW_ ?_ | refine bA_ ?_ _)); exact BK223.out) hb); have n5_ := Az0.mk (bB_ (g := gb224) (o := .cells #[.int .i64 t220, .int .i64 t221] 28 (0, 0)) (by (with_reducible repeat (first | refine bN_ ?_ _ | refine bW_ ?_ | refine bA_ ?_ _)); exact BK224.out) hb); have n6_ := Az0.mk (bB_ (g := gb232) (o := .cells #[.slice none 0 0, .int .i64 0] 26 (0, 0)) (by (with_reducible repeat (first | refine bN_ ?_ _ | refine bW_ ?_ | refine bA_ ?_ _)); exact BK232.out) hb); have n7_ := Az0.mk (bP_ (by repeat (first | (with_reducible first | exact HB.out | apply baA_ | apply pbN_ | apply bD1_ | refine bS_ ?_ GE200.out | refine bS_ ?_ GE223.out | refine bS_ ?_ GE224.out | refine bS_ ?_ GE232.out) | exact HB.out)) hb); have n8_ := Az0.mk (hbox); have n9_ := Az0.mk ((by rw [hg]; exact (bZ_ (by repeat (first | (with_reducible first | exact HB.out | apply baA_ | apply pbN_ | apply bD1_ | refine bS_ ?_ GE200.out | refine bS_ ?_ GE223.out | refine bS_ ?_ GE224.out | refine bS_ ?_ GE232.out) | exact HB.out))) : w.heap.size ≤ gb233)); have n10_ := Az0.mk ((by rw [hg]; exact (bZ_ (by repeat (first | (with_reducible first | exact HB.out | apply baA_ | apply pbN_ | apply bD1_ | refine bS_ ?_ GE200.out | refine bS_ ?_ GE223.out | refine bS_ ?_ GE224.out | refine bS_ ?_ GE232.out) | exact HB.out))) : w.heap.size ≤ gb233)); have n11_ := Az0.mk ((by rw [hg]; exact Nat.ne_of_lt (bL_ (g := gb200) (o := .cells #[.int .i64 a1_0, .int .i64 a1_1] 36 (0, 0)) (by (with_reducible repeat (first | refine bN_ ?_ _ | refine bW_ ?_ | refine bA_ ?_ _)); exact BK200.out)) : gb200 ≠ gb233)); have n12_ := Az0.mk ((by rw [hg]; exact Nat.ne_of_gt (bL_ (g := gb200) (o := .cells #[.int .i64 a1_0, .int .i64 a1_1] 36 (0, 0)) (by (with_reducible repeat (first | refine bN_ ?_ _ | refine bW_ ?_ | refine bA_ ?_ _)); exact BK200.out)) : gb233 ≠ gb200)); have n13_ := Az0.mk ((by rw [hg]; exact Nat.ne_of_lt (bL_ (g := gb223) (o := .cells #[.slice Ao32 t216.length co32, .int .i64 t219] 26 (0, 0)) (by (with_reducible repeat (first | refine bN_ ?_ _ | refine bW_ ?_ | refine bA_ ?_ _)); exact BK223.out)) : gb223 ≠ gb233)); have n14_ := Az0.mk ((by rw [hg]; exact Nat.ne_of_gt (bL_ (g := gb223) (o := .cells #[.slice Ao32 t216.length co32, .int .i64 t219] 26 (0, 0)) (by (with_reducible repeat (first | refine bN_ ?_ _ | refine bW_ ?_ | refine bA_ ?_ _)); exact BK223.out)) : gb233 ≠ gb223)); have n15_ := Az0.mk ((by rw [hg]; exact Nat.ne_of_lt (bL_ (g := gb224) (o := .cells #[.int .i64 t220, .int .i64 t221] 28 (0, 0)) (by (with_reducible repeat (first | refine bN_ ?_ _ | refine bW_ ?_ | refine bA_ ?_ _)); exact BK224.out)) : gb224 ≠ gb233)); have n16_ := Az0.mk ((by rw [hg]; exact Nat.ne_of_gt (bL_ (g := gb224) (o := .cells #[.int .i64 t220, .int .i64 t221] 28 (0, 0)) (by (with_reducible repeat (first | refine bN_ ?_ _ | refine bW_ ?_ | refine bA_ ?_ _)); exact BK224.out)) : gb233 ≠ gb224)); have n17_ := Az0.mk ((by rw [hg]; exact Nat.ne_of_lt (bL_ (g := gb232) (o := .cells #[.slice none 0 0, .int .i64 0] 26 (0, 0)) (by (with_reducible repeat (first | refine bN_ ?_ _ | refine bW_ ?_ | refine bA_ ?_ _)); exact BK232.out)) : gb232 ≠ gb233)); have n18_ := Az0.mk ((by rw [hg]; exact Nat.ne_of_gt (bL_ (g := gb232) (o := .cells #[.slice none 0 0, .int .i64 0] 26 (0, 0)) (by (with_reducible repeat (first | refine bN_ ?_ _ | refine bW_ ?_ | refine bA_ ?_ _)); exact BK232.out)) : gb233 ≠ gb232)); clear BK200; clear BK223; clear BK224; clear BK232; clear HB; have BK200 := n3_; have BK223 := n4_; have BK224 := n5_; have BK232 := n6_; have HB := n7_; have BK233 := n8_; have GW233 := n9_; have GE233 := n10_; have NB200_233 := n11_; have NB233_200 := n12_; have NB223_233 := n13_; have NB233_223 := n14_; have NB224_233 := n15_; have NB233_224 := n16_; have NB232_233 := n17_; have NB233_232 := n18_; clear n3_ n4_ n5_ n6_ n7_ n8_ n9_ n10_ n11_ n12_ n13_ n14_ n15_ n16_ n17_ n18_; clear hb hbox hg; obtain ⟨Ao42, co42, eo42⟩ := Kd.R_slice HO227.out; subst eo42; have hnb43 := NB232_200.out; have hnc43 := NB200_232.out; have hnb44 := NB232_223.out; have hnc44 := NB223_232.out; have hnb45 := NB232_224.out; have hnc45 := NB224_232.out; have hnb46 := NB232_233.out; have hnc46 := NB233_232.out; have hcz47_0 : w41.cell? ⟨gb232, 0, none⟩ = some (.slice none 0 0) := (bkC BK232.out 0).trans rfl; have hcz47_1 : w41.cell? ⟨gb232, 1, none⟩ = some (.int .i64 0) := (bkC BK232.out 1).trans rfl; have hfz47_0 := bF_ BK232.out 0; have hfz47_1 := bF_ BK232.out 1; have hnb48 := NB233_200.out; have hnc48 := NB200_233.out; have hnb49 := NB233_223.out; have hnc49 := NB223_233.out; have hnb50 := NB233_224.out; have hnc50 := NB224_233.out; have hcz51_0 : w41.cell? ⟨gb233, 0, none⟩ = some (.int .i64 0) := (bkC BK233.out 0).trans rfl; have hcz51_1 : w41.cell? ⟨gb233, 1, none⟩ = some (.int .i64 0) := (bkC BK233.out 1).trans rfl; have hfz51_0 := bF_ BK233.out 0; have hfz51_1 := bF_ BK233.out 1) | ((with_reducible refine gate_callee (f := 20) rfl ?_); refine goesL_ (some 52) rfl rfl Try.func20 (by kernel_rfl) rfl #[.slice A0 l0.length c0] rfl (by (try simp only [List.map_toArray, List.map_cons, List.map_nil]); first | done | rfl | (simp only [List.length_drop, List.length_take]; rfl)) ?_; (with_reducible refine (jCh_.calls kj4 _ _ l0 t234 t237 t238 t239 t240 _ ?side1 ?side2 A26.out).mono ?_); (case side1 => exact Kd.C_below HR0.out (by repeat (first | (with_reducible first | exact HB.out | apply baA_ | apply pbN_ | apply bD1_ | refine bS_ ?_ GE200.out | refine bS_ ?_ GE223.out | refine bS_ ?_ GE224.out | refine bS_ ?_ GE232.out | refine bS_ ?_ GE233.out) | exact HB.out))); (case side2 => exact HC0.out); rintro e w52 ⟨v235, rfl, ho0, hb⟩; refine ⟨_, rfl, ?_⟩; have n0_ := Az0.mk (Kd.rW_ (by (with_reducible repeat (first | apply Kd.R_alloc | apply Kd.R_drewN | apply Kd.R_drew)); exact (Kd.rM_ (Kd.rM_ (Kd.rF_ (p := ⟨gb233, 1, none⟩) (Kd.rF_ (p := ⟨gb233, 0, none⟩) (Kd.rF_ (p := ⟨gb232, 1, none⟩) (Kd.rF_ (p := ⟨gb232, 0, none⟩) (Kd.rY_ (Kd.rY_ HO_5.out BK232.out (by decide)) BK233.out (by decide)) (fun _ hk => hk.1.2) (.slice Ao42 t225.length co42)) (fun _ hk => hk.1.2) (.int .i64 t228)) (fun _ hk => hk.2) (.int .i64 t229)) (fun _ hk => hk.2) (.int .i64 t230)) (fun _ h_ => h_.1)) (fun _ h_ => h_.1))) hb); have n1_ := Az0.mk (Kd.R_elder' (by (with_reducible repeat (first | apply Kd.R_alloc | apply Kd.R_drewN | apply Kd.R_drew)); exact (Kd.rM_ (Kd.rM_ (Kd.rF_ (p := ⟨gb233, 1, none⟩) (Kd.rF_ (p := ⟨gb233, 0, none⟩) (Kd.rF_ (p := ⟨gb232, 1, none⟩) (Kd.rF_ (p := ⟨gb232, 0, none⟩) (Kd.rY_ (Kd.rY_ HO218.out BK232.out (by decide)) BK233.out (by decide)) (fun _ hk => hk.1.2) (.slice Ao42 t225.length co42)) (fun _ hk => hk.1.2) (.int .i64 t228)) (fun _ hk => hk.2) (.int .i64 t229)) (fun _ hk => hk.2) (.int .i64 t230)) (fun _ h_ => h_.1)) (fun _ h_ => h_.1))) (Kd.rB_ ho0) hb); have n2_ := Az0.mk (Kd.R_elder' (by (with_reducible repeat (first | apply Kd.R_alloc | apply Kd.R_drewN | apply Kd.R_drew)); exact (Kd.rM_ (Kd.rM_ (Kd.rF_ (p := ⟨gb233, 1, none⟩) (Kd.rF_ (p := ⟨gb233, 0, none⟩) (Kd.rF_ (p := ⟨gb232, 1, none⟩) (Kd.rF_ (p := ⟨gb232, 0, none⟩) (Kd.rY_ (Kd.rY_ HO227.out BK232.out (by decide)) BK233.out (by decide)) (fun _ hk => hk.1.2) (.slice Ao42 t225.length co42)) (fun _ hk => hk.1.2) (.int .i64 t228)) (fun _ hk => hk.2) (.int .i64 t229)) (fun _ hk => hk.2) (.int .i64 t230)) (fun _ h_ => h_.1)) (fun _ h_ => h_.1))) (Kd.rB_ ho0) hb); have n3_ := Az0.mk (Kd.R_lower (Kd.R_new' (Kd.R_new' ho0 (Kd.R_lt (by (with_reducible repeat (first | apply Kd.R_alloc | apply Kd.R_drewN | apply Kd.R_drew)); exact (Kd.rM_ (Kd.rM_ (Kd.rF_ (p := ⟨gb233, 1, none⟩) (Kd.rF_ (p := ⟨gb233, 0, none⟩) (Kd.rF_ (p := ⟨gb232, 1, none⟩) (Kd.rF_ (p := ⟨gb232, 0, none⟩) (Kd.rY_ (Kd.rY_ HO218.out BK232.out (by decide)) BK233.out (by decide)) (fun _ hk => hk.1.2) (.slice Ao42 t225.length co42)) (fun _ hk => hk.1.2) (.int .i64 t228)) (fun _ hk => hk.2) (.int .i64 t229)) (fun _ hk => hk.2) (.int .i64 t230)) (fun _ h_ => h_.1)) (fun _ h_ => h_.1))))) (Kd.R_lt (by (with_reducible repeat (first | apply Kd.R_alloc | apply Kd.R_drewN | apply Kd.R_drew)); exact (Kd.rM_ (Kd.rM_ (Kd.rF_ (p := ⟨gb233, 1, none⟩) (Kd.rF_ (p := ⟨gb233, 0, none⟩) (Kd.rF_ (p := ⟨gb232, 1, none⟩) (Kd.rF_ (p := ⟨gb232, 0, none⟩) (Kd.rY_ (Kd.rY_ HO227.out BK232.out (by decide)) BK233.out (by decide)) (fun _ hk => hk.1.2) (.slice Ao42 t225.length co42)) (fun _ hk => hk.1.2) (.int .i64 t228)) (fun _ hk => hk.2) (.int .i64 t229)) (fun _ hk => hk.2) (.int .i64 t230)) (fun _ h_ => h_.1)) (fun _ h_ => h_.1))))) (bZ_ (by repeat (first | (with_reducible first | exact HB.out | apply baA_ | apply pbN_ | apply bD1_ | refine bS_ ?_ GE200.out | refine bS_ ?_ GE223.out | refine bS_ ?_ GE224.out | refine bS_ ?_ GE232.out | refine bS_ ?_ GE233.out) | exact HB.out)))); replace BK200 := Az0.mk (bB_ (g := gb200) (o := .cells #[.int .i64 a1_0, .int .i64 a1_1] 36 (0, 0)) (by (with_reducible repeat (first | refine bN_ ?_ _ | refine bW_ ?_ | refine bA_ ?_ _)); refine bR_ ?_ NB200_233.out _; (with_reducible repeat (first | refine bN_ ?_ _ | refine bW_ ?_ | refine bA_ ?_ _)); refine bR_ ?_ NB200_233.out _; (with_reducible repeat (first | refine bN_ ?_ _ | refine bW_ ?_ | refine bA_ ?_ _)); refine bR_ ?_ NB200_232.out _; (with_reducible repeat (first | refine bN_ ?_ _ | refine bW_ ?_ | refine bA_ ?_ _)); refine bR_ ?_ NB200_232.out _; (with_reducible repeat (first | refine bN_ ?_ _ | refine bW_ ?_ | refine bA_ ?_ _)); exact BK200.out) hb); replace BK223 := Az0.mk (bB_ (g := gb223) (o := .cells #[.slice Ao32 t216.length co32, .int .i64 t219] 26 (0, 0)) (by (with_reducible repeat (first | refine bN_ ?_ _ | refine bW_ ?_ | refine bA_ ?_ _)); refine bR_ ?_ NB223_233.out _; (with_reducible repeat (first | refine bN_ ?_ _ | refine bW_ ?_ | refine bA_ ?_ _)); refine bR_ ?_ NB223_233.out _; (with_reducible repeat (first | refine bN_ ?_ _ | refine bW_ ?_ | refine bA_ ?_ _)); refine bR_ ?_ NB223_232.out _; (with_reducible repeat (first | refine bN_ ?_ _ | refine bW_ ?_ | refine bA_ ?_ _)); refine bR_ ?_ NB223_232.out _; (with_reducible repeat (first | refine bN_ ?_ _ | refine bW_ ?_ | refine bA_ ?_ _)); exact BK223.out) hb); replace BK224 := Az0.mk (bB_ (g := gb224) (o := .cells #[.int .i64 t220, .int .i64 t221] 28 (0, 0)) (by (with_reducible repeat (first | refine bN_ ?_ _ | refine bW_ ?_ | refine bA_ ?_ _)); refine bR_ ?_ NB224_233.out _; (with_reducible repeat (first | refine bN_ ?_ _ | refine bW_ ?_ | refine bA_ ?_ _)); refine bR_ ?_ NB224_233.out _; (with_reducible repeat (first | refine bN_ ?_ _ | refine bW_ ?_ | refine bA_ ?_ _)); refine bR_ ?_ NB224_232.out _; (with_reducible repeat (first | refine bN_ ?_ _ | refine bW_ ?_ | refine bA_ ?_ _)); refine bR_ ?_ NB224_232.out _; (with_reducible repeat (first | refine bN_ ?_ _ | refine bW_ ?_ | refine bA_ ?_ _)); exact BK224.out) hb); have n7_ := Az0.mk (bB_ (g := gb232) (o := .cells #[.slice Ao42 t225.length co42, .int .i64 t228] 26 (0, 0)) (by (with_reducible repeat (first | refine bN_ ?_ _ | refine bW_ ?_ | refine bA_ ?_ _)); refine bR_ ?_ NB232_233.out _; (with_reducible repeat (first | refine bN_ ?_ _ | refine bW_ ?_ | refine bA_ ?_ _)); refine bR_ ?_ NB232_233.out _; (with_reducible repeat (first | refine bN_ ?_ _ | refine bW_ ?_ | refine bA_ ?_ _)); refine blk_put (cs := #[.slice Ao42 t225.length co42, .int .i64 0]) ?_ 1 _ rfl; (with_reducible repeat (first | refine bN_ ?_ _ | refine bW_ ?_ | refine bA_ ?_ _)); refine blk_put (cs := #[.slice none 0 0, .int .i64 0]) ?_ 0 _ rfl; (with_reducible repeat (first | refine bN_ ?_ _ | refine bW_ ?_ | refine bA_ ?_ _)); exact BK232.out) hb); have n8_ := Az0.mk (bB_ (g := gb233) (o := .cells #[.int .i64 t229, .int .i64 t230] 28 (0, 0)) (by (with_reducible repeat (first | refine bN_ ?_ _ | refine bW_ ?_ | refine bA_ ?_ _)); refine blk_put (cs := #[.int .i64 t229, .int .i64 0]) ?_ 1 _ rfl; (with_reducible repeat (first | refine bN_ ?_ _ | refine bW_ ?_ | refine bA_ ?_ _)); refine blk_put (cs := #[.int .i64 0, .int .i64 0]) ?_ 0 _ rfl; (with_reducible repeat (first | refine bN_ ?_ _ | refine bW_ ?_ | refine bA_ ?_ _)); refine bR_ ?_ NB233_232.out _; (with_reducible repeat (first | refine bN_ ?_ _ | refine bW_ ?_ | refine bA_ ?_ _)); refine bR_ ?_ NB233_232.out _; (with_reducible repeat (first | refine bN_ ?_ _ | refine bW_ ?_ | refine bA_ ?_ _)); exact BK233.out) hb); have n9_ := Az0.mk (bP_ (by repeat (first | (with_reducible first | exact HB.out | apply baA_ | apply pbN_ | apply bD1_ | refine bS_ ?_ GE200.out | refine bS_ ?_ GE223.out | refine bS_ ?_ GE224.out | refine bS_ ?_ GE232.out | refine bS_ ?_ GE233.out) | exact HB.out)) hb); clear HO_5; clear HO218; clear HO227; clear BK232; clear BK233; clear HB; have HO_5 := n0_; have HO218 := n1_; have HO227 := n2_; have HO236 := n3_; have BK232 := n7_; have BK233 := n8_; have HB := n9_; clear n0_ n1_ n2_ n3_ n7_ n8_ n9_; (try clear hb); (try clear hb2); (try clear hk); (try clear hi); (try clear ho0)) | ((with_reducible refine gD_ (N := 12) rfl ?_); refine bE_ ?hg (N := 12) ?hd (cs := #[.slice none 0 0, .int .i64 0]) (t := 26) ?hr ?_; (case hd => rfl); (case hg => rfl); (case hr => first | (go_simp; done) | (go_simp; rfl)); intro gb241 hg w53 hbox hb; replace HO_5 := Az0.mk (Kd.rW_ (by (with_reducible repeat (first | apply Kd.R_alloc | apply Kd.R_drewN | apply Kd.R_drew)); exact HO_5.out) hb); replace HO218 := Az0.mk (Kd.rW_ (by (with_reducible repeat (first | apply Kd.R_alloc | apply Kd.R_drewN | apply Kd.R_drew)); exact HO218.out) hb); replace HO227 := Az0.mk (Kd.rW_ (by (with_reducible repeat (first | apply Kd.R_alloc | apply Kd.R_drewN | apply Kd.R_drew)); exact HO227.out) hb); replace HO236 := Az0.mk (Kd.rW_ (by (with_reducible repeat (first | apply Kd.R_alloc | apply Kd.R_drewN | apply Kd.R_drew)); exact HO236.out) hb); have n4_ := Az0.mk (bB_ (g := gb200) (o := .cells #[.int .i64 a1_0, .int .i64 a1_1] 36 (0, 0)) (by (with_reducible repeat (first | refine bN_ ?_ _ | refine bW_ ?_ | refine bA_ ?_ _)); exact BK200.out) hb); have n5_ := Az0.mk (bB_ (g := gb223) (o := .cells #[.slice Ao32 t216.length co32, .int .i64 t219] 26 (0, 0)) (by (with_reducible repeat (first | refine bN_ ?_ _ | refine bW_ ?_ | refine bA_ ?_ _)); exact BK223.out) hb); have n6_ := Az0.mk (bB_ (g := gb224) (o := .cells #[.int .i64 t220, .int .i64 t221] 28 (0, 0)) (by (with_reducible repeat (first | refine bN_ ?_ _ | refine bW_ ?_ | refine bA_ ?_ _)); exact BK224.out) hb); have n7_ := Az0.mk (bB_ (g := gb232) (o := .cells #[.slice Ao42 t225.length co42, .int .i64 t228] 26 (0, 0)) (by (with_reducible repeat (first | refine bN_ ?_ _ | refine bW_ ?_ | refine bA_ ?_ _)); exact BK232.out) hb); have n8_ := Az0.mk (bB_ (g := gb233) (o := .cells #[.int .i64 t229, .int .i64 t230] 28 (0, 0)) (by (with_reducible repeat (first | refine bN_ ?_ _ | refine bW_ ?_ | refine bA_ ?_ _)); exact BK233.out) hb); have n9_ := Az0.mk (bP_ (by repeat (first | (with_reducible first | exact HB.out | apply baA_ | apply pbN_ | apply bD1_ | refine bS_ ?_ GE200.out | refine bS_ ?_ GE223.out | refine bS_ ?_ GE224.out | refine bS_ ?_ GE232.out | refine bS_ ?_ GE233.out) | exact HB.out)) hb); have n10_ := Az0.mk (hbox); have n11_ := Az0.mk ((by rw [hg]; exact (bZ_ (by repeat (first | (with_reducible first | exact HB.out | apply baA_ | apply pbN_ | apply bD1_ | refine bS_ ?_ GE200.out | refine bS_ ?_ GE223.out | refine bS_ ?_ GE224.out | refine bS_ ?_ GE232.out | refine bS_ ?_ GE233.out) | exact HB.out))) : w.heap.size ≤ gb241)); have n12_ := Az0.mk ((by rw [hg]; exact (bZ_ (by repeat (first | (with_reducible first | exact HB.out | apply baA_ | apply pbN_ | apply bD1_ | refine bS_ ?_ GE200.out | refine bS_ ?_ GE223.out | refine bS_ ?_ GE224.out | refine bS_ ?_ GE232.out | refine bS_ ?_ GE233.out) | exact HB.out))) : w.heap.size ≤ gb241)); have n13_ := Az0.mk ((by rw [hg]; exact Nat.ne_of_lt (bL_ (g := gb200) (o := .cells #[.int .i64 a1_0, .int .i64 a1_1] 36 (0, 0)) (by (with_reducible repeat (first | refine bN_ ?_ _ | refine bW_ ?_ | refine bA_ ?_ _)); exact BK200.out)) : gb200 ≠ gb241)); have n14_ := Az0.mk ((by rw [hg]; exact Nat.ne_of_gt (bL_ (g := gb200) (o := .cells #[.int .i64 a1_0, .int .i64 a1_1] 36 (0, 0)) (by (with_reducible repeat (first | refine bN_ ?_ _ | refine bW_ ?_ | refine bA_ ?_ _)); exact BK200.out)) : gb241 ≠ gb200)); have n15_ := Az0.mk ((by rw [hg]; exact Nat.ne_of_lt (bL_ (g := gb223) (o := .cells #[.slice Ao32 t216.length co32, .int .i64 t219] 26 (0, 0)) (by (with_reducible repeat (first | refine bN_ ?_ _ | refine bW_ ?_ | refine bA_ ?_ _)); exact BK223.out)) : gb223 ≠ gb241)); have n16_ := Az0.mk ((by rw [hg]; exact Nat.ne_of_gt (bL_ (g := gb223) (o := .cells #[.slice Ao32 t216.length co32, .int .i64 t219] 26 (0, 0)) (by (with_reducible repeat (first | refine bN_ ?_ _ | refine bW_ ?_ | refine bA_ ?_ _)); exact BK223.out)) : gb241 ≠ gb223)); have n17_ := Az0.mk ((by rw [hg]; exact Nat.ne_of_lt (bL_ (g := gb224) (o := .cells #[.int .i64 t220, .int .i64 t221] 28 (0, 0)) (by (with_reducible repeat (first | refine bN_ ?_ _ | refine bW_ ?_ | refine bA_ ?_ _)); exact BK224.out)) : gb224 ≠ gb241)); have n18_ := Az0.mk ((by rw [hg]; exact Nat.ne_of_gt (bL_ (g := gb224) (o := .cells #[.int .i64 t220, .int .i64 t221] 28 (0, 0)) (by (with_reducible repeat (first | refine bN_ ?_ _ | refine bW_ ?_ | refine bA_ ?_ _)); exact BK224.out)) : gb241 ≠ gb224)); have n19_ := Az0.mk ((by rw [hg]; exact Nat.ne_of_lt (bL_ (g := gb232) (o := .cells #[.slice Ao42 t225.length co42, .int .i64 t228] 26 (0, 0)) (by (with_reducible repeat (first | refine bN_ ?_ _ | refine bW_ ?_ | refine bA_ ?_ _)); exact BK232.out)) : gb232 ≠ gb241)); have n20_ := Az0.mk ((by rw [hg]; exact Nat.ne_of_gt (bL_ (g := gb232) (o := .cells #[.slice Ao42 t225.length co42, .int .i64 t228] 26 (0, 0)) (by (with_reducible repeat (first | refine bN_ ?_ _ | refine bW_ ?_ | refine bA_ ?_ _)); exact BK232.out)) : gb241 ≠ gb232)); have n21_ := Az0.mk ((by rw [hg]; exact Nat.ne_of_lt (bL_ (g := gb233) (o := .cells #[.int .i64 t229, .int .i64 t230] 28 (0, 0)) (by (with_reducible repeat (first | refine bN_ ?_ _ | refine bW_ ?_ | refine bA_ ?_ _)); exact BK233.out)) : gb233 ≠ gb241)); have n22_ := Az0.mk ((by rw [hg]; exact Nat.ne_of_gt (bL_ (g := gb233) (o := .cells #[.int .i64 t229, .int .i64 t230] 28 (0, 0)) (by (with_reducible repeat (first | refine bN_ ?_ _ | refine bW_ ?_ | refine bA_ ?_ _)); exact BK233.out)) : gb241 ≠ gb233)); clear BK200; clear BK223; clear BK224; clear BK232; clear BK233; clear HB; have BK200 := n4_; have BK223 := n5_; have BK224 := n6_; have BK232 := n7_; have BK233 := n8_; have HB := n9_; have BK241 := n10_; have GW241 := n11_; have GE241 := n12_; have NB200_241 := n13_; have NB241_200 := n14_; have NB223_241 := n15_; have NB241_223 := n16_; have NB224_241 := n17_; have NB241_224 := n18_; have NB232_241 := n19_; have NB241_232 := n20_; have NB233_241 := n21_; have NB241_233 := n22_; clear n4_ n5_ n6_ n7_ n8_ n9_ n10_ n11_ n12_ n13_ n14_ n15_ n16_ n17_ n18_ n19_ n20_ n21_ n22_; clear hb hbox hg) | ((with_reducible refine gD_ (N := 13) rfl ?_); refine bE_ ?hg (N := 13) ?hd (cs := #[.int .i64 0, .int .i64 0]) (t := 28) ?hr ?_; (case hd => rfl); (case hg => rfl); (case hr => first | (go_simp; done) | (go_simp; rfl)); intro gb242 hg w54 hbox hb; replace HO_5 := Az0.mk (Kd.rW_ (by (with_reducible repeat (first | apply Kd.R_alloc | apply Kd.R_drewN | apply Kd.R_drew)); exact HO_5.out) hb); replace HO218 := Az0.mk (Kd.rW_ (by (with_reducible repeat (first | apply Kd.R_alloc | apply Kd.R_drewN | apply Kd.R_drew)); exact HO218.out) hb); replace HO227 := Az0.mk (Kd.rW_ (by (with_reducible repeat (first | apply Kd.R_alloc | apply Kd.R_drewN | apply Kd.R_drew)); exact HO227.out) hb); replace HO236 := Az0.mk (Kd.rW_ (by (with_reducible repeat (first | apply Kd.R_alloc | apply Kd.R_drewN | apply Kd.R_drew)); exact HO236.out) hb); have n4_ := Az0.mk (bB_ (g := gb200) (o := .cells #[.int .i64 a1_0, .int .i64 a1_1] 36 (0, 0)) (by (with_reducible repeat (first | refine bN_ ?_ _ | refine bW_ ?_ | refine bA_ ?_ _)); exact BK200.out) hb); have n5_ := Az0.mk (bB_ (g := gb223) (o := .cells #[.slice Ao32 t216.length co32, .int .i64 t219] 26 (0, 0)) (by (with_reducible repeat (first | refine bN_ ?_ _ | refine bW_ ?_ | refine bA_ ?_ _)); exact BK223.out) hb); have n6_ := Az0.mk (bB_ (g := gb224) (o := .cells #[.int .i64 t220, .int .i64 t221] 28 (0, 0)) (by (with_reducible repeat (first | refine bN_ ?_ _ | refine bW_ ?_ | refine bA_ ?_ _)); exact BK224.out) hb); have n7_ := Az0.mk (bB_ (g := gb232) (o := .cells #[.slice Ao42 t225.length co42, .int .i64 t228] 26 (0, 0)) (by (with_reducible repeat (first | refine bN_ ?_ _ | refine bW_ ?_ | refine bA_ ?_ _)); exact BK232.out) hb); have n8_ := Az0.mk (bB_ (g := gb233) (o := .cells #[.int .i64 t229, .int .i64 t230] 28 (0, 0)) (by (with_reducible repeat (first | refine bN_ ?_ _ | refine bW_ ?_ | refine bA_ ?_ _)); exact BK233.out) hb); have n9_ := Az0.mk (bB_ (g := gb241) (o := .cells #[.slice none 0 0, .int .i64 0] 26 (0, 0)) (by (with_reducible repeat (first | refine bN_ ?_ _ | refine bW_ ?_ | refine bA_ ?_ _)); exact BK241.out) hb); have n10_ := Az0.mk (bP_ (by repeat (first | (with_reducible first | exact HB.out | apply baA_ | apply pbN_ | apply bD1_ | refine bS_ ?_ GE200.out | refine bS_ ?_ GE223.out | refine bS_ ?_ GE224.out | refine bS_ ?_ GE232.out | refine bS_ ?_ GE233.out | refine bS_ ?_ GE241.out) | exact HB.out)) hb); have n11_ := Az0.mk (hbox); have n12_ := Az0.mk ((by rw [hg]; exact (bZ_ (by repeat (first | (with_reducible first | exact HB.out | apply baA_ | apply pbN_ | apply bD1_ | refine bS_ ?_ GE200.out | refine bS_ ?_ GE223.out | refine bS_ ?_ GE224.out | refine bS_ ?_ GE232.out | refine bS_ ?_ GE233.out | refine bS_ ?_ GE241.out) | exact HB.out))) : w.heap.size ≤ gb242)); have n13_ := Az0.mk ((by rw [hg]; exact (bZ_ (by repeat (first | (with_reducible first | exact HB.out | apply baA_ | apply pbN_ | apply bD1_ | refine bS_ ?_ GE200.out | refine bS_ ?_ GE223.out | refine bS_ ?_ GE224.out | refine bS_ ?_ GE232.out | refine bS_ ?_ GE233.out | refine bS_ ?_ GE241.out) | exact HB.out))) : w.heap.size ≤ gb242)); have n14_ := Az0.mk ((by rw [hg]; exact Nat.ne_of_lt (bL_ (g := gb200) (o := .cells #[.int .i64 a1_0, .int .i64 a1_1] 36 (0, 0)) (by (with_reducible repeat (first | refine bN_ ?_ _ | refine bW_ ?_ | refine bA_ ?_ _)); exact BK200.out)) : gb200 ≠ gb242)); have n15_ := Az0.mk ((by rw [hg]; exact Nat.ne_of_gt (bL_ (g := gb200) (o := .cells #[.int .i64 a1_0, .int .i64 a1_1] 36 (0, 0)) (by (with_reducible repeat (first | refine bN_ ?_ _ | refine bW_ ?_ | refine bA_ ?_ _)); exact BK200.out)) : gb242 ≠ gb200)); have n16_ := Az0.mk ((by rw [hg]; exact Nat.ne_of_lt (bL_ (g := gb223) (o := .cells #[.slice Ao32 t216.length co32, .int .i64 t219] 26 (0, 0)) (by (with_reducible repeat (first | refine bN_ ?_ _ | refine bW_ ?_ | refine bA_ ?_ _)); exact BK223.out)) : gb223 ≠ gb242)); have n17_ := Az0.mk ((by rw [hg]; exact Nat.ne_of_gt (bL_ (g := gb223) (o := .cells #[.slice Ao32 t216.length co32, .int .i64 t219] 26 (0, 0)) (by (with_reducible repeat (first | refine bN_ ?_ _ | refine bW_ ?_ | refine bA_ ?_ _)); exact BK223.out)) : gb242 ≠ gb223)); have n18_ := Az0.mk ((by rw [hg]; exact Nat.ne_of_lt (bL_ (g := gb224) (o := .cells #[.int .i64 t220, .int .i64 t221] 28 (0, 0)) (by (with_reducible repeat (first | refine bN_ ?_ _ | refine bW_ ?_ | refine bA_ ?_ _)); exact BK224.out)) : gb224 ≠ gb242)); have n19_ := Az0.mk ((by rw [hg]; exact Nat.ne_of_gt (bL_ (g := gb224) (o := .cells #[.int .i64 t220, .int .i64 t221] 28 (0, 0)) (by (with_reducible repeat (first | refine bN_ ?_ _ | refine bW_ ?_ | refine bA_ ?_ _)); exact BK224.out)) : gb242 ≠ gb224)); have n20_ := Az0.mk ((by rw [hg]; exact Nat.ne_of_lt (bL_ (g := gb232) (o := .cells #[.slice Ao42 t225.length co42, .int .i64 t228] 26 (0, 0)) (by (with_reducible repeat (first | refine bN_ ?_ _ | refine bW_ ?_ | refine bA_ ?_ _)); exact BK232.out)) : gb232 ≠ gb242)); have n21_ := Az0.mk ((by rw [hg]; exact Nat.ne_of_gt (bL_ (g := gb232) (o := .cells #[.slice Ao42 t225.length co42, .int .i64 t228] 26 (0, 0)) (by (with_reducible repeat (first | refine bN_ ?_ _ | refine bW_ ?_ | refine bA_ ?_ _)); exact BK232.out)) : gb242 ≠ gb232)); have n22_ := Az0.mk ((by rw [hg]; exact Nat.ne_of_lt (bL_ (g := gb233) (o := .cells #[.int .i64 t229, .int .i64 t230] 28 (0, 0)) (by (with_reducible repeat (first | refine bN_ ?_ _ | refine bW_ ?_ | refine bA_ ?_ _)); exact BK233.out)) : gb233 ≠ gb242)); have n23_ := Az0.mk ((by rw [hg]; exact Nat.ne_of_gt (bL_ (g := gb233) (o := .cells #[.int .i64 t229, .int .i64 t230] 28 (0, 0)) (by (with_reducible repeat (first | refine bN_ ?_ _ | refine bW_ ?_ | refine bA_ ?_ _)); exact BK233.out)) : gb242 ≠ gb233)); have n24_ := Az0.mk ((by rw [hg]; exact Nat.ne_of_lt (bL_ (g := gb241) (o := .cells #[.slice none 0 0, .int .i64 0] 26 (0, 0)) (by (with_reducible repeat (first | refine bN_ ?_ _ | refine bW_ ?_ | refine bA_ ?_ _)); exact BK241.out)) : gb241 ≠ gb242)); have n25_ := Az0.mk ((by rw [hg]; exact Nat.ne_of_gt (bL_ (g := gb241) (o := .cells #[.slice none 0 0, .int .i64 0] 26 (0, 0)) (by (with_reducible repeat (first | refine bN_ ?_ _ | refine bW_ ?_ | refine bA_ ?_ _)); exact BK241.out)) : gb242 ≠ gb241)); clear BK200; clear BK223; clear BK224; clear BK232; clear BK233; clear BK241; clear HB; have BK200 := n4_; have BK223 := n5_; have BK224 := n6_; have BK232 := n7_; have BK233 := n8_; have BK241 := n9_; have HB := n10_; have BK242 := n11_; have GW242 := n12_; have GE242 := n13_; have NB200_242 := n14_; have NB242_200 := n15_; have NB223_242 := n16_; have NB242_223 := n17_; have NB224_242 := n18_; have NB242_224 := n19_; have NB232_242 := n20_; have NB242_232 := n21_; have NB233_242 := n22_; have NB242_233 := n23_; have NB241_242 := n24_; have NB242_241 := n25_; clear n4_ n5_ n6_ n7_ n8_ n9_ n10_ n11_ n12_ n13_ n14_ n15_ n16_ n17_ n18_ n19_ n20_ n21_ n22_ n23_ n24_ n25_; clear hb hbox hg; obtain ⟨Ao55, co55, eo55⟩ := Kd.R_slice HO236.out; subst eo55; have hnb56 := NB241_200.out; have hnc56 := NB200_241.out; have hnb57 := NB241_223.out; have hnc57 := NB223_241.out; have hnb58 := NB241_224.out; have hnc58 := NB224_241.out; have hnb59 := NB241_232.out; have hnc59 := NB232_241.out; have hnb60 := NB241_233.out; have hnc60 := NB233_241.out; have hnb61 := NB241_242.out; have hnc61 := NB242_241.out; have hcz62_0 : w54.cell? ⟨gb241, 0, none⟩ = some (.slice none 0 0) := (bkC BK241.out 0).trans rfl; have hcz62_1 : w54.cell? ⟨gb241, 1, none⟩ = some (.int .i64 0) := (bkC BK241.out 1).trans rfl; have hfz62_0 := bF_ BK241.out 0; have hfz62_1 := bF_ BK241.out 1; have hnb63 := NB242_200.out; have hnc63 := NB200_242.out; have hnb64 := NB242_223.out; have hnc64 := NB223_242.out; have hnb65 := NB242_224.out; have hnc65 := NB224_242.out; have hnb66 := NB242_232.out; have hnc66 := NB232_242.out; have hnb67 := NB242_233.out; have hnc67 := NB233_242.out; have hcz68_0 : w54.cell? ⟨gb242, 0, none⟩ = some (.int .i64 0) := (bkC BK242.out 0).trans rfl; have hcz68_1 : w54.cell? ⟨gb242, 1, none⟩ = some (.int .i64 0) := (bkC BK242.out 1).trans rfl; have hfz68_0 := bF_ BK242.out 0; have hfz68_1 := bF_ BK242.out 1) | ((with_reducible refine gate_callee (f := 20) rfl ?_); refine goesL_ (some 58) rfl rfl Try.func20 (by kernel_rfl) rfl #[.slice Ao38 y210.length co38] rfl (by (try simp only [List.map_toArray, List.map_cons, List.map_nil]); first | done | rfl | (simp only [List.length_drop, List.length_take]; rfl)) ?_; (with_reducible refine (jCh_.calls kj4 _ _ y210 t243 t246 t247 t248 t249 _ ?side1 ?side2 A27.out).mono ?_); (case side1 => refine (Kd.R_reads' (e := 36) (base := w.heap.size) (ok := fun k_ => k_ ≠ gb200) (n := y210.length) (c := co38) ?_).2.2; exact (by (with_reducible repeat (first | apply Kd.R_alloc | apply Kd.R_drewN | apply Kd.R_drew)); exact (Kd.rM_ (Kd.rM_ (Kd.rF_ (p := ⟨gb242, 1, none⟩) (Kd.rF_ (p := ⟨gb242, 0, none⟩) (Kd.rF_ (p := ⟨gb241, 1, none⟩) (Kd.rF_ (p := ⟨gb241, 0, none⟩) (Kd.rY_ (Kd.rY_ HO_5.out BK241.out (by decide)) BK242.out (by decide)) (fun _ hk => hk.1.2) (.slice Ao55 t234.length co55)) (fun _ hk => hk.1.2) (.int .i64 t237)) (fun _ hk => hk.2) (.int .i64 t238)) (fun _ hk => hk.2) (.int .i64 t239)) (fun _ h_ => h_.1)) (fun _ h_ => h_.1)))); (case side2 => exact (Kd.R_reads' HO_5.out).2.1); rintro e w69 ⟨v244, rfl, ho0, hb⟩; refine ⟨_, rfl, ?_⟩; have n1_ := Az0.mk (Kd.R_elder' (by (with_reducible repeat (first | apply Kd.R_alloc | apply Kd.R_drewN | apply Kd.R_drew)); exact (Kd.rM_ (Kd.rM_ (Kd.rF_ (p := ⟨gb242, 1, none⟩) (Kd.rF_ (p := ⟨gb242, 0, none⟩) (Kd.rF_ (p := ⟨gb241, 1, none⟩) (Kd.rF_ (p := ⟨gb241, 0, none⟩) (Kd.rY_ (Kd.rY_ HO218.out BK241.out (by decide)) BK242.out (by decide)) (fun _ hk => hk.1.2) (.slice Ao55 t234.length co55)) (fun _ hk => hk.1.2) (.int .i64 t237)) (fun _ hk => hk.2) (.int .i64 t238)) (fun _ hk => hk.2) (.int .i64 t239)) (fun _ h_ => h_.1)) (fun _ h_ => h_.1))) (Kd.rB_ ho0) hb); have n2_ := Az0.mk (Kd.R_elder' (by (with_reducible repeat (first | apply Kd.R_alloc | apply Kd.R_drewN | apply Kd.R_drew)); exact (Kd.rM_ (Kd.rM_ (Kd.rF_ (p := ⟨gb242, 1, none⟩) (Kd.rF_ (p := ⟨gb242, 0, none⟩) (Kd.rF_ (p := ⟨gb241, 1, none⟩) (Kd.rF_ (p := ⟨gb241, 0, none⟩) (Kd.rY_ (Kd.rY_ HO227.out BK241.out (by decide)) BK242.out (by decide)) (fun _ hk => hk.1.2) (.slice Ao55 t234.length co55)) (fun _ hk => hk.1.2) (.int .i64 t237)) (fun _ hk => hk.2) (.int .i64 t238)) (fun _ hk => hk.2) (.int .i64 t239)) (fun _ h_ => h_.1)) (fun _ h_ => h_.1))) (Kd.rB_ ho0) hb); have n3_ := Az0.mk (Kd.R_elder' (by (with_reducible repeat (first | apply Kd.R_alloc | apply Kd.R_drewN | apply Kd.R_drew)); exact (Kd.rM_ (Kd.rM_ (Kd.rF_ (p := ⟨gb242, 1, none⟩) (Kd.rF_ (p := ⟨gb242, 0, none⟩) (Kd.rF_ (p := ⟨gb241, 1, none⟩) (Kd.rF_ (p := ⟨gb241, 0, none⟩) (Kd.rY_ (Kd.rY_ HO236.out BK241.out (by decide)) BK242.out (by decide)) (fun _ hk => hk.1.2) (.slice Ao55 t234.length co55)) (fun _ hk => hk.1.2) (.int .i64 t237)) (fun _ hk => hk.2) (.int .i64 t238)) (fun _ hk => hk.2) (.int .i64 t239)) (fun _ h_ => h_.1)) (fun _ h_ => h_.1))) (Kd.rB_ ho0) hb); have n4_ := Az0.mk (Kd.R_lower (Kd.R_new' (Kd.R_new' (Kd.R_new' ho0 (Kd.R_lt (by (with_reducible repeat (first | apply Kd.R_alloc | apply Kd.R_drewN | apply Kd.R_drew)); exact (Kd.rM_ (Kd.rM_ (Kd.rF_ (p := ⟨gb242, 1, none⟩) (Kd.rF_ (p := ⟨gb242, 0, none⟩) (Kd.rF_ (p := ⟨gb241, 1, none⟩) (Kd.rF_ (p := ⟨gb241, 0, none⟩) (Kd.rY_ (Kd.rY_ HO218.out BK241.out (by decide)) BK242.out (by decide)) (fun _ hk => hk.1.2) (.slice Ao55 t234.length co55)) (fun _ hk => hk.1.2) (.int .i64 t237)) (fun _ hk => hk.2) (.int .i64 t238)) (fun _ hk => hk.2) (.int .i64 t239)) (fun _ h_ => h_.1)) (fun _ h_ => h_.1))))) (Kd.R_lt (by (with_reducible repeat (first | apply Kd.R_alloc | apply Kd.R_drewN | apply Kd.R_drew)); exact (Kd.rM_ (Kd.rM_ (Kd.rF_ (p := ⟨gb242, 1, none⟩) (Kd.rF_ (p := ⟨gb242, 0, none⟩) (Kd.rF_ (p := ⟨gb241, 1, none⟩) (Kd.rF_ (p := ⟨gb241, 0, none⟩) (Kd.rY_ (Kd.rY_ HO227.out BK241.out (by decide)) BK242.out (by decide)) (fun _ hk => hk.1.2) (.slice Ao55 t234.length co55)) (fun _ hk => hk.1.2) (.int .i64 t237)) (fun _ hk => hk.2) (.int .i64 t238)) (fun _ hk => hk.2) (.int .i64 t239)) (fun _ h_ => h_.1)) (fun _ h_ => h_.1))))) (Kd.R_lt (by (with_reducible repeat (first | apply Kd.R_alloc | apply Kd.R_drewN | apply Kd.R_drew)); exact (Kd.rM_ (Kd.rM_ (Kd.rF_ (p := ⟨gb242, 1, none⟩) (Kd.rF_ (p := ⟨gb242, 0, none⟩) (Kd.rF_ (p := ⟨gb241, 1, none⟩) (Kd.rF_ (p := ⟨gb241, 0, none⟩) (Kd.rY_ (Kd.rY_ HO236.out BK241.out (by decide)) BK242.out (by decide)) (fun _ hk => hk.1.2) (.slice Ao55 t234.length co55)) (fun _ hk => hk.1.2) (.int .i64 t237)) (fun _ hk => hk.2) (.int .i64 t238)) (fun _ hk => hk.2) (.int .i64 t239)) (fun _ h_ => h_.1)) (fun _ h_ => h_.1))))) (bZ_ (by repeat (first | (with_reducible first | exact HB.out | apply baA_ | apply pbN_ | apply bD1_ | refine bS_ ?_ GE200.out | refine bS_ ?_ GE223.out | refine bS_ ?_ GE224.out | refine bS_ ?_ GE232.out | refine bS_ ?_ GE233.out | refine bS_ ?_ GE241.out | refine bS_ ?_ GE242.out) | exact HB.out)))); replace BK200 := Az0.mk (bB_ (g := gb200) (o := .cells #[.int .i64 a1_0, .int .i64 a1_1] 36 (0, 0)) (by (with_reducible repeat (first | refine bN_ ?_ _ | refine bW_ ?_ | refine bA_ ?_ _)); refine bR_ ?_ NB200_242.out _; (with_reducible repeat (first | refine bN_ ?_ _ | refine bW_ ?_ | refine bA_ ?_ _)); refine bR_ ?_ NB200_242.out _; (with_reducible repeat (first | refine bN_ ?_ _ | refine bW_ ?_ | refine bA_ ?_ _)); refine bR_ ?_ NB200_241.out _; (with_reducible repeat (first | refine bN_ ?_ _ | refine bW_ ?_ | refine bA_ ?_ _)); refine bR_ ?_ NB200_241.out _; (with_reducible repeat (first | refine bN_ ?_ _ | refine bW_ ?_ | refine bA_ ?_ _)); exact BK200.out) hb); replace BK223 := Az0.mk (bB_ (g := gb223) (o := .cells #[.slice Ao32 t216.length co32, .int .i64 t219] 26 (0, 0)) (by (with_reducible repeat (first | refine bN_ ?_ _ | refine bW_ ?_ | refine bA_ ?_ _)); refine bR_ ?_ NB223_242.out _; (with_reducible repeat (first | refine bN_ ?_ _ | refine bW_ ?_ | refine bA_ ?_ _)); refine bR_ ?_ NB223_242.out _; (with_reducible repeat (first | refine bN_ ?_ _ | refine bW_ ?_ | refine bA_ ?_ _)); refine bR_ ?_ NB223_241.out _; (with_reducible repeat (first | refine bN_ ?_ _ | refine bW_ ?_ | refine bA_ ?_ _)); refine bR_ ?_ NB223_241.out _; (with_reducible repeat (first | refine bN_ ?_ _ | refine bW_ ?_ | refine bA_ ?_ _)); exact BK223.out) hb); replace BK224 := Az0.mk (bB_ (g := gb224) (o := .cells #[.int .i64 t220, .int .i64 t221] 28 (0, 0)) (by (with_reducible repeat (first | refine bN_ ?_ _ | refine bW_ ?_ | refine bA_ ?_ _)); refine bR_ ?_ NB224_242.out _; (with_reducible repeat (first | refine bN_ ?_ _ | refine bW_ ?_ | refine bA_ ?_ _)); refine bR_ ?_ NB224_242.out _; (with_reducible repeat (first | refine bN_ ?_ _ | refine bW_ ?_ | refine bA_ ?_ _)); refine bR_ ?_ NB224_241.out _; (with_reducible repeat (first | refine bN_ ?_ _ | refine bW_ ?_ | refine bA_ ?_ _)); refine bR_ ?_ NB224_241.out _; (with_reducible repeat (first | refine bN_ ?_ _ | refine bW_ ?_ | refine bA_ ?_ _)); exact BK224.out) hb); replace BK232 := Az0.mk (bB_ (g := gb232) (o := .cells #[.slice Ao42 t225.length co42, .int .i64 t228] 26 (0, 0)) (by (with_reducible repeat (first | refine bN_ ?_ _ | refine bW_ ?_ | refine bA_ ?_ _)); refine bR_ ?_ NB232_242.out _; (with_reducible repeat (first | refine bN_ ?_ _ | refine bW_ ?_ | refine bA_ ?_ _)); refine bR_ ?_ NB232_242.out _; (with_reducible repeat (first | refine bN_ ?_ _ | refine bW_ ?_ | refine bA_ ?_ _)); refine bR_ ?_ NB232_241.out _; (with_reducible repeat (first | refine bN_ ?_ _ | refine bW_ ?_ | refine bA_ ?_ _)); refine bR_ ?_ NB232_241.out _; (with_reducible repeat (first | refine bN_ ?_ _ | refine bW_ ?_ | refine bA_ ?_ _)); exact BK232.out) hb); replace BK233 := Az0.mk (bB_ (g := gb233) (o := .cells #[.int .i64 t229, .int .i64 t230] 28 (0, 0)) (by (with_reducible repeat (first | refine bN_ ?_ _ | refine bW_ ?_ | refine bA_ ?_ _)); refine bR_ ?_ NB233_242.out _; (with_reducible repeat (first | refine bN_ ?_ _ | refine bW_ ?_ | refine bA_ ?_ _)); refine bR_ ?_ NB233_242.out _; (with_reducible repeat (first | refine bN_ ?_ _ | refine bW_ ?_ | refine bA_ ?_ _)); refine bR_ ?_ NB233_241.out _; (with_reducible repeat (first | refine bN_ ?_ _ | refine bW_ ?_ | refine bA_ ?_ _)); refine bR_ ?_ NB233_241.out _; (with_reducible repeat (first | refine bN_ ?_ _ | refine bW_ ?_ | refine bA_ ?_ _)); exact BK233.out) hb); have n10_ := Az0.mk (bB_ (g := gb241) (o := .cells #[.slice Ao55 t234.length co55, .int .i64 t237] 26 (0, 0)) (by (with_reducible repeat (first | refine bN_ ?_ _ | refine bW_ ?_ | refine bA_ ?_ _)); refine bR_ ?_ NB241_242.out _; (with_reducible repeat (first | refine bN_ ?_ _ | refine bW_ ?_ | refine bA_ ?_ _)); refine bR_ ?_ NB241_242.out _; (with_reducible repeat (first | refine bN_ ?_ _ | refine bW_ ?_ | refine bA_ ?_ _)); refine blk_put (cs := #[.slice Ao55 t234.length co55, .int .i64 0]) ?_ 1 _ rfl; (with_reducible repeat (first | refine bN_ ?_ _ | refine bW_ ?_ | refine bA_ ?_ _)); refine blk_put (cs := #[.slice none 0 0, .int .i64 0]) ?_ 0 _ rfl; (with_reducible repeat (first | refine bN_ ?_ _ | refine bW_ ?_ | refine bA_ ?_ _)); exact BK241.out) hb); have n11_ := Az0.mk (bB_ (g := gb242) (o := .cells #[.int .i64 t238, .int .i64 t239] 28 (0, 0)) (by (with_reducible repeat (first | refine bN_ ?_ _ | refine bW_ ?_ | refine bA_ ?_ _)); refine blk_put (cs := #[.int .i64 t238, .int .i64 0]) ?_ 1 _ rfl; (with_reducible repeat (first | refine bN_ ?_ _ | refine bW_ ?_ | refine bA_ ?_ _)); refine blk_put (cs := #[.int .i64 0, .int .i64 0]) ?_ 0 _ rfl; (with_reducible repeat (first | refine bN_ ?_ _ | refine bW_ ?_ | refine bA_ ?_ _)); refine bR_ ?_ NB242_241.out _; (with_reducible repeat (first | refine bN_ ?_ _ | refine bW_ ?_ | refine bA_ ?_ _)); refine bR_ ?_ NB242_241.out _; (with_reducible repeat (first | refine bN_ ?_ _ | refine bW_ ?_ | refine bA_ ?_ _)); exact BK242.out) hb); have n12_ := Az0.mk (bP_ (by repeat (first | (with_reducible first | exact HB.out | apply baA_ | apply pbN_ | apply bD1_ | refine bS_ ?_ GE200.out | refine bS_ ?_ GE223.out | refine bS_ ?_ GE224.out | refine bS_ ?_ GE232.out | refine bS_ ?_ GE233.out | refine bS_ ?_ GE241.out | refine bS_ ?_ GE242.out) | exact HB.out)) hb); clear HO218; clear HO227; clear HO236; clear BK241; clear BK242; clear HB; have HO218 := n1_; have HO227 := n2_; have HO236 := n3_; have HO245 := n4_; have BK241 := n10_; have BK242 := n11_; have HB := n12_; clear n1_ n2_ n3_ n4_ n10_ n11_ n12_; (try clear hb); (try clear hb2); (try clear hk); (try clear hi); (try clear ho0)) | ((with_reducible refine gD_ (N := 15) rfl ?_); refine bE_ ?hg (N := 15) ?hd (cs := #[.slice none 0 0, .int .i64 0]) (t := 26) ?hr ?_; (case hd => rfl); (case hg => rfl); (case hr => first | (go_simp; done) | (go_simp; rfl)); intro gb250 hg w70 hbox hb; replace HO218 := Az0.mk (Kd.rW_ (by (with_reducible repeat (first | apply Kd.R_alloc | apply Kd.R_drewN | apply Kd.R_drew)); exact HO218.out) hb); replace HO227 := Az0.mk (Kd.rW_ (by (with_reducible repeat (first | apply Kd.R_alloc | apply Kd.R_drewN | apply Kd.R_drew)); exact HO227.out) hb); replace HO236 := Az0.mk (Kd.rW_ (by (with_reducible repeat (first | apply Kd.R_alloc | apply Kd.R_drewN | apply Kd.R_drew)); exact HO236.out) hb); replace HO245 := Az0.mk (Kd.rW_ (by (with_reducible repeat (first | apply Kd.R_alloc | apply Kd.R_drewN | apply Kd.R_drew)); exact HO245.out) hb); have n5_ := Az0.mk (bB_ (g := gb200) (o := .cells #[.int .i64 a1_0, .int .i64 a1_1] 36 (0, 0)) (by (with_reducible repeat (first | refine bN_ ?_ _ | refine bW_ ?_ | refine bA_ ?_ _)); exact BK200.out) hb); have n6_ := Az0.mk (bB_ (g := gb223) (o := .cells #[.slice Ao32 t216.length co32, .int .i64 t219] 26 (0, 0)) (by (with_reducible repeat (first | refine bN_ ?_ _ | refine bW_ ?_ | refine bA_ ?_ _)); exact BK223.out) hb); have n7_ := Az0.mk (bB_ (g := gb224) (o := .cells #[.int .i64 t220, .int .i64 t221] 28 (0, 0)) (by (with_reducible repeat (first | refine bN_ ?_ _ | refine bW_ ?_ | refine bA_ ?_ _)); exact BK224.out) hb); have n8_ := Az0.mk (bB_ (g := gb232) (o := .cells #[.slice Ao42 t225.length co42, .int .i64 t228] 26 (0, 0)) (by (with_reducible repeat (first | refine bN_ ?_ _ | refine bW_ ?_ | refine bA_ ?_ _)); exact BK232.out) hb); have n9_ := Az0.mk (bB_ (g := gb233) (o := .cells #[.int .i64 t229, .int .i64 t230] 28 (0, 0)) (by (with_reducible repeat (first | refine bN_ ?_ _ | refine bW_ ?_ | refine bA_ ?_ _)); exact BK233.out) hb); have n10_ := Az0.mk (bB_ (g := gb241) (o := .cells #[.slice Ao55 t234.length co55, .int .i64 t237] 26 (0, 0)) (by (with_reducible repeat (first | refine bN_ ?_ _ | refine bW_ ?_ | refine bA_ ?_ _)); exact BK241.out) hb); have n11_ := Az0.mk (bB_ (g := gb242) (o := .cells #[.int .i64 t238, .int .i64 t239] 28 (0, 0)) (by (with_reducible repeat (first | refine bN_ ?_ _ | refine bW_ ?_ | refine bA_ ?_ _)); exact BK242.out) hb); have n12_ := Az0.mk (bP_ (by repeat (first | (with_reducible first | exact HB.out | apply baA_ | apply pbN_ | apply bD1_ | refine bS_ ?_ GE200.out | refine bS_ ?_ GE223.out | refine bS_ ?_ GE224.out | refine bS_ ?_ GE232.out | refine bS_ ?_ GE233.out | refine bS_ ?_ GE241.out | refine bS_ ?_ GE242.out) | exact HB.out)) hb); have n13_ := Az0.mk (hbox); have n14_ := Az0.mk ((by rw [hg]; exact (bZ_ (by repeat (first | (with_reducible first | exact HB.out | apply baA_ | apply pbN_ | apply bD1_ | refine bS_ ?_ GE200.out | refine bS_ ?_ GE223.out | refine bS_ ?_ GE224.out | refine bS_ ?_ GE232.out | refine bS_ ?_ GE233.out | refine bS_ ?_ GE241.out | refine bS_ ?_ GE242.out) | exact HB.out))) : w.heap.size ≤ gb250)); have n15_ := Az0.mk ((by rw [hg]; exact (bZ_ (by repeat (first | (with_reducible first | exact HB.out | apply baA_ | apply pbN_ | apply bD1_ | refine bS_ ?_ GE200.out | refine bS_ ?_ GE223.out | refine bS_ ?_ GE224.out | refine bS_ ?_ GE232.out | refine bS_ ?_ GE233.out | refine bS_ ?_ GE241.out | refine bS_ ?_ GE242.out) | exact HB.out))) : w.heap.size ≤ gb250)); have n16_ := Az0.mk ((by rw [hg]; exact Nat.ne_of_lt (bL_ (g := gb200) (o := .cells #[.int .i64 a1_0, .int .i64 a1_1] 36 (0, 0)) (by (with_reducible repeat (first | refine bN_ ?_ _ | refine bW_ ?_ | refine bA_ ?_ _)); exact BK200.out)) : gb200 ≠ gb250)); have n17_ := Az0.mk ((by rw [hg]; exact Nat.ne_of_gt (bL_ (g := gb200) (o := .cells #[.int .i64 a1_0, .int .i64 a1_1] 36 (0, 0)) (by (with_reducible repeat (first | refine bN_ ?_ _ | refine bW_ ?_ | refine bA_ ?_ _)); exact BK200.out)) : gb250 ≠ gb200)); have n18_ := Az0.mk ((by rw [hg]; exact Nat.ne_of_lt (bL_ (g := gb223) (o := .cells #[.slice Ao32 t216.length co32, .int .i64 t219] 26 (0, 0)) (by (with_reducible repeat (first | refine bN_ ?_ _ | refine bW_ ?_ | refine bA_ ?_ _)); exact BK223.out)) : gb223 ≠ gb250)); have n19_ := Az0.mk ((by rw [hg]; exact Nat.ne_of_gt (bL_ (g := gb223) (o := .cells #[.slice Ao32 t216.length co32, .int .i64 t219] 26 (0, 0)) (by (with_reducible repeat (first | refine bN_ ?_ _ | refine bW_ ?_ | refine bA_ ?_ _)); exact BK223.out)) : gb250 ≠ gb223)); have n20_ := Az0.mk ((by rw [hg]; exact Nat.ne_of_lt (bL_ (g := gb224) (o := .cells #[.int .i64 t220, .int .i64 t221] 28 (0, 0)) (by (with_reducible repeat (first | refine bN_ ?_ _ | refine bW_ ?_ | refine bA_ ?_ _)); exact BK224.out)) : gb224 ≠ gb250)); have n21_ := Az0.mk ((by rw [hg]; exact Nat.ne_of_gt (bL_ (g := gb224) (o := .cells #[.int .i64 t220, .int .i64 t221] 28 (0, 0)) (by (with_reducible repeat (first | refine bN_ ?_ _ | refine bW_ ?_ | refine bA_ ?_ _)); exact BK224.out)) : gb250 ≠ gb224)); have n22_ := Az0.mk ((by rw [hg]; exact Nat.ne_of_lt (bL_ (g := gb232) (o := .cells #[.slice Ao42 t225.length co42, .int .i64 t228] 26 (0, 0)) (by (with_reducible repeat (first | refine bN_ ?_ _ | refine bW_ ?_ | refine bA_ ?_ _)); exact BK232.out)) : gb232 ≠ gb250)); have n23_ := Az0.mk ((by rw [hg]; exact Nat.ne_of_gt (bL_ (g := gb232) (o := .cells #[.slice Ao42 t225.length co42, .int .i64 t228] 26 (0, 0)) (by (with_reducible repeat (first | refine bN_ ?_ _ | refine bW_ ?_ | refine bA_ ?_ _)); exact BK232.out)) : gb250 ≠ gb232)); have n24_ := Az0.mk ((by rw [hg]; exact Nat.ne_of_lt (bL_ (g := gb233) (o := .cells #[.int .i64 t229, .int .i64 t230] 28 (0, 0)) (by (with_reducible repeat (first | refine bN_ ?_ _ | refine bW_ ?_ | refine bA_ ?_ _)); exact BK233.out)) : gb233 ≠ gb250)); have n25_ := Az0.mk ((by rw [hg]; exact Nat.ne_of_gt (bL_ (g := gb233) (o := .cells #[.int .i64 t229, .int .i64 t230] 28 (0, 0)) (by (with_reducible repeat (first | refine bN_ ?_ _ | refine bW_ ?_ | refine bA_ ?_ _)); exact BK233.out)) : gb250 ≠ gb233)); have n26_ := Az0.mk ((by rw [hg]; exact Nat.ne_of_lt (bL_ (g := gb241) (o := .cells #[.slice Ao55 t234.length co55, .int .i64 t237] 26 (0, 0)) (by (with_reducible repeat (first | refine bN_ ?_ _ | refine bW_ ?_ | refine bA_ ?_ _)); exact BK241.out)) : gb241 ≠ gb250)); have n27_ := Az0.mk ((by rw [hg]; exact Nat.ne_of_gt (bL_ (g := gb241) (o := .cells #[.slice Ao55 t234.length co55, .int .i64 t237] 26 (0, 0)) (by (with_reducible repeat (first | refine bN_ ?_ _ | refine bW_ ?_ | refine bA_ ?_ _)); exact BK241.out)) : gb250 ≠ gb241)); have n28_ := Az0.mk ((by rw [hg]; exact Nat.ne_of_lt (bL_ (g := gb242) (o := .cells #[.int .i64 t238, .int .i64 t239] 28 (0, 0)) (by (with_reducible repeat (first | refine bN_ ?_ _ | refine bW_ ?_ | refine bA_ ?_ _)); exact BK242.out)) : gb242 ≠ gb250)); have n29_ := Az0.mk ((by rw [hg]; exact Nat.ne_of_gt (bL_ (g := gb242) (o := .cells #[.int .i64 t238, .int .i64 t239] 28 (0, 0)) (by (with_reducible repeat (first | refine bN_ ?_ _ | refine bW_ ?_ | refine bA_ ?_ _)); exact BK242.out)) : gb250 ≠ gb242)); clear BK200; clear BK223; clear BK224; clear BK232; clear BK233; clear BK241; clear BK242; clear HB; have BK200 := n5_; have BK223 := n6_; have BK224 := n7_; have BK232 := n8_; have BK233 := n9_; have BK241 := n10_; have BK242 := n11_; have HB := n12_; have BK250 := n13_; have GW250 := n14_; have GE250 := n15_; have NB200_250 := n16_; have NB250_200 := n17_; have NB223_250 := n18_; have NB250_223 := n19_; have NB224_250 := n20_; have NB250_224 := n21_; have NB232_250 := n22_; have NB250_232 := n23_; have NB233_250 := n24_; have NB250_233 := n25_; have NB241_250 := n26_; have NB250_241 := n27_; have NB242_250 := n28_; have NB250_242 := n29_; clear n5_ n6_ n7_ n8_ n9_ n10_ n11_ n12_ n13_ n14_ n15_ n16_ n17_ n18_ n19_ n20_ n21_ n22_ n23_ n24_ n25_ n26_ n27_ n28_ n29_; clear hb hbox hg) | ((with_reducible refine gD_ (N := 16) rfl ?_); refine bE_ ?hg (N := 16) ?hd (cs := #[.int .i64 0, .int .i64 0]) (t := 28) ?hr ?_; (case hd => rfl); (case hg => rfl); (case hr => first | (go_simp; done) | (go_simp; rfl)); intro gb251 hg w71 hbox hb; replace HO218 := Az0.mk (Kd.rW_ (by (with_reducible repeat (first | apply Kd.R_alloc | apply Kd.R_drewN | apply Kd.R_drew)); exact HO218.out) hb); replace HO227 := Az0.mk (Kd.rW_ (by (with_reducible repeat (first | apply Kd.R_alloc | apply Kd.R_drewN | apply Kd.R_drew)); exact HO227.out) hb); replace HO236 := Az0.mk (Kd.rW_ (by (with_reducible repeat (first | apply Kd.R_alloc | apply Kd.R_drewN | apply Kd.R_drew)); exact HO236.out) hb); replace HO245 := Az0.mk (Kd.rW_ (by (with_reducible repeat (first | apply Kd.R_alloc | apply Kd.R_drewN | apply Kd.R_drew)); exact HO245.out) hb); have n5_ := Az0.mk (bB_ (g := gb200) (o := .cells #[.int .i64 a1_0, .int .i64 a1_1] 36 (0, 0)) (by (with_reducible repeat (first | refine bN_ ?_ _ | refine bW_ ?_ | refine bA_ ?_ _)); exact BK200.out) hb); have n6_ := Az0.mk (bB_ (g := gb223) (o := .cells #[.slice Ao32 t216.length co32, .int .i64 t219] 26 (0, 0)) (by (with_reducible repeat (first | refine bN_ ?_ _ | refine bW_ ?_ | refine bA_ ?_ _)); exact BK223.out) hb); have n7_ := Az0.mk (bB_ (g := gb224) (o := .cells #[.int .i64 t220, .int .i64 t221] 28 (0, 0)) (by (with_reducible repeat (first | refine bN_ ?_ _ | refine bW_ ?_ | refine bA_ ?_ _)); exact BK224.out) hb); have n8_ := Az0.mk (bB_ (g := gb232) (o := .cells #[.slice Ao42 t225.length co42, .int .i64 t228] 26 (0, 0)) (by (with_reducible repeat (first | refine bN_ ?_ _ | refine bW_ ?_ | refine bA_ ?_ _)); exact BK232.out) hb); have n9_ := Az0.mk (bB_ (g := gb233) (o := .cells #[.int .i64 t229, .int .i64 t230] 28 (0, 0)) (by (with_reducible repeat (first | refine bN_ ?_ _ | refine bW_ ?_ | refine bA_ ?_ _)); exact BK233.out) hb); have n10_ := Az0.mk (bB_ (g := gb241) (o := .cells #[.slice Ao55 t234.length co55, .int .i64 t237] 26 (0, 0)) (by (with_reducible repeat (first | refine bN_ ?_ _ | refine bW_ ?_ | refine bA_ ?_ _)); exact BK241.out) hb); have n11_ := Az0.mk (bB_ (g := gb242) (o := .cells #[.int .i64 t238, .int .i64 t239] 28 (0, 0)) (by (with_reducible repeat (first | refine bN_ ?_ _ | refine bW_ ?_ | refine bA_ ?_ _)); exact BK242.out) hb); have n12_ := Az0.mk (bB_ (g := gb250) (o := .cells #[.slice none 0 0, .int .i64 0] 26 (0, 0)) (by (with_reducible repeat (first | refine bN_ ?_ _ | refine bW_ ?_ | refine bA_ ?_ _)); exact BK250.out) hb); have n13_ := Az0.mk (bP_ (by repeat (first | (with_reducible first | exact HB.out | apply baA_ | apply pbN_ | apply bD1_ | refine bS_ ?_ GE200.out | refine bS_ ?_ GE223.out | refine bS_ ?_ GE224.out | refine bS_ ?_ GE232.out | refine bS_ ?_ GE233.out | refine bS_ ?_ GE241.out | refine bS_ ?_ GE242.out | refine bS_ ?_ GE250.out) | exact HB.out)) hb); have n14_ := Az0.mk (hbox); have n15_ := Az0.mk ((by rw [hg]; exact (bZ_ (by repeat (first | (with_reducible first | exact HB.out | apply baA_ | apply pbN_ | apply bD1_ | refine bS_ ?_ GE200.out | refine bS_ ?_ GE223.out | refine bS_ ?_ GE224.out | refine bS_ ?_ GE232.out | refine bS_ ?_ GE233.out | refine bS_ ?_ GE241.out | refine bS_ ?_ GE242.out | refine bS_ ?_ GE250.out) | exact HB.out))) : w.heap.size ≤ gb251)); have n16_ := Az0.mk ((by rw [hg]; exact (bZ_ (by repeat (first | (with_reducible first | exact HB.out | apply baA_ | apply pbN_ | apply bD1_ | refine bS_ ?_ GE200.out | refine bS_ ?_ GE223.out | refine bS_ ?_ GE224.out | refine bS_ ?_ GE232.out | refine bS_ ?_ GE233.out | refine bS_ ?_ GE241.out | refine bS_ ?_ GE242.out | refine bS_ ?_ GE250.out) | exact HB.out))) : w.heap.size ≤ gb251)); have n17_ := Az0.mk ((by rw [hg]; exact Nat.ne_of_lt (bL_ (g := gb200) (o := .cells #[.int .i64 a1_0, .int .i64 a1_1] 36 (0, 0)) (by (with_reducible repeat (first | refine bN_ ?_ _ | refine bW_ ?_ | refine bA_ ?_ _)); exact BK200.out)) : gb200 ≠ gb251)); have n18_ := Az0.mk ((by rw [hg]; exact Nat.ne_of_gt (bL_ (g := gb200) (o := .cells #[.int .i64 a1_0, .int .i64 a1_1] 36 (0, 0)) (by (with_reducible repeat (first | refine bN_ ?_ _ | refine bW_ ?_ | refine bA_ ?_ _)); exact BK200.out)) : gb251 ≠ gb200)); have n19_ := Az0.mk ((by rw [hg]; exact Nat.ne_of_lt (bL_ (g := gb223) (o := .cells #[.slice Ao32 t216.length co32, .int .i64 t219] 26 (0, 0)) (by (with_reducible repeat (first | refine bN_ ?_ _ | refine bW_ ?_ | refine bA_ ?_ _)); exact BK223.out)) : gb223 ≠ gb251)); have n20_ := Az0.mk ((by rw [hg]; exact Nat.ne_of_gt (bL_ (g := gb223) (o := .cells #[.slice Ao32 t216.length co32, .int .i64 t219] 26 (0, 0)) (by (with_reducible repeat (first | refine bN_ ?_ _ | refine bW_ ?_ | refine bA_ ?_ _)); exact BK223.out)) : gb251 ≠ gb223)); have n21_ := Az0.mk ((by rw [hg]; exact Nat.ne_of_lt (bL_ (g := gb224) (o := .cells #[.int .i64 t220, .int .i64 t221] 28 (0, 0)) (by (with_reducible repeat (first | refine bN_ ?_ _ | refine bW_ ?_ | refine bA_ ?_ _)); exact BK224.out)) : gb224 ≠ gb251)); have n22_ := Az0.mk ((by rw [hg]; exact Nat.ne_of_gt (bL_ (g := gb224) (o := .cells #[.int .i64 t220, .int .i64 t221] 28 (0, 0)) (by (with_reducible repeat (first | refine bN_ ?_ _ | refine bW_ ?_ | refine bA_ ?_ _)); exact BK224.out)) : gb251 ≠ gb224)); have n23_ := Az0.mk ((by rw [hg]; exact Nat.ne_of_lt (bL_ (g := gb232) (o := .cells #[.slice Ao42 t225.length co42, .int .i64 t228] 26 (0, 0)) (by (with_reducible repeat (first | refine bN_ ?_ _ | refine bW_ ?_ | refine bA_ ?_ _)); exact BK232.out)) : gb232 ≠ gb251)); have n24_ := Az0.mk ((by rw [hg]; exact Nat.ne_of_gt (bL_ (g := gb232) (o := .cells #[.slice Ao42 t225.length co42, .int .i64 t228] 26 (0, 0)) (by (with_reducible repeat (first | refine bN_ ?_ _ | refine bW_ ?_ | refine bA_ ?_ _)); exact BK232.out)) : gb251 ≠ gb232)); have n25_ := Az0.mk ((by rw [hg]; exact Nat.ne_of_lt (bL_ (g := gb233) (o := .cells #[.int .i64 t229, .int .i64 t230] 28 (0, 0)) (by (with_reducible repeat (first | refine bN_ ?_ _ | refine bW_ ?_ | refine bA_ ?_ _)); exact BK233.out)) : gb233 ≠ gb251)); have n26_ := Az0.mk ((by rw [hg]; exact Nat.ne_of_gt (bL_ (g := gb233) (o := .cells #[.int .i64 t229, .int .i64 t230] 28 (0, 0)) (by (with_reducible repeat (first | refine bN_ ?_ _ | refine bW_ ?_ | refine bA_ ?_ _)); exact BK233.out)) : gb251 ≠ gb233)); have n27_ := Az0.mk ((by rw [hg]; exact Nat.ne_of_lt (bL_ (g := gb241) (o := .cells #[.slice Ao55 t234.length co55, .int .i64 t237] 26 (0, 0)) (by (with_reducible repeat (first | refine bN_ ?_ _ | refine bW_ ?_ | refine bA_ ?_ _)); exact BK241.out)) : gb241 ≠ gb251)); have n28_ := Az0.mk ((by rw [hg]; exact Nat.ne_of_gt (bL_ (g := gb241) (o := .cells #[.slice Ao55 t234.length co55, .int .i64 t237] 26 (0, 0)) (by (with_reducible repeat (first | refine bN_ ?_ _ | refine bW_ ?_ | refine bA_ ?_ _)); exact BK241.out)) : gb251 ≠ gb241)); have n29_ := Az0.mk ((by rw [hg]; exact Nat.ne_of_lt (bL_ (g := gb242) (o := .cells #[.int .i64 t238, .int .i64 t239] 28 (0, 0)) (by (with_reducible repeat (first | refine bN_ ?_ _ | refine bW_ ?_ | refine bA_ ?_ _)); exact BK242.out)) : gb242 ≠ gb251)); have n30_ := Az0.mk ((by rw [hg]; exact Nat.ne_of_gt (bL_ (g := gb242) (o := .cells #[.int .i64 t238, .int .i64 t239] 28 (0, 0)) (by (with_reducible repeat (first | refine bN_ ?_ _ | refine bW_ ?_ | refine bA_ ?_ _)); exact BK242.out)) : gb251 ≠ gb242)); have n31_ := Az0.mk ((by rw [hg]; exact Nat.ne_of_lt (bL_ (g := gb250) (o := .cells #[.slice none 0 0, .int .i64 0] 26 (0, 0)) (by (with_reducible repeat (first | refine bN_ ?_ _ | refine bW_ ?_ | refine bA_ ?_ _)); exact BK250.out)) : gb250 ≠ gb251)); have n32_ := Az0.mk ((by rw [hg]; exact Nat.ne_of_gt (bL_ (g := gb250) (o := .cells #[.slice none 0 0, .int .i64 0] 26 (0, 0)) (by (with_reducible repeat (first | refine bN_ ?_ _ | refine bW_ ?_ | refine bA_ ?_ _)); exact BK250.out)) : gb251 ≠ gb250)); clear BK200; clear BK223; clear BK224; clear BK232; clear BK233; clear BK241; clear BK242; clear BK250; clear HB; have BK200 := n5_; have BK223 := n6_; have BK224 := n7_; have BK232 := n8_; have BK233 := n9_; have BK241 := n10_; have BK242 := n11_; have BK250 := n12_; have HB := n13_; have BK251 := n14_; have GW251 := n15_; have GE251 := n16_; have NB200_251 := n17_; have NB251_200 := n18_; have NB223_251 := n19_; have NB251_223 := n20_; have NB224_251 := n21_; have NB251_224 := n22_; have NB232_251 := n23_; have NB251_232 := n24_; have NB233_251 := n25_; have NB251_233 := n26_; have NB241_251 := n27_; have NB251_241 := n28_; have NB242_251 := n29_; have NB251_242 := n30_; have NB250_251 := n31_; have NB251_250 := n32_; clear n5_ n6_ n7_ n8_ n9_ n10_ n11_ n12_ n13_ n14_ n15_ n16_ n17_ n18_ n19_ n20_ n21_ n22_ n23_ n24_ n25_ n26_ n27_ n28_ n29_ n30_ n31_ n32_; clear hb hbox hg; obtain ⟨Ao72, co72, eo72⟩ := Kd.R_slice HO245.out; subst eo72; have hnb73 := NB250_200.out; have hnc73 := NB200_250.out; have hnb74 := NB250_223.out; have hnc74 := NB223_250.out; have hnb75 := NB250_224.out; have hnc75 := NB224_250.out; have hnb76 := NB250_232.out; have hnc76 := NB232_250.out; have hnb77 := NB250_233.out; have hnc77 := NB233_250.out; have hnb78 := NB250_241.out; have hnc78 := NB241_250.out; have hnb79 := NB250_242.out; have hnc79 := NB242_250.out; have hnb80 := NB250_251.out; have hnc80 := NB251_250.out; have hcz81_0 : w71.cell? ⟨gb250, 0, none⟩ = some (.slice none 0 0) := (bkC BK250.out 0).trans rfl; have hcz81_1 : w71.cell? ⟨gb250, 1, none⟩ = some (.int .i64 0) := (bkC BK250.out 1).trans rfl; have hfz81_0 := bF_ BK250.out 0; have hfz81_1 := bF_ BK250.out 1; have hnb82 := NB251_200.out; have hnc82 := NB200_251.out; have hnb83 := NB251_223.out; have hnc83 := NB223_251.out; have hnb84 := NB251_224.out; have hnc84 := NB224_251.out; have hnb85 := NB251_232.out; have hnc85 := NB232_251.out; have hnb86 := NB251_233.out; have hnc86 := NB233_251.out; have hnb87 := NB251_241.out; have hnc87 := NB241_251.out; have hnb88 := NB251_242.out; have hnc88 := NB242_251.out; have hcz89_0 : w71.cell? ⟨gb251, 0, none⟩ = some (.int .i64 0) := (bkC BK251.out 0).trans rfl; have hcz89_1 : w71.cell? ⟨gb251, 1, none⟩ = some (.int .i64 0) := (bkC BK251.out 1).trans rfl; have hfz89_0 := bF_ BK251.out 0; have hfz89_1 := bF_ BK251.out 1))
      (try simp only [Act.put, List.setIfInBounds_toArray, List.set_cons_zero, List.set_cons_succ])
      go_cut [95] (fun v95 wc => ∃ (kq : Nat) (x95_27 : Bool), v95 = .bool x95_27 ∧ Az0 (lJL_.j1 kq x95_27 t220 t221 t229 t230 t238 t239 t247 t248 = some r) ∧ Az0 (kq ≤ kj4) ∧ Az0 (Kd.R (Kd.int .i64) 3 wc w.heap.size (fun k_ => some k_ ≠ ((.slice Ao42 t225.length co42) : Value).ownBlock ∧ some k_ ≠ ((.slice Ao55 t234.length co55) : Value).ownBlock ∧ some k_ ≠ ((.slice Ao72 t243.length co72) : Value).ownBlock) (.slice Ao32 t216.length co32) t216) ∧ Az0 (Kd.R (Kd.int .i64) 3 wc w.heap.size (fun k_ => some k_ ≠ ((.slice Ao32 t216.length co32) : Value).ownBlock ∧ some k_ ≠ ((.slice Ao55 t234.length co55) : Value).ownBlock ∧ some k_ ≠ ((.slice Ao72 t243.length co72) : Value).ownBlock) (.slice Ao42 t225.length co42) t225) ∧ Az0 (Kd.R (Kd.int .i64) 3 wc w.heap.size (fun k_ => some k_ ≠ ((.slice Ao32 t216.length co32) : Value).ownBlock ∧ some k_ ≠ ((.slice Ao42 t225.length co42) : Value).ownBlock ∧ some k_ ≠ ((.slice Ao72 t243.length co72) : Value).ownBlock) (.slice Ao55 t234.length co55) t234) ∧ Az0 (Kd.R (Kd.int .i64) 3 wc w.heap.size (fun k_ => some k_ ≠ ((.slice Ao32 t216.length co32) : Value).ownBlock ∧ some k_ ≠ ((.slice Ao42 t225.length co42) : Value).ownBlock ∧ some k_ ≠ ((.slice Ao55 t234.length co55) : Value).ownBlock) (.slice Ao72 t243.length co72) t243) ∧ Az0 (wc.heap[gb200]? = some (.cells #[.int .i64 a1_0, .int .i64 a1_1] 36 (0, 0))) ∧ Az0 (wc.heap[gb223]? = some (.cells #[(.slice Ao32 t216.length co32), .int .i64 t219] 26 (0, 0))) ∧ Az0 (wc.heap[gb224]? = some (.cells #[.int .i64 t220, .int .i64 t221] 28 (0, 0))) ∧ Az0 (wc.heap[gb232]? = some (.cells #[(.slice Ao42 t225.length co42), .int .i64 t228] 26 (0, 0))) ∧ Az0 (wc.heap[gb233]? = some (.cells #[.int .i64 t229, .int .i64 t230] 28 (0, 0))) ∧ Az0 (wc.heap[gb241]? = some (.cells #[(.slice Ao55 t234.length co55), .int .i64 t237] 26 (0, 0))) ∧ Az0 (wc.heap[gb242]? = some (.cells #[.int .i64 t238, .int .i64 t239] 28 (0, 0))) ∧ Az0 (wc.heap[gb250]? = some (.cells #[(.slice Ao72 t243.length co72), .int .i64 t246] 26 (0, 0))) ∧ Az0 (wc.heap[gb251]? = some (.cells #[.int .i64 t247, .int .i64 t248] 28 (0, 0))) ∧ Az0 (Below w.heap.size w wc))
      case first =>
       have H := HC28.out
       clear HC28
       by_cases c90 : t222 = 0
       ·rw [if_pos c90] at H
        have c90b0 : (t222 == 0) = true := beq_iff_eq.mpr c90
        have c90b1 : (t222 != 0) = false := bne_eq_false_iff_eq.mpr c90
        clear c90
        (first | rw [c90b0] | (simp only [i64_w, i32_w]; rw [c90b0]) | skip)
        by_cases c91 : t231 = 0
        ·rw [if_pos c91] at H
         have c91b0 : (t231 == 0) = true := beq_iff_eq.mpr c91
         have c91b1 : (t231 != 0) = false := bne_eq_false_iff_eq.mpr c91
         clear c91
         by_cases c92 : t240 = 0
         ·rw [if_pos c92] at H
          have c92b0 : (t240 == 0) = true := beq_iff_eq.mpr c92
          have c92b1 : (t240 != 0) = false := bne_eq_false_iff_eq.mpr c92
          clear c92
          by_cases c93 : t249 = 0
          ·rw [if_pos c93] at H
           have c93b0 : (t249 == 0) = true := beq_iff_eq.mpr c93
           have c93b1 : (t249 != 0) = false := bne_eq_false_iff_eq.mpr c93
           clear c93
           by_cases c94 : t221 < 1
           ·rw [if_pos c94] at H
            have c94b0 : decide (t221 < 1) = true := decide_eq_true c94
            clear c94
            exact absurd ((lJL_.j1_no _ _ _ _ _ _ _ _ _ _ H).symm.trans HRT.out) (by decide)
           ·rw [if_neg c94] at H
            have c94b0 : decide (t221 < 1) = false := decide_eq_false c94
            clear c94
            by_cases c104 : t230 < 1
            ·rw [if_pos c104] at H
             have c104b0 : decide (t230 < 1) = true := decide_eq_true c104
             clear c104
             exact absurd ((lJL_.j1_no _ _ _ _ _ _ _ _ _ _ H).symm.trans HRT.out) (by decide)
            ·rw [if_neg c104] at H
             have c104b0 : decide (t230 < 1) = false := decide_eq_false c104
             clear c104
             by_cases c122 : t239 < 1
             ·rw [if_pos c122] at H
              have c122b0 : decide (t239 < 1) = true := decide_eq_true c122
              clear c122
              exact absurd ((lJL_.j1_no _ _ _ _ _ _ _ _ _ _ H).symm.trans HRT.out) (by decide)
             ·rw [if_neg c122] at H
              have c122b0 : decide (t239 < 1) = false := decide_eq_false c122
              clear c122
              have H' := Az0.mk H
              clear H
              have hnb147 := NB224_200.out
              have hnc147 := NB200_224.out
              have hnb148 := NB224_223.out
              have hnc148 := NB223_224.out
              have hnb149 := NB224_232.out
              have hnc149 := NB232_224.out
              have hnb150 := NB224_233.out
              have hnc150 := NB233_224.out
              have hnb151 := NB224_241.out
              have hnc151 := NB241_224.out
              have hnb152 := NB224_242.out
              have hnc152 := NB242_224.out
              have hnb153 := NB224_250.out
              have hnc153 := NB250_224.out
              have hnb154 := NB224_251.out
              have hnc154 := NB251_224.out
              have hcz155_0 : w71.cell? ⟨gb224, 0, none⟩ = some (.int .i64 t220) := (bkC BK224.out 0).trans rfl
              have hcz155_1 : w71.cell? ⟨gb224, 1, none⟩ = some (.int .i64 t221) := (bkC BK224.out 1).trans rfl
              have hfz155_0 := bF_ BK224.out 0
              have hfz155_1 := bF_ BK224.out 1
              have hnb156 := NB233_200.out
              have hnc156 := NB200_233.out
              have hnb157 := NB233_223.out
              have hnc157 := NB223_233.out
              have hnb158 := NB233_232.out
              have hnc158 := NB232_233.out
              have hnb159 := NB233_241.out
              have hnc159 := NB241_233.out
              have hnb160 := NB233_242.out
              have hnc160 := NB242_233.out
              have hnb161 := NB233_250.out
              have hnc161 := NB250_233.out
              have hnb162 := NB233_251.out
              have hnc162 := NB251_233.out
              have hcz163_0 : w71.cell? ⟨gb233, 0, none⟩ = some (.int .i64 t229) := (bkC BK233.out 0).trans rfl
              have hcz163_1 : w71.cell? ⟨gb233, 1, none⟩ = some (.int .i64 t230) := (bkC BK233.out 1).trans rfl
              have hfz163_0 := bF_ BK233.out 0
              have hfz163_1 := bF_ BK233.out 1
              have hnb164 := NB242_200.out
              have hnc164 := NB200_242.out
              have hnb165 := NB242_223.out
              have hnc165 := NB223_242.out
              have hnb166 := NB242_232.out
              have hnc166 := NB232_242.out
              have hnb167 := NB242_241.out
              have hnc167 := NB241_242.out
              have hnb168 := NB242_250.out
              have hnc168 := NB250_242.out
              have hnb169 := NB242_251.out
              have hnc169 := NB251_242.out
              have hcz170_0 : w71.cell? ⟨gb242, 0, none⟩ = some (.int .i64 t238) := (bkC BK242.out 0).trans rfl
              have hcz170_1 : w71.cell? ⟨gb242, 1, none⟩ = some (.int .i64 t239) := (bkC BK242.out 1).trans rfl
              have hfz170_0 := bF_ BK242.out 0
              have hfz170_1 := bF_ BK242.out 1
              have hnb171 := NB251_200.out
              have hnc171 := NB200_251.out
              have hnb172 := NB251_223.out
              have hnc172 := NB223_251.out
              have hnb173 := NB251_232.out
              have hnc173 := NB232_251.out
              have hnb174 := NB251_241.out
              have hnc174 := NB241_251.out
              have hnb175 := NB251_250.out
              have hnc175 := NB250_251.out
              have hcz176_0 : w71.cell? ⟨gb251, 0, none⟩ = some (.int .i64 0) := (bkC BK251.out 0).trans rfl
              have hcz176_1 : w71.cell? ⟨gb251, 1, none⟩ = some (.int .i64 0) := (bkC BK251.out 1).trans rfl
              have hfz176_0 := bF_ BK251.out 0
              have hfz176_1 := bF_ BK251.out 1
              go_wp2
              go_meet
              case rel => exact ⟨_, (decide (t248 < 1)), (by first | rfl | (simp; done) | (simp [*]; done)), H', ⟨by have := HJ4.out; first | omega | exact Nat.le_refl _⟩, ⟨by (with_reducible repeat (first | apply Kd.R_alloc | apply Kd.R_drewN | apply Kd.R_drew)); exact Kd.rM_ (Kd.rF_ (p := ⟨gb251, 1, none⟩) (Kd.rF_ (p := ⟨gb251, 0, none⟩) (Kd.rF_ (p := ⟨gb250, 1, none⟩) (Kd.rF_ (p := ⟨gb250, 0, none⟩) (Kd.rY_ (Kd.rY_ HO218.out BK250.out (by decide)) BK251.out (by decide)) (fun _ hk => hk.1.2) (.slice Ao72 t243.length co72)) (fun _ hk => hk.1.2) (.int .i64 t246)) (fun _ hk => hk.2) (.int .i64 t247)) (fun _ hk => hk.2) (.int .i64 t248)) (fun _ hk => ⟨hk.1.1.1.1.2, ⟨hk.1.1.1.2, hk.1.1.2⟩⟩)⟩, ⟨by (with_reducible repeat (first | apply Kd.R_alloc | apply Kd.R_drewN | apply Kd.R_drew)); exact Kd.rM_ (Kd.rF_ (p := ⟨gb251, 1, none⟩) (Kd.rF_ (p := ⟨gb251, 0, none⟩) (Kd.rF_ (p := ⟨gb250, 1, none⟩) (Kd.rF_ (p := ⟨gb250, 0, none⟩) (Kd.rY_ (Kd.rY_ HO227.out BK250.out (by decide)) BK251.out (by decide)) (fun _ hk => hk.1.2) (.slice Ao72 t243.length co72)) (fun _ hk => hk.1.2) (.int .i64 t246)) (fun _ hk => hk.2) (.int .i64 t247)) (fun _ hk => hk.2) (.int .i64 t248)) (fun _ hk => ⟨hk.1.1.1.1.2, ⟨hk.1.1.1.2, hk.1.1.2⟩⟩)⟩, ⟨by (with_reducible repeat (first | apply Kd.R_alloc | apply Kd.R_drewN | apply Kd.R_drew)); exact Kd.rM_ (Kd.rF_ (p := ⟨gb251, 1, none⟩) (Kd.rF_ (p := ⟨gb251, 0, none⟩) (Kd.rF_ (p := ⟨gb250, 1, none⟩) (Kd.rF_ (p := ⟨gb250, 0, none⟩) (Kd.rY_ (Kd.rY_ HO236.out BK250.out (by decide)) BK251.out (by decide)) (fun _ hk => hk.1.2) (.slice Ao72 t243.length co72)) (fun _ hk => hk.1.2) (.int .i64 t246)) (fun _ hk => hk.2) (.int .i64 t247)) (fun _ hk => hk.2) (.int .i64 t248)) (fun _ hk => ⟨hk.1.1.1.1.2, ⟨hk.1.1.1.2, hk.1.1.2⟩⟩)⟩, ⟨by (with_reducible repeat (first | apply Kd.R_alloc | apply Kd.R_drewN | apply Kd.R_drew)); exact Kd.rM_ (Kd.rF_ (p := ⟨gb251, 1, none⟩) (Kd.rF_ (p := ⟨gb251, 0, none⟩) (Kd.rF_ (p := ⟨gb250, 1, none⟩) (Kd.rF_ (p := ⟨gb250, 0, none⟩) (Kd.rY_ (Kd.rY_ HO245.out BK250.out (by decide)) BK251.out (by decide)) (fun _ hk => hk.1.2) (.slice Ao72 t243.length co72)) (fun _ hk => hk.1.2) (.int .i64 t246)) (fun _ hk => hk.2) (.int .i64 t247)) (fun _ hk => hk.2) (.int .i64 t248)) (fun _ hk => ⟨hk.1.1.1.1.2, ⟨hk.1.1.1.2, hk.1.1.2⟩⟩)⟩, ⟨by (with_reducible repeat (first | refine bN_ ?_ _ | refine bW_ ?_ | refine bA_ ?_ _)); refine bR_ ?_ NB200_251.out _; (with_reducible repeat (first | refine bN_ ?_ _ | refine bW_ ?_ | refine bA_ ?_ _)); refine bR_ ?_ NB200_251.out _; (with_reducible repeat (first | refine bN_ ?_ _ | refine bW_ ?_ | refine bA_ ?_ _)); refine bR_ ?_ NB200_250.out _; (with_reducible repeat (first | refine bN_ ?_ _ | refine bW_ ?_ | refine bA_ ?_ _)); refine bR_ ?_ NB200_250.out _; (with_reducible repeat (first | refine bN_ ?_ _ | refine bW_ ?_ | refine bA_ ?_ _)); exact BK200.out⟩, ⟨by (with_reducible repeat (first | refine bN_ ?_ _ | refine bW_ ?_ | refine bA_ ?_ _)); refine bR_ ?_ NB223_251.out _; (with_reducible repeat (first | refine bN_ ?_ _ | refine bW_ ?_ | refine bA_ ?_ _)); refine bR_ ?_ NB223_251.out _; (with_reducible repeat (first | refine bN_ ?_ _ | refine bW_ ?_ | refine bA_ ?_ _)); refine bR_ ?_ NB223_250.out _; (with_reducible repeat (first | refine bN_ ?_ _ | refine bW_ ?_ | refine bA_ ?_ _)); refine bR_ ?_ NB223_250.out _; (with_reducible repeat (first | refine bN_ ?_ _ | refine bW_ ?_ | refine bA_ ?_ _)); exact BK223.out⟩, ⟨by (with_reducible repeat (first | refine bN_ ?_ _ | refine bW_ ?_ | refine bA_ ?_ _)); refine bR_ ?_ NB224_251.out _; (with_reducible repeat (first | refine bN_ ?_ _ | refine bW_ ?_ | refine bA_ ?_ _)); refine bR_ ?_ NB224_251.out _; (with_reducible repeat (first | refine bN_ ?_ _ | refine bW_ ?_ | refine bA_ ?_ _)); refine bR_ ?_ NB224_250.out _; (with_reducible repeat (first | refine bN_ ?_ _ | refine bW_ ?_ | refine bA_ ?_ _)); refine bR_ ?_ NB224_250.out _; (with_reducible repeat (first | refine bN_ ?_ _ | refine bW_ ?_ | refine bA_ ?_ _)); exact BK224.out⟩, ⟨by (with_reducible repeat (first | refine bN_ ?_ _ | refine bW_ ?_ | refine bA_ ?_ _)); refine bR_ ?_ NB232_251.out _; (with_reducible repeat (first | refine bN_ ?_ _ | refine bW_ ?_ | refine bA_ ?_ _)); refine bR_ ?_ NB232_251.out _; (with_reducible repeat (first | refine bN_ ?_ _ | refine bW_ ?_ | refine bA_ ?_ _)); refine bR_ ?_ NB232_250.out _; (with_reducible repeat (first | refine bN_ ?_ _ | refine bW_ ?_ | refine bA_ ?_ _)); refine bR_ ?_ NB232_250.out _; (with_reducible repeat (first | refine bN_ ?_ _ | refine bW_ ?_ | refine bA_ ?_ _)); exact BK232.out⟩, ⟨by (with_reducible repeat (first | refine bN_ ?_ _ | refine bW_ ?_ | refine bA_ ?_ _)); refine bR_ ?_ NB233_251.out _; (with_reducible repeat (first | refine bN_ ?_ _ | refine bW_ ?_ | refine bA_ ?_ _)); refine bR_ ?_ NB233_251.out _; (with_reducible repeat (first | refine bN_ ?_ _ | refine bW_ ?_ | refine bA_ ?_ _)); refine bR_ ?_ NB233_250.out _; (with_reducible repeat (first | refine bN_ ?_ _ | refine bW_ ?_ | refine bA_ ?_ _)); refine bR_ ?_ NB233_250.out _; (with_reducible repeat (first | refine bN_ ?_ _ | refine bW_ ?_ | refine bA_ ?_ _)); exact BK233.out⟩, ⟨by (with_reducible repeat (first | refine bN_ ?_ _ | refine bW_ ?_ | refine bA_ ?_ _)); refine bR_ ?_ NB241_251.out _; (with_reducible repeat (first | refine bN_ ?_ _ | refine bW_ ?_ | refine bA_ ?_ _)); refine bR_ ?_ NB241_251.out _; (with_reducible repeat (first | refine bN_ ?_ _ | refine bW_ ?_ | refine bA_ ?_ _)); refine bR_ ?_ NB241_250.out _; (with_reducible repeat (first | refine bN_ ?_ _ | refine bW_ ?_ | refine bA_ ?_ _)); refine bR_ ?_ NB241_250.out _; (with_reducible repeat (first | refine bN_ ?_ _ | refine bW_ ?_ | refine bA_ ?_ _)); exact BK241.out⟩, ⟨by (with_reducible repeat (first | refine bN_ ?_ _ | refine bW_ ?_ | refine bA_ ?_ _)); refine bR_ ?_ NB242_251.out _; (with_reducible repeat (first | refine bN_ ?_ _ | refine bW_ ?_ | refine bA_ ?_ _)); refine bR_ ?_ NB242_251.out _; (with_reducible repeat (first | refine bN_ ?_ _ | refine bW_ ?_ | refine bA_ ?_ _)); refine bR_ ?_ NB242_250.out _; (with_reducible repeat (first | refine bN_ ?_ _ | refine bW_ ?_ | refine bA_ ?_ _)); refine bR_ ?_ NB242_250.out _; (with_reducible repeat (first | refine bN_ ?_ _ | refine bW_ ?_ | refine bA_ ?_ _)); exact BK242.out⟩, ⟨by (with_reducible repeat (first | refine bN_ ?_ _ | refine bW_ ?_ | refine bA_ ?_ _)); refine bR_ ?_ NB250_251.out _; (with_reducible repeat (first | refine bN_ ?_ _ | refine bW_ ?_ | refine bA_ ?_ _)); refine bR_ ?_ NB250_251.out _; (with_reducible repeat (first | refine bN_ ?_ _ | refine bW_ ?_ | refine bA_ ?_ _)); refine blk_put (cs := #[.slice Ao72 t243.length co72, .int .i64 0]) ?_ 1 _ rfl; (with_reducible repeat (first | refine bN_ ?_ _ | refine bW_ ?_ | refine bA_ ?_ _)); refine blk_put (cs := #[.slice none 0 0, .int .i64 0]) ?_ 0 _ rfl; (with_reducible repeat (first | refine bN_ ?_ _ | refine bW_ ?_ | refine bA_ ?_ _)); exact BK250.out⟩, ⟨by (with_reducible repeat (first | refine bN_ ?_ _ | refine bW_ ?_ | refine bA_ ?_ _)); refine blk_put (cs := #[.int .i64 t247, .int .i64 0]) ?_ 1 _ rfl; (with_reducible repeat (first | refine bN_ ?_ _ | refine bW_ ?_ | refine bA_ ?_ _)); refine blk_put (cs := #[.int .i64 0, .int .i64 0]) ?_ 0 _ rfl; (with_reducible repeat (first | refine bN_ ?_ _ | refine bW_ ?_ | refine bA_ ?_ _)); refine bR_ ?_ NB251_250.out _; (with_reducible repeat (first | refine bN_ ?_ _ | refine bW_ ?_ | refine bA_ ?_ _)); refine bR_ ?_ NB251_250.out _; (with_reducible repeat (first | refine bN_ ?_ _ | refine bW_ ?_ | refine bA_ ?_ _)); exact BK251.out⟩, ⟨by repeat (first | (with_reducible first | exact HB.out | apply baA_ | apply pbN_ | apply bD1_ | refine bS_ ?_ GE200.out | refine bS_ ?_ GE223.out | refine bS_ ?_ GE224.out | refine bS_ ?_ GE232.out | refine bS_ ?_ GE233.out | refine bS_ ?_ GE241.out | refine bS_ ?_ GE242.out | refine bS_ ?_ GE250.out | refine bS_ ?_ GE251.out) | exact HB.out)⟩⟩
          ·rw [if_neg c93] at H
           have c93b0 : (t249 == 0) = false := beq_eq_false_iff_ne.mpr c93
           have c93b1 : (t249 != 0) = true := bne_iff_ne.mpr c93
           exact absurd ((lJL_.j1_no _ _ _ _ _ _ _ _ _ _ H).symm.trans HRT.out) (by decide)
         ·rw [if_neg c92] at H
          have c92b0 : (t240 == 0) = false := beq_eq_false_iff_ne.mpr c92
          have c92b1 : (t240 != 0) = true := bne_iff_ne.mpr c92
          exact absurd ((lJL_.j1_no _ _ _ _ _ _ _ _ _ _ H).symm.trans HRT.out) (by decide)
        ·rw [if_neg c91] at H
         have c91b0 : (t231 == 0) = false := beq_eq_false_iff_ne.mpr c91
         have c91b1 : (t231 != 0) = true := bne_iff_ne.mpr c91
         exact absurd ((lJL_.j1_no _ _ _ _ _ _ _ _ _ _ H).symm.trans HRT.out) (by decide)
       ·rw [if_neg c90] at H
        have c90b0 : (t222 == 0) = false := beq_eq_false_iff_ne.mpr c90
        have c90b1 : (t222 != 0) = true := bne_iff_ne.mpr c90
        (first | rw [c90b0] | (simp only [i64_w, i32_w]; rw [c90b0]) | skip)
        exact absurd ((lJL_.j1_no _ _ _ _ _ _ _ _ _ _ H).symm.trans HRT.out) (by decide)
      case rest =>
       clear HC28
       try clear c1
       try clear c2
       try clear p2
       try clear c3
       try clear c4
       try clear c5
       try clear c6
       try clear c7
       try clear c8
       try clear c9
       try clear c10
       try clear c11
       try clear c12
       try clear c13
       try clear c14
       try clear c15
       try clear c16
       try clear c16b0
       try clear c16b1
       try clear c17
       try clear c18
       try clear c18b0
       try clear c18b1
       try clear c20
       try clear c21
       try clear c33
       try clear c34
       try clear c36
       try clear c43
       try clear c44
       try clear c45
       try clear c46
       try clear c48
       try clear c49
       try clear c50
       try clear c56
       try clear c57
       try clear c58
       try clear c59
       try clear c60
       try clear c61
       try clear c63
       try clear c64
       try clear c65
       try clear c66
       try clear c67
       try clear c73
       try clear c74
       try clear c75
       try clear c76
       try clear c77
       try clear c78
       try clear c79
       try clear c80
       try clear c82
       try clear c83
       try clear c84
       try clear c85
       try clear c86
       try clear c87
       try clear c88
       try clear c90
       try clear c90b0
       try clear c90b1
       try clear c91
       try clear c91b0
       try clear c91b1
       try clear c92
       try clear c92b0
       try clear c92b1
       try clear c93
       try clear c93b0
       try clear c93b1
       try clear c94
       try clear c94b0
       try clear c95
       try clear c96
       try clear c97
       try clear c98
       try clear c99
       try clear c100
       try clear c101
       try clear c102
       try clear c104
       try clear c104b0
       try clear c105
       try clear c106
       try clear c107
       try clear c108
       try clear c109
       try clear c110
       try clear c111
       try clear c112
       try clear c114
       try clear c115
       try clear c116
       try clear c117
       try clear c118
       try clear c119
       try clear c120
       try clear c122
       try clear c122b0
       try clear c123
       try clear c124
       try clear c125
       try clear c126
       try clear c127
       try clear c128
       try clear c129
       try clear c130
       try clear c132
       try clear c133
       try clear c134
       try clear c135
       try clear c136
       try clear c137
       try clear c138
       try clear c140
       try clear c141
       try clear c142
       try clear c143
       try clear c144
       try clear c145
       try clear c147
       try clear c148
       try clear c149
       try clear c150
       try clear c151
       try clear c152
       try clear c153
       try clear c154
       try clear c156
       try clear c157
       try clear c158
       try clear c159
       try clear c160
       try clear c161
       try clear c162
       try clear c164
       try clear c165
       try clear c166
       try clear c167
       try clear c168
       try clear c169
       try clear c171
       try clear c172
       try clear c173
       try clear c174
       try clear c175
       try clear hcz103_0
       try clear hcz103_1
       try clear hcz113_0
       try clear hcz113_1
       try clear hcz121_0
       try clear hcz121_1
       try clear hcz131_0
       try clear hcz131_1
       try clear hcz139_0
       try clear hcz139_1
       try clear hcz146_0
       try clear hcz146_1
       try clear hcz155_0
       try clear hcz155_1
       try clear hcz163_0
       try clear hcz163_1
       try clear hcz170_0
       try clear hcz170_1
       try clear hcz176_0
       try clear hcz176_1
       try clear hcz35_0
       try clear hcz35_1
       try clear hcz37_0
       try clear hcz37_1
       try clear hcz47_0
       try clear hcz47_1
       try clear hcz51_0
       try clear hcz51_1
       try clear hcz62_0
       try clear hcz62_1
       try clear hcz68_0
       try clear hcz68_1
       try clear hcz81_0
       try clear hcz81_1
       try clear hcz89_0
       try clear hcz89_1
       try clear hfz103_0
       try clear hfz103_1
       try clear hfz113_0
       try clear hfz113_1
       try clear hfz121_0
       try clear hfz121_1
       try clear hfz131_0
       try clear hfz131_1
       try clear hfz139_0
       try clear hfz139_1
       try clear hfz146_0
       try clear hfz146_1
       try clear hfz155_0
       try clear hfz155_1
       try clear hfz163_0
       try clear hfz163_1
       try clear hfz170_0
       try clear hfz170_1
       try clear hfz176_0
       try clear hfz176_1
       try clear hfz35_0
       try clear hfz35_1
       try clear hfz37_0
       try clear hfz37_1
       try clear hfz47_0
       try clear hfz47_1
       try clear hfz51_0
       try clear hfz51_1
       try clear hfz62_0
       try clear hfz62_1
       try clear hfz68_0
       try clear hfz68_1
       try clear hfz81_0
       try clear hfz81_1
       try clear hfz89_0
       try clear hfz89_1
       try clear p2
       obtain ⟨kq, x95_27, rfl, HA, HJ27, HO_224000, HO_233000, HO_242000, HO_251000, BK200, BK223, BK224, BK232, BK233, BK241, BK242, BK250, BK251, HB⟩ := hcut
       cases kq with
       | zero => exact absurd HA.out (by simp [lJL_.j1])
       | succ kj27 =>
        have H := HA.out
        clear HA
        simp only [lJL_.j1] at H
        by_cases c177 : x95_27 = true
        ·subst c177
         have H1 : (some false) = some r := by rw [if_pos rfl] at H; exact H
         exact absurd ((Option.some.inj H1).trans HRT.out) (by decide)
        ·replace c177 := Bool.eq_false_iff.mpr c177
         subst c177
         have H1 : ((lLe_.f kj27 t220 t221 1 t229 t230 1).bind fun t252 => (if t252 = true then (some false) else ((lLe_.f kj27 t238 t239 1 t247 t248 1).bind fun t253 => (if t253 = true then (some false) else ((lAl_.f kj27).bind fun t254 => (some t254)))))) = some r := by rw [if_neg (show ¬ (false = true) by decide)] at H; exact H
         clear H
         have H := H1
         clear H1
         replace H := Option.bind_eq_some_iff.mp H
         obtain ⟨t252, A1780, H⟩ := H
         replace H : (if t252 = true then (some false) else ((lLe_.f kj27 t238 t239 1 t247 t248 1).bind fun t253 => (if t253 = true then (some false) else ((lAl_.f kj27).bind fun t254 => (some t254))))) = some r := H
         have A178 := Az0.mk A1780
         clear A1780
         by_cases c179 : t252 = true
         ·subst c179
          have H1 : (some false) = some r := by rw [if_pos rfl] at H; exact H
          exact absurd ((Option.some.inj H1).trans HRT.out) (by decide)
         ·replace c179 := Bool.eq_false_iff.mpr c179
          subst c179
          have H1 : ((lLe_.f kj27 t238 t239 1 t247 t248 1).bind fun t253 => (if t253 = true then (some false) else ((lAl_.f kj27).bind fun t254 => (some t254)))) = some r := by rw [if_neg (show ¬ (false = true) by decide)] at H; exact H
          clear H
          have H := H1
          clear H1
          replace H := Option.bind_eq_some_iff.mp H
          obtain ⟨t253, A1980, H⟩ := H
          replace H : (if t253 = true then (some false) else ((lAl_.f kj27).bind fun t254 => (some t254))) = some r := H
          have A198 := Az0.mk A1980
          clear A1980
          by_cases c199 : t253 = true
          ·subst c199
           have H1 : (some false) = some r := by rw [if_pos rfl] at H; exact H
           exact absurd ((Option.some.inj H1).trans HRT.out) (by decide)
          ·replace c199 := Bool.eq_false_iff.mpr c199
           subst c199
           have H1 : ((lAl_.f kj27).bind fun t254 => (some t254)) = some r := by rw [if_neg (show ¬ (false = true) by decide)] at H; exact H
           clear H
           have H := H1
           clear H1
           replace H := Option.bind_eq_some_iff.mp H
           obtain ⟨t254, A2320, H⟩ := H
           replace H : (some t254) = some r := H
           have A232 := Az0.mk A2320
           clear A2320
           obtain rfl := Option.some.inj H
           have hnb233 := NB224_200.out
           have hnc233 := NB200_224.out
           have hnb234 := NB224_223.out
           have hnc234 := NB223_224.out
           have hnb235 := NB224_232.out
           have hnc235 := NB232_224.out
           have hnb236 := NB224_233.out
           have hnc236 := NB233_224.out
           have hnb237 := NB224_241.out
           have hnc237 := NB241_224.out
           have hnb238 := NB224_242.out
           have hnc238 := NB242_224.out
           have hnb239 := NB224_250.out
           have hnc239 := NB250_224.out
           have hnb240 := NB224_251.out
           have hnc240 := NB251_224.out
           have hcz241_0 : wc.cell? ⟨gb224, 0, none⟩ = some (.int .i64 t220) := (bkC BK224.out 0).trans rfl
           have hcz241_1 : wc.cell? ⟨gb224, 1, none⟩ = some (.int .i64 t221) := (bkC BK224.out 1).trans rfl
           have hfz241_0 := bF_ BK224.out 0
           have hfz241_1 := bF_ BK224.out 1
           have hnb242 := NB233_200.out
           have hnc242 := NB200_233.out
           have hnb243 := NB233_223.out
           have hnc243 := NB223_233.out
           have hnb244 := NB233_232.out
           have hnc244 := NB232_233.out
           have hnb245 := NB233_241.out
           have hnc245 := NB241_233.out
           have hnb246 := NB233_242.out
           have hnc246 := NB242_233.out
           have hnb247 := NB233_250.out
           have hnc247 := NB250_233.out
           have hnb248 := NB233_251.out
           have hnc248 := NB251_233.out
           have hcz249_0 : wc.cell? ⟨gb233, 0, none⟩ = some (.int .i64 t229) := (bkC BK233.out 0).trans rfl
           have hcz249_1 : wc.cell? ⟨gb233, 1, none⟩ = some (.int .i64 t230) := (bkC BK233.out 1).trans rfl
           have hfz249_0 := bF_ BK233.out 0
           have hfz249_1 := bF_ BK233.out 1
           go_wp2_with (first | ((with_reducible refine gate_callee (f := 23) rfl ?_); refine goesL_ (some 98) rfl rfl Try.func23 (by kernel_rfl) rfl #[.agg #[.int .i64 t220, .int .i64 t221], .int .i64 1, .agg #[.int .i64 t229, .int .i64 t230], .int .i64 1] rfl (by (try simp only [List.map_toArray, List.map_cons, List.map_nil]); first | done | rfl | (simp only [List.length_drop, List.length_take]; rfl)) ?_; (with_reducible refine (lLe_.calls kj27 t220 t221 1 t229 t230 1 false _ A178.out).mono ?_); rintro e w250 ⟨rfl, hb⟩; refine ⟨_, rfl, ?_⟩; replace BK242 := Az0.mk (bB_ (g := gb242) (o := .cells #[.int .i64 t238, .int .i64 t239] 28 (0, 0)) (by (with_reducible repeat (first | refine bN_ ?_ _ | refine bW_ ?_ | refine bA_ ?_ _)); exact BK242.out) hb); replace BK251 := Az0.mk (bB_ (g := gb251) (o := .cells #[.int .i64 t247, .int .i64 t248] 28 (0, 0)) (by (with_reducible repeat (first | refine bN_ ?_ _ | refine bW_ ?_ | refine bA_ ?_ _)); exact BK251.out) hb); replace HB := Az0.mk (bP_ (by repeat (first | (with_reducible first | exact HB.out | apply baA_ | apply pbN_ | apply bD1_ | refine bS_ ?_ GE200.out | refine bS_ ?_ GE223.out | refine bS_ ?_ GE224.out | refine bS_ ?_ GE232.out | refine bS_ ?_ GE233.out | refine bS_ ?_ GE241.out | refine bS_ ?_ GE242.out | refine bS_ ?_ GE250.out | refine bS_ ?_ GE251.out) | exact HB.out)) hb); (try clear hb); (try clear hb2); (try clear hk); (try clear hi); have hnb251 := NB242_200.out; have hnc251 := NB200_242.out; have hnb252 := NB242_223.out; have hnc252 := NB223_242.out; have hnb253 := NB242_232.out; have hnc253 := NB232_242.out; have hnb254 := NB242_241.out; have hnc254 := NB241_242.out; have hnb255 := NB242_250.out; have hnc255 := NB250_242.out; have hnb256 := NB242_251.out; have hnc256 := NB251_242.out; have hcz257_0 : w250.cell? ⟨gb242, 0, none⟩ = some (.int .i64 t238) := (bkC BK242.out 0).trans rfl; have hcz257_1 : w250.cell? ⟨gb242, 1, none⟩ = some (.int .i64 t239) := (bkC BK242.out 1).trans rfl; have hfz257_0 := bF_ BK242.out 0; have hfz257_1 := bF_ BK242.out 1; have hnb258 := NB251_200.out; have hnc258 := NB200_251.out; have hnb259 := NB251_223.out; have hnc259 := NB223_251.out; have hnb260 := NB251_232.out; have hnc260 := NB232_251.out; have hnb261 := NB251_241.out; have hnc261 := NB241_251.out; have hnb262 := NB251_250.out; have hnc262 := NB250_251.out; have hcz263_0 : w250.cell? ⟨gb251, 0, none⟩ = some (.int .i64 t247) := (bkC BK251.out 0).trans rfl; have hcz263_1 : w250.cell? ⟨gb251, 1, none⟩ = some (.int .i64 t248) := (bkC BK251.out 1).trans rfl; have hfz263_0 := bF_ BK251.out 0; have hfz263_1 := bF_ BK251.out 1) | (go_at_call 23; (with_reducible refine (lLe_.calls kj27 t238 t239 1 t247 t248 1 false _ A198.out).mono ?_); rintro e w264 ⟨rfl, hb⟩; replace HB := Az0.mk (bP_ (by repeat (first | (with_reducible first | exact HB.out | apply baA_ | apply pbN_ | apply bD1_ | refine bS_ ?_ GE200.out | refine bS_ ?_ GE223.out | refine bS_ ?_ GE224.out | refine bS_ ?_ GE232.out | refine bS_ ?_ GE233.out | refine bS_ ?_ GE241.out | refine bS_ ?_ GE242.out | refine bS_ ?_ GE250.out | refine bS_ ?_ GE251.out) | exact HB.out)) hb); (try clear hb); (try clear hb2); (try clear hk); (try clear hi)) | (go_at_call 16; (with_reducible refine (lAl_.calls kj27  t254 _ A232.out).mono ?_); rintro e w265 ⟨rfl, hb⟩; replace HB := Az0.mk (bP_ (by repeat (first | (with_reducible first | exact HB.out | apply baA_ | apply pbN_ | apply bD1_ | refine bS_ ?_ GE200.out | refine bS_ ?_ GE223.out | refine bS_ ?_ GE224.out | refine bS_ ?_ GE232.out | refine bS_ ?_ GE233.out | refine bS_ ?_ GE241.out | refine bS_ ?_ GE242.out | refine bS_ ?_ GE250.out | refine bS_ ?_ GE251.out) | exact HB.out)) hb); (try clear hb); (try clear hb2); (try clear hk); (try clear hi)))
           go_ret
           exact ⟨by first | rfl | (simp [errW_none, errW_some] <;> rfl) | (simp [*, errW_none, errW_some] <;> rfl), by repeat (first | (with_reducible first | exact HB.out | apply baA_ | apply pbN_ | apply bD1_ | refine bS_ ?_ GE200.out | refine bS_ ?_ GE223.out | refine bS_ ?_ GE224.out | refine bS_ ?_ GE232.out | refine bS_ ?_ GE233.out | refine bS_ ?_ GE241.out | refine bS_ ?_ GE242.out | refine bS_ ?_ GE250.out | refine bS_ ?_ GE251.out) | exact HB.out)⟩
  ·rw [if_neg c4] at H
   exact absurd H (by simp)
 ·rw [if_neg c3] at H
  exact absurd H (by simp)
end Go.Proofs.Ytjgbdicbdlollaa.B
namespace Go.Proofs.Ytjgbdicbdlollaa.B
open Go.RowKit Go.ChangeShapes Go.WideShapes Go.Deep Go.Proofs.YtjgbdicbdlollaaW.PrintWords Go.Proofs.YtjgbdicbdlollaaW.PrintLast Go.Proofs.YtjgbdicbdlollaaW.PrintMore
/-- A lane's two numbers are whole numbers of 64 bits. -/
def okS36 (x : S36) : Prop := (Lit.int .i64 x.f0).wf = true ∧ (Lit.int .i64 x.f1).wf = true
section
variable {H : Type} {enc : TypeId × Value → H} {w : World} {spare : Nat → Bool} {held : Bool}
set_option maxRecDepth 100000 in
theorem open_lane {fuel : Nat} {cs : List Value} {x : DataW H × List MemPlace} (h : DataW.trod enc Try.prog w 0 spare held fuel 36 cs = some x) : ∃ s : S36, cs = [.int .i64 s.f0, .int .i64 s.f1] ∧ okS36 s := by
  obtain ⟨xs, n, _, _, hlen, hxl, hf⟩ := DataW.trod_struct Try.underlying36 h
  have h36 : Try.prog.cellsOf 36 = 2 := by kernel_rfl
  have h3 : Try.prog.cellsOf 3 = 1 := by kernel_rfl
  rw [h36] at hlen
  match cs, hlen with
  | [c0, c1], _ =>
    have hsz : xs.length = 2 := hxl
    match xs, hsz with
    | [y0, y1], _ =>
      have g0 : DataW.trod enc Try.prog w 0 spare held n 3 (([c0, c1].drop 0).take (Try.prog.cellsOf 3)) = some y0 := hf 0 _ rfl
      have g1 : DataW.trod enc Try.prog w 0 spare held n 3 (([c0, c1].drop 1).take (Try.prog.cellsOf 3)) = some y1 := hf 1 _ rfl
      rw [h3] at g0 g1
      obtain ⟨n0, e0, _, w0⟩ := DataW.trod_int Try.underlying3 g0
      obtain ⟨n1, e1, _, w1⟩ := DataW.trod_int Try.underlying3 g1
      obtain rfl : c0 = .int .i64 n0 := by injection e0
      obtain rfl : c1 = .int .i64 n1 := by injection e1
      exact ⟨⟨n0, n1⟩, rfl, w0, w1⟩
theorem open_lanes {a : Option Addr} {len cap : Nat} {d : DataW H} {p : List MemPlace} (h : DataW.Trod enc Try.prog w 0 spare held 22 (.slice a len cap) d p) :
    ∃ l : List S36, Kd.C k36 w a l.length l ∧ l.length = len ∧ len ≤ cap ∧ cap ≤ maxLen ∧ ∀ x ∈ l, okS36 x := by
  obtain ⟨fuel, hf⟩ := h
  rcases open_slice Try.underlying22 hf with ⟨hcs, _⟩ | ⟨x, l, c, m, n, D, Pl, hcs, _, hl, hm, hmm, _, hi⟩
  · simp [Value.cells] at hcs
    obtain ⟨rfl, rfl, rfl⟩ := hcs
    exact ⟨[], ⟨rfl, by simp, fun h => absurd h (by simp)⟩, rfl, Nat.le_refl _, by simp, by simp⟩
  · simp [Value.cells] at hcs
    obtain ⟨rfl, rfl, rfl⟩ := hcs
    have hlm : len ≤ m := by rw [hmm]; split <;> omega
    have h36 : Try.prog.cellsOf 36 = 2 := by kernel_rfl
    rw [h36] at hi
    have hex : ∀ i : Nat, ∃ s : S36, i < len → okS36 s ∧ w.cells? 0 (x.add (i * 2)) 2 = some [.int .i64 s.f0, .int .i64 s.f1] := by
      intro i
      by_cases h : i < len
      · obtain ⟨cs', hc, ht⟩ := hi i (by omega)
        obtain ⟨s, rfl, hs⟩ := open_lane ht
        exact ⟨s, fun _ => ⟨hs, hc⟩⟩
      · exact ⟨z36, fun h' => absurd h' h⟩
    obtain ⟨f, hf⟩ := Classical.axiomOfChoice hex
    have hll : ((List.range len).map f).length = len := by simp
    refine ⟨(List.range len).map f, ⟨rfl, by rw [hll]; simp only [maxLen] at hm; omega, fun _ => ⟨x, rfl, fun j p hj => ?_⟩⟩, hll, hl, hm, fun y hy => ?_⟩
    · have hjl : j < len := by have := (List.getElem?_eq_some_iff.1 hj).1; rw [hll] at this; exact this
      rw [List.getElem?_map, List.getElem?_range hjl] at hj
      injection hj with hj
      subst hj
      obtain ⟨hs, hc⟩ := hf j hjl
      obtain ⟨_, _, hat⟩ := World.cells?_some hc
      refine ⟨[.int .i64 (f j).f0, .int .i64 (f j).f1], rfl, k36_mk w (f j), fun i u hu => ?_⟩
      have hi2 : i < 2 := (List.getElem?_eq_some_iff.1 hu).1
      show w.cell? (x.add (j * 2 + i)) = some u
      rw [← Go.Deep.add_add, hat i hi2, hu]
    · obtain ⟨j, hj, rfl⟩ := List.mem_map.1 hy
      exact (hf j (List.mem_range.1 hj)).1
end
end Go.Proofs.Ytjgbdicbdlollaa.B
namespace Go.Proofs.Ytjgbdicbdlollaa.B
open Go.RowKit Go.ChangeShapes Go.WideShapes Go.Deep Go.Proofs.YtjgbdicbdlollaaW.PrintWords Go.Proofs.YtjgbdicbdlollaaW.PrintLast Go.Proofs.YtjgbdicbdlollaaW.PrintMore
section
variable {H : Type} {enc : TypeId × Value → H} {w : World} {spare : Nat → Bool} {held : Bool}
set_option maxRecDepth 100000 in
theorem open_lane1 {r : Reach} {b0 : Nat} {v : Value} {d : DataW H} {ps : List MemPlace} (hval : Value.okWide Try.prog w r b0 36 v) (h : DataW.Trod enc Try.prog w 0 spare held 36 v d ps) : ∃ s : S36, v = .agg #[.int .i64 s.f0, .int .i64 s.f1] ∧ okS36 s := by
  obtain ⟨fuel, hf⟩ := h
  obtain ⟨cs, rfl, _⟩ := okWide_struct Try.underlying36 hval
  obtain ⟨s, hc, hs⟩ := open_lane hf
  refine ⟨s, ?_, hs⟩
  have hc2 : cs.toList = [.int .i64 s.f0, .int .i64 s.f1] := hc
  rw [← hc2]
theorem sized_lanes {ts : List TypeId} {ds : List (DataW H)} {j : Nat} {a : Option Addr} {len cap : Nat} {d : DataW H} {p : List MemPlace} (hsz : (DataW.weightsEach Try.prog ts ds).all (· ≤ reachBytes) = true) (ht : ts[j]? = some 22) (hd : ds[j]? = some d)
    (h : DataW.Trod enc Try.prog w 0 spare held 22 (.slice a len cap) d p) : len * 16 ≤ 140737488351232 := by
  obtain ⟨fuel, hf⟩ := h
  rcases open_slice Try.underlying22 hf with ⟨hcs, _⟩ | ⟨x, l, c, m, n, D, Pl, hcs, hx, hl, hm, hmm, hxx, hi⟩
  · simp [Value.cells] at hcs
    obtain ⟨rfl, rfl, rfl⟩ := hcs
    simp
  · simp [Value.cells] at hcs
    obtain ⟨rfl, rfl, rfl⟩ := hcs
    obtain ⟨hxx, _⟩ := Prod.mk.inj hxx
    subst hxx
    have z := sized_slice hsz ht hd Try.underlying22
    rw [show Try.prog.bytesOf 36 = 16 by kernel_rfl] at z
    simp only [List.length_map, List.length_range, reachBytes] at z
    exact Nat.le_trans (Nat.mul_le_mul_right 16 (Nat.le_add_right _ _)) z
end
end Go.Proofs.Ytjgbdicbdlollaa.B
namespace Go.Proofs.Ytjgbdicbdlollaa.B
open Go.RowKit Go.Proofs.YtjgbdicbdlollaaW.PrintWords Go.Proofs.YtjgbdicbdlollaaW.PrintLast Go.Proofs.YtjgbdicbdlollaaW.PrintMore
def lJL_.Pure : Prop := ∀ (l0 : List S36) (a1 : S36), l0.length ≤ maxLen → l0.length * 16 ≤ 140737488351232 → (∀ x ∈ l0, okS36 x) → okS36 a1 → ∃ k, lJL_.f k l0 a1.f0 a1.f1 = some true
theorem lJL_.walk (P : lJL_.Pure) (w : World) (A0 : Option Addr) (c0 : Nat) (l0 : List S36) (hr0 : Kd.C k36 w A0 l0.length l0) (hc0 : l0.length ≤ c0) (a1 : S36) (h0_0 : l0.length ≤ maxLen) (h1_0 : l0.length * 16 ≤ 140737488351232) (h2_0 : (∀ x ∈ l0, okS36 x)) (h3_0 : okS36 a1) :
    Calls Try.prog 5 #[.slice A0 l0.length c0, .agg #[.int .i64 a1.f0, .int .i64 a1.f1]] w fun e w' => e = .returned (.bool true) ∧ Below w.heap.size w w' := by
  obtain ⟨k, h⟩ := P l0 a1 h0_0 h1_0 h2_0 h3_0
  refine (lJL_.calls k A0 c0 l0 a1.f0 a1.f1 true w hr0 hc0 h rfl).mono ?_
  rintro e w' ⟨rfl, hd⟩
  exact ⟨rfl, hd⟩
end Go.Proofs.Ytjgbdicbdlollaa.B
namespace Go.Proofs.Ytjgbdicbdlollaa.B
open Go.RowKit Go.Proofs.YtjgbdicbdlollaaW.PrintWords Go.Proofs.YtjgbdicbdlollaaW.PrintLast Go.Proofs.YtjgbdicbdlollaaW.PrintMore
attribute [local go_sem] max2_int min2_int max_two min_two max_three min_three max_four min_four   -- for this text's walks alone
set_option linter.unusedVariables false
set_option linter.unusedSimpArgs false
def trishawref01_Ratio.f (k : Nat) (a0 : Int) (a1 : Int) : Option (Int × Int) := (trishawref01_Gcd.f k (mx a0 (wrap64 (-a0))) a1).bind fun t283 => (if t283 = 0 then (none) else (some (wrap64 (Int.tdiv a0 t283), wrap64 (Int.tdiv a1 t283))))
end Go.Proofs.Ytjgbdicbdlollaa.B
namespace Go.Proofs.Ytjgbdicbdlollaa.B
open Go.RowKit Go.Proofs.YtjgbdicbdlollaaW.PrintWords Go.Proofs.YtjgbdicbdlollaaW.PrintLast Go.Proofs.YtjgbdicbdlollaaW.PrintMore
attribute [local go_sem] max2_int min2_int max_two min_two max_three min_three max_four min_four   -- for this text's walks alone
set_option linter.unusedVariables false
set_option linter.unusedSimpArgs false
def trishawref02_delay.l0 : Nat → List (S36) → Int → Int → List Int → Int → Option (Int × Int)
  | 0, _, _, _, _, _ => none
  | k + 1, x0, x5, x6, x297000, x297001 => if x6 < (x0.length : Int) then (if 0 ≤ x6 then (if x6 < (x297000.length : Int) then (trishawref02_delay.l0 k x0 (wrap64 (x5 + (wrap64 ((rd x297000 x6) * (wrap64 ((wrap64 (((rdT_ x0 x6).f0) * x297001)) + (wrap64 (((rdT_ x0 x6).f1) * (rd x297000 x6))))))))) (wrap64 (x6 + 1)) x297000 x297001) else (none)) else (none)) else ((trishawref01_Ratio.f k x5 (wrap64 (x297001 * x297001))).bind fun bt302 => (some (bt302.1, bt302.2)))
def trishawref02_delay.f (k : Nat) (l0 : List (S36)) (l1_0 : List Int) (a1_1 : Int) : Option (Int × Int) := trishawref02_delay.l0 k l0 0 0 l1_0 a1_1
end Go.Proofs.Ytjgbdicbdlollaa.B
namespace Go.Proofs.Ytjgbdicbdlollaa.B
open Go.RowKit Go.Proofs.YtjgbdicbdlollaaW.PrintWords Go.Proofs.YtjgbdicbdlollaaW.PrintLast Go.Proofs.YtjgbdicbdlollaaW.PrintMore
set_option linter.unusedVariables false
set_option linter.unusedSimpArgs false
def sm (x : Int) : Prop := -4611686018427387904 ≤ x ∧ x ≤ 4611686018427387904
theorem wsm {x : Int} (h : sm x) : wrap64 x = x := by unfold sm at h; unfold wrap64; omega
theorem absmx {a : Int} (h : sm a) : mx a (wrap64 (-a)) = (a.natAbs : Int) := by
  unfold sm at h
  rw [wsm (by unfold sm; omega)]
  unfold mx
  split <;> omega
theorem wrapN (i : Nat) (h : i < 1000000) : wrap64 ((i : Int) + 1) = ((i + 1 : Nat) : Int) := by unfold wrap64; omega
theorem gcd_step (a b : Int) : Int.gcd b (a.tmod b) = Int.gcd a b := by
  show Nat.gcd b.natAbs (a.tmod b).natAbs = Nat.gcd a.natAbs b.natAbs
  rw [Int.natAbs_tmod, Nat.gcd_comm a.natAbs b.natAbs, Nat.gcd_rec b.natAbs a.natAbs, Nat.gcd_comm]
theorem sm_tmod {a b : Int} (ha : sm a) (hb : sm b) : sm (a.tmod b) := by
  have h := Int.natAbs_tmod a b
  have h2 : a.natAbs % b.natAbs ≤ a.natAbs := Nat.mod_le _ _
  unfold sm at *
  omega
theorem tmod_lt {a b : Int} (h0 : b ≠ 0) : (a.tmod b).natAbs < b.natAbs := by
  rw [Int.natAbs_tmod]
  exact Nat.mod_lt _ (by omega)
theorem divisor_ev : ∀ (n : Nat) (a b : Int), b.natAbs ≤ n → sm a → sm b → Ev (fun k => ratio_divisor.f k a b) (Int.gcd a b : Int)
  | n, a, b, hn, ha, hb => by
    by_cases h0 : b = 0
    · subst h0
      refine Ev.step (f := fun _ => some (a.natAbs : Int)) (fun k => ?_) (by simpa using Ev.now (a.natAbs : Int))
      simp only [ratio_divisor.f, if_true, absmx ha]
    · cases n with
      | zero => omega
      | succ n =>
        have ih := divisor_ev n b (a.tmod b) (by have := tmod_lt (a := a) h0; omega) hb (sm_tmod ha hb)
        rw [gcd_step] at ih
        refine Ev.step (f := fun k => (ratio_divisor.f k b (a.tmod b)).bind fun t => some t) (fun k => ?_) (Ev.bind ih (Ev.now _))
        simp only [ratio_divisor.f, if_neg h0]
theorem gcd_ev : ∀ (n : Nat) (a b : Int), b.natAbs ≤ n → sm a → sm b → Ev (fun k => trishawref01_Gcd.f k a b) (Int.gcd a b : Int)
  | n, a, b, hn, ha, hb => by
    unfold trishawref01_Gcd.f
    by_cases h0 : b = 0
    · subst h0
      refine Ev.step (f := fun _ => some (a.natAbs : Int)) (fun k => ?_) (by simpa using Ev.now (a.natAbs : Int))
      simp only [trishawref01_Gcd.l0, if_true, absmx ha]
    · cases n with
      | zero => omega
      | succ n =>
        have ih := gcd_ev n b (a.tmod b) (by have := tmod_lt (a := a) h0; omega) hb (sm_tmod ha hb)
        rw [gcd_step] at ih
        unfold trishawref01_Gcd.f at ih
        refine Ev.step (f := fun k => trishawref01_Gcd.l0 k b (a.tmod b)) (fun k => ?_) ih
        simp only [trishawref01_Gcd.l0, if_neg h0]
theorem sm_gcd {a b : Int} (ha : sm a) (h0 : 0 < a) : sm (Int.gcd a b : Int) ∧ 0 < (Int.gcd a b : Int) ∧ (Int.gcd a b : Int) ≤ a := by
  have h1 : Int.gcd a b ∣ a.natAbs := Nat.gcd_dvd_left _ _
  have h2 := Nat.le_of_dvd (by omega) h1
  have h3 : 0 < Int.gcd a b := Nat.gcd_pos_of_pos_left _ (by omega)
  unfold sm at *
  omega
theorem sm_tdiv {a b : Int} (ha : sm a) (hb : 0 < b) : sm (a.tdiv b) := by
  have h1 : (a.tdiv b).natAbs = a.natAbs / b.natAbs := Int.natAbs_tdiv a b
  have h2 : a.natAbs / b.natAbs ≤ a.natAbs := Nat.div_le_self _ _
  unfold sm at *
  omega
/-- The greatest divisor of d and all of the numbers. -/
def gl : List Int → Int → Int
  | [], d => d
  | n :: l, d => gl l (Int.gcd d n : Int)
theorem rd_drop (l : List Int) (i : Nat) (h : i < l.length) : l.drop i = rd l (i : Int) :: l.drop (i + 1) := by
  rw [List.drop_eq_getElem_cons h]
  congr 1
  simp [rd, List.getD, List.getElem?_eq_getElem h]
theorem rd_mem2 (l : List Int) (i : Nat) (h : i < l.length) : rd l (i : Int) ∈ l := by
  have : rd l (i : Int) = l[i] := by simp [rd, List.getD, List.getElem?_eq_getElem h]
  rw [this]; exact List.getElem_mem h
/-- Parts over a divisor. -/
def partsR (nums : List Int) (den D : Int) : List Int × Int := (nums.map fun n => Int.tdiv n D, Int.tdiv den D)
theorem take_map_rd (g : Int → Int) (l : List Int) (i : Nat) (h : i < l.length) : (l.take (i + 1)).map g = (l.take i).map g ++ [g (rd l (i : Int))] := by
  rw [List.take_add_one, List.getElem?_eq_getElem h, List.map_append]
  congr 1
  rw [show rd l (i : Int) = l[i] from by simp [rd, List.getD, List.getElem?_eq_getElem h]]
  rfl
theorem parts_l1 (nums : List Int) (den D : Int) (hl : nums.length < 1000000) (hs : ∀ n ∈ nums, sm n) (hd : sm den) (hD : 0 < D) : ∀ (m i : Nat), i + m = nums.length →
    Ev (fun k => ratio_Parts.l1 k den D ((nums.take i).map (fun n => Int.tdiv n D) ++ List.replicate m 0) nums (nums.length : Int) (i : Int)) (partsR nums den D)
  | 0, i, h => by
    have hD0 : D ≠ 0 := by omega
    refine Ev.step (f := fun _ => some (partsR nums den D)) (fun k => ?_) (Ev.now _)
    simp only [ratio_Parts.l1]
    rw [if_neg (by omega), if_neg hD0, wsm (sm_tdiv hd hD), List.take_of_length_le (by omega)]
    simp [partsR]
  | m + 1, i, h => by
    have hD0 : D ≠ 0 := by omega
    have hi : i < nums.length := by omega
    have ih := parts_l1 nums den D hl hs hd hD m (i + 1) (by omega)
    refine Ev.step (fun k => ?_) ih
    simp only [ratio_Parts.l1]
    rw [if_pos (by omega), if_pos (by omega), if_pos (by omega), if_neg hD0, if_pos (by simp; omega), wrapN i (by omega), wsm (sm_tdiv (hs _ (rd_mem2 nums i hi)) hD)]
    congr 1
    rw [take_map_rd _ nums i hi, Int.toNat_natCast, List.set_append_right _ _ (by simp; omega)]
    simp [List.length_take, Nat.min_eq_left (Nat.le_of_lt hi), List.replicate_succ]
theorem parts_l0 (nums : List Int) (den : Int) (hl : nums.length < 1000000) (hs : ∀ n ∈ nums, sm n) (hd : sm den) (h0 : 0 < den) : ∀ (m i : Nat) (d : Int), i + m = nums.length → sm d → 0 < d →
    Ev (fun k => ratio_Parts.l0 k nums den d nums (nums.length : Int) (i : Int)) (partsR nums den (gl (nums.drop i) d))
  | 0, i, d, h, hsd, hd0 => by
    have h1 := parts_l1 nums den d hl hs hd hd0 nums.length 0 (by omega)
    rw [List.drop_of_length_le (by omega)]
    refine Ev.step (fun k => ?_) h1
    simp only [ratio_Parts.l0]
    rw [if_neg (by omega), if_pos (by omega), if_pos (by simp; omega), absmx hsd, show ((d.natAbs : Nat) : Int) = d by omega]
    simp
  | m + 1, i, d, h, hsd, hd0 => by
    have hi : i < nums.length := by omega
    have hn := hs _ (rd_mem2 nums i hi)
    obtain ⟨g1, g2, g3⟩ := sm_gcd (b := rd nums (i : Int)) hsd hd0
    have ih := parts_l0 nums den hl hs hd h0 m (i + 1) _ (by omega) g1 g2
    rw [rd_drop nums i hi]
    refine Ev.step (fun k => ?_) (Ev.bind (f := fun k t => ratio_Parts.l0 k nums den t nums (nums.length : Int) ((i + 1 : Nat) : Int)) (divisor_ev _ d (rd nums (i : Int)) (Nat.le_refl _) hsd hn) ih)
    simp only [ratio_Parts.l0]
    rw [if_pos (by omega), if_pos (by omega), if_pos (by omega), wrapN i (by omega)]
/-- Parts answers in lowest terms. -/
theorem parts_ev (nums : List Int) (den : Int) (hl : nums.length < 1000000) (hs : ∀ n ∈ nums, sm n) (hd : sm den) (h0 : 0 < den) : Ev (fun k => ratio_Parts.f k nums den) (partsR nums den (gl nums den)) := by
  unfold ratio_Parts.f
  exact parts_l0 nums den hl hs hd h0 nums.length 0 den (by omega) hd h0
/-- A quotient in lowest terms. -/
def ratR (a b : Int) : Int × Int := (Int.tdiv a (Int.gcd a b : Int), Int.tdiv b (Int.gcd a b : Int))
theorem gcd_posr {a b : Int} (hb : 0 < b) : 0 < (Int.gcd a b : Int) := by
  have : 0 < Int.gcd a b := Nat.gcd_pos_of_pos_right _ (by omega)
  omega
theorem of_ev {a b : Int} (ha : sm a) (hb : sm b) (h0 : 0 < b) : Ev (fun k => ratio_Of.f k a b) (ratR a b) := by
  have hg := gcd_posr (a := a) h0
  unfold ratio_Of.f
  refine Ev.bind (divisor_ev _ a b (Nat.le_refl _) ha hb) ?_
  refine Ev.congr (f := fun _ => some (ratR a b)) (fun k => ?_) (Ev.now _)
  rw [if_neg (by omega), if_neg (by omega), wsm (sm_tdiv ha hg), wsm (sm_tdiv hb hg)]
  rfl
theorem ratio_ev {a b : Int} (ha : sm a) (hb : sm b) (h0 : 0 < b) : Ev (fun k => trishawref01_Ratio.f k a b) (ratR a b) := by
  have hg := gcd_posr (a := a) h0
  unfold trishawref01_Ratio.f
  rw [absmx ha]
  have h1 := gcd_ev _ (a.natAbs : Int) b (Nat.le_refl _) (by unfold sm at *; omega) hb
  have h2 : Int.gcd (a.natAbs : Int) b = Int.gcd a b := by
    show Nat.gcd ((a.natAbs : Int)).natAbs b.natAbs = Nat.gcd a.natAbs b.natAbs
    rw [Int.natAbs_natCast]
  rw [h2] at h1
  refine Ev.bind h1 ?_
  refine Ev.congr (f := fun _ => some (ratR a b)) (fun k => ?_) (Ev.now _)
  rw [if_neg (by omega), wsm (sm_tdiv ha hg), wsm (sm_tdiv hb hg)]
  rfl
end Go.Proofs.Ytjgbdicbdlollaa.B
namespace Go.Proofs.Ytjgbdicbdlollaa.B
open Go.RowKit Go.Sort Go.Proofs.YtjgbdicbdlollaaW.PrintWords Go.Proofs.YtjgbdicbdlollaaW.PrintLast Go.Proofs.YtjgbdicbdlollaaW.PrintMore
set_option linter.unusedVariables false
set_option linter.unusedSimpArgs false
def okL (x : S36) : Prop := 0 ≤ x.f0 ∧ x.f0 ≤ 10 ∧ 1 ≤ x.f1 ∧ x.f1 ≤ 10
def sumL (f : S36 → Int) : List S36 → Int
  | [] => 0
  | x :: l => f x + sumL f l
theorem sumL_append (f : S36 → Int) : ∀ a b : List S36, sumL f (a ++ b) = sumL f a + sumL f b
  | [], b => by simp [sumL]
  | x :: a, b => by simp only [List.cons_append, sumL, sumL_append f a b]; omega
theorem sumL_perm (f : S36 → Int) {a b : List S36} (h : a.Perm b) : sumL f a = sumL f b := by
  induction h with
  | nil => rfl
  | cons x _ ih => simp only [sumL, ih]
  | swap x y l => simp only [sumL]; omega
  | trans _ _ h1 h2 => exact h1.trans h2
theorem sumL_congr {f g : S36 → Int} : ∀ {l : List S36}, (∀ x ∈ l, f x = g x) → sumL f l = sumL g l
  | [], _ => rfl
  | x :: l, h => by simp only [sumL]; rw [h x (by simp), sumL_congr fun y hy => h y (by simp [hy])]
theorem sumL_le {f g : S36 → Int} : ∀ {l : List S36}, (∀ x ∈ l, f x ≤ g x) → sumL f l ≤ sumL g l
  | [], _ => Int.le_refl _
  | x :: l, h => by
    have h1 := h x (by simp)
    have h2 := sumL_le (l := l) fun y hy => h y (by simp [hy])
    simp only [sumL]; omega
theorem sumL_mul (f : S36 → Int) (c : Int) : ∀ l : List S36, sumL (fun x => c * f x) l = c * sumL f l
  | [] => by simp [sumL]
  | x :: l => by simp only [sumL, sumL_mul f c l, Int.mul_add]
theorem sumL_add (f g : S36 → Int) : ∀ l : List S36, sumL (fun x => f x + g x) l = sumL f l + sumL g l
  | [] => by simp [sumL]
  | x :: l => by simp only [sumL, sumL_add f g l]; omega
theorem sumL_const (c : Int) : ∀ l : List S36, sumL (fun _ => c) l = c * l.length
  | [] => by simp [sumL]
  | x :: l => by simp only [sumL, sumL_const c l, List.length_cons, Int.natCast_add, Int.mul_add]; simp; omega
theorem sumL_pos {f : S36 → Int} {l : List S36} (h : ∀ x ∈ l, 0 ≤ f x) : 0 ≤ sumL f l := by
  have := sumL_le (f := fun _ => 0) (g := f) h
  rw [sumL_const] at this; simpa using this
/-- A time num/den is good: its own set of lanes gives it. -/
def Good (w : S36 → Int) (p : Int) (l : List S36) (n d : Int) : Prop :=
  0 < d ∧ n = p + sumL (fun x => if x.f0 * d < n then x.f0 * w x else 0) l ∧ d = sumL (fun x => if x.f0 * d < n then w x else 0) l
theorem Good.perm {w p} {a b : List S36} {n d} (h : a.Perm b) (g : Good w p a n d) : Good w p b n d := by
  obtain ⟨h0, h1, h2⟩ := g
  exact ⟨h0, by rw [← sumL_perm _ h]; exact h1, by rw [← sumL_perm _ h]; exact h2⟩
/-- What the lanes take at a time num/den is the whole stream. -/
theorem Good.full {w p} {l : List S36} {n d} (g : Good w p l n d) : sumL (fun x => if x.f0 * d < n then w x * (n - x.f0 * d) else 0) l = p * d := by
  obtain ⟨h0, h1, h2⟩ := g
  have e : sumL (fun x => if x.f0 * d < n then w x * (n - x.f0 * d) else 0) l = n * sumL (fun x => if x.f0 * d < n then w x else 0) l + (-d) * sumL (fun x => if x.f0 * d < n then x.f0 * w x else 0) l := by
    rw [← sumL_mul, ← sumL_mul, ← sumL_add]
    refine sumL_congr fun x _ => ?_
    by_cases hx : x.f0 * d < n
    · simp only [if_pos hx]; rw [Int.mul_sub, Int.mul_comm n, Int.neg_mul, Int.sub_eq_add_neg]
      congr 1; congr 1; rw [Int.mul_comm (w x), Int.mul_comm x.f0 d, Int.mul_assoc]
    · simp [if_neg hx]
  rw [e, ← h2]
  have h3 : sumL (fun x => if x.f0 * d < n then x.f0 * w x else 0) l = n - p := by omega
  rw [h3, Int.mul_comm n d, Int.neg_mul, ← Int.sub_eq_add_neg, ← Int.mul_sub, Int.mul_comm p d]
  congr 1; omega
end Go.Proofs.Ytjgbdicbdlollaa.B
namespace Go.Proofs.Ytjgbdicbdlollaa.B
open Go.RowKit Go.Sort Go.Proofs.YtjgbdicbdlollaaW.PrintWords Go.Proofs.YtjgbdicbdlollaaW.PrintLast Go.Proofs.YtjgbdicbdlollaaW.PrintMore
set_option linter.unusedVariables false
set_option linter.unusedSimpArgs false
theorem rdT_drop (l : List S36) (i : Nat) (h : i < l.length) : l.drop i = rdT_ l (i : Int) :: l.drop (i + 1) := by
  rw [List.drop_eq_getElem_cons h]
  congr 1
  simp [rdT_, List.getD, List.getElem?_eq_getElem h]
theorem rdT_mem (l : List S36) (i : Nat) (h : i < l.length) : rdT_ l (i : Int) ∈ l := by
  have : rdT_ l (i : Int) = l[i] := by simp [rdT_, List.getD, List.getElem?_eq_getElem h]
  rw [this]; exact List.getElem_mem h
theorem mulb {x y X Y : Int} (hx : 0 ≤ x) (hX : x ≤ X) (hy : 0 ≤ y) (hY : y ≤ Y) : 0 ≤ x * y ∧ x * y ≤ X * Y :=
  ⟨Int.mul_nonneg hx hy, Int.mul_le_mul hX hY hy (by omega)⟩
def prodL (t : Int) : List S36 → Int
  | [] => 1
  | x :: l => (x.f1 * t) * prodL t l
theorem bt_b {t : Int} (ht : t = 1 ∨ t = 2) {x : S36} (h : okL x) : 1 ≤ x.f1 * t ∧ x.f1 * t ≤ 20 := by
  unfold okL at h
  rcases ht with rfl | rfl <;> omega
theorem prodL_b {t : Int} (ht : t = 1 ∨ t = 2) : ∀ {l : List S36}, (∀ x ∈ l, okL x) → 0 < prodL t l ∧ prodL t l ≤ 20 ^ l.length
  | [], _ => by simp [prodL]
  | x :: l, h => by
    have h1 := bt_b ht (h x (by simp))
    have h2 := prodL_b ht (l := l) fun y hy => h y (by simp [hy])
    have h3 := mulb (X := 20) (Y := 20 ^ l.length) (x := x.f1 * t) (y := prodL t l) (by omega) (by omega) (by omega) h2.2
    simp only [prodL, List.length_cons, Int.pow_succ]
    exact ⟨Int.mul_pos (by omega) h2.1, by rw [Int.mul_comm (20 ^ l.length : Int)]; exact h3.2⟩
theorem pow20 {n : Nat} (h : n ≤ 4) : (20 : Int) ^ n ≤ 160000 := by
  match n, h with
  | 0, _ => decide
  | 1, _ => decide
  | 2, _ => decide
  | 3, _ => decide
  | 4, _ => decide
theorem prodL_dvd {t : Int} : ∀ {l : List S36}, ∀ x ∈ l, (x.f1 * t) ∣ prodL t l
  | y :: l, x, h => by
    rcases List.mem_cons.1 h with rfl | h
    · exact ⟨_, rfl⟩
    · exact Int.dvd_mul_of_dvd_right (prodL_dvd x h)
def wv (p t : Int) (x : S36) : Int := Int.tdiv p (x.f1 * t)
theorem wv_mul {p t : Int} {x : S36} (h : (x.f1 * t) ∣ p) : wv p t x * (x.f1 * t) = p := Int.tdiv_mul_cancel h
theorem wv_b {p t : Int} {x : S36} (h : (x.f1 * t) ∣ p) (h0 : 0 < p) (h1 : 1 ≤ x.f1 * t) : 0 < wv p t x ∧ wv p t x ≤ p := by
  have e := wv_mul h
  have hp : 0 < wv p t x := by
    rcases Int.lt_trichotomy (wv p t x) 0 with h2 | h2 | h2
    · have := Int.mul_neg_of_neg_of_pos h2 (show 0 < x.f1 * t by omega); omega
    · rw [h2] at e; simp at e; omega
    · exact h2
  refine ⟨hp, ?_⟩
  have := Int.mul_le_mul_of_nonneg_left h1 (Int.le_of_lt hp)
  omega
/-- The lanes that the order's loop takes. -/
def goB (w : S36 → Int) : List S36 → Int → Int → Int × Int
  | [], n, d => (n, d)
  | x :: r, n, d => if d > 0 ∧ x.f0 * d ≥ n then (n, d) else goB w r (n + x.f0 * w x) (d + w x)
theorem goB_good (w : S36 → Int) (p : Int) (hp : 0 < p) : ∀ (r pre : List S36) (n d : Int), (pre ++ r).Pairwise (fun a b => a.f0 ≤ b.f0) → (∀ x ∈ pre ++ r, 0 < w x ∧ 0 ≤ x.f0) → pre ++ r ≠ [] →
    (∀ y ∈ pre, y.f0 * d < n) → n = p + sumL (fun x => x.f0 * w x) pre → d = sumL w pre → Good w p (pre ++ r) (goB w r n d).1 (goB w r n d).2
  | [], pre, n, d, hs, hw, hne, hy, hn, hd => by
    simp only [goB, List.append_nil] at *
    refine ⟨?_, ?_, ?_⟩
    · match pre, hne with
      | x :: l, _ =>
        have h1 := hw x (by simp)
        have h2 := sumL_pos (f := w) (l := l) fun y hy => by have := hw y (by simp [hy]); omega
        simp only [sumL] at hd
        omega
    · rw [sumL_congr (g := fun x => x.f0 * w x) fun x hx => if_pos (hy x hx)]; exact hn
    · rw [sumL_congr (g := w) fun x hx => if_pos (hy x hx)]; exact hd
  | x :: r, pre, n, d, hs, hw, hne, hy, hn, hd => by
    simp only [goB]
    split
    · rename_i hc
      have hout : ∀ y ∈ x :: r, ¬ y.f0 * d < n := by
        intro y hyr
        have h1 : x.f0 ≤ y.f0 := by
          rcases List.mem_cons.1 hyr with rfl | h
          · exact Int.le_refl _
          · exact List.rel_of_pairwise_cons (List.pairwise_append.1 hs).2.1 h
        have := Int.mul_le_mul_of_nonneg_right h1 (Int.le_of_lt hc.1)
        omega
      refine ⟨hc.1, ?_, ?_⟩
      · rw [sumL_append, sumL_congr (l := pre) (g := fun x => x.f0 * w x) (fun x hx => if_pos (hy x hx)), sumL_congr (l := x :: r) (g := fun _ => 0) (fun y hy => if_neg (hout y hy)), sumL_const]
        simp only [Int.zero_mul]; omega
      · rw [sumL_append, sumL_congr (l := pre) (g := w) (fun x hx => if_pos (hy x hx)), sumL_congr (l := x :: r) (g := fun _ => 0) (fun y hy => if_neg (hout y hy)), sumL_const]
        simp only [Int.zero_mul]; omega
    · rename_i hc
      have hwx := hw x (by simp)
      have hn0 : 0 ≤ sumL (fun x => x.f0 * w x) pre := sumL_pos fun y hy => by
        have := hw y (by simp [hy]); exact Int.mul_nonneg this.2 (by omega)
      have hd0 : 0 ≤ d := by rw [hd]; exact sumL_pos fun y hy => by have := hw y (by simp [hy]); omega
      have hxd : x.f0 * d < n := by
        by_cases h0 : d > 0
        · rcases Int.lt_or_le (x.f0 * d) n with h | h
          · exact h
          · exact absurd ⟨h0, h⟩ hc
        · have : d = 0 := by omega
          rw [this, Int.mul_zero]; omega
      have ih := goB_good w p hp r (pre ++ [x]) (n + x.f0 * w x) (d + w x) (by simpa using hs) (by simpa using hw) (by simp) (fun y hy2 => ?_)
        (by rw [sumL_append]; simp only [sumL]; omega) (by rw [sumL_append]; simp only [sumL]; omega)
      · simpa using ih
      · have hyx : y.f0 * d < n ∧ y.f0 ≤ x.f0 := by
          rcases List.mem_append.1 hy2 with h | h
          · exact ⟨hy y h, (List.pairwise_append.1 hs).2.2 y h x (by simp)⟩
          · have : y = x := by simpa using h
            subst this; exact ⟨hxd, Int.le_refl _⟩
        have := Int.mul_le_mul_of_nonneg_right hyx.2 (show 0 ≤ w x by omega)
        rw [Int.mul_add]
        omega
theorem lnsOf_ev : ∀ {l : List S36}, (∀ x ∈ l, okL x) → ∃ ds, lnsOf l = some ds ∧ ds.map Ln.x = l
  | [], _ => ⟨[], rfl, rfl⟩
  | x :: l, h => by
    obtain ⟨ds, h1, h2⟩ := lnsOf_ev (l := l) fun y hy => h y (by simp [hy])
    have hx := h x (by simp)
    exact ⟨⟨x, hx.1, hx.2.1⟩ :: ds, by simp only [lnsOf]; rw [dif_pos ⟨hx.1, hx.2.1⟩, h1]; rfl, by simp [h2]⟩
theorem ext_all {A : Array Ln} {n : Nat} (h : A.size = n) : A.extract 0 n = A := by subst h; simp
theorem sorted_ev {l : List S36} (hne : l ≠ []) (hl : l.length ≤ 4) (hv : ∀ x ∈ l, okL x) : ∃ s, lanes_Sorted.f l = some s ∧ s.Perm l ∧ s.Pairwise (fun a b => a.f0 ≤ b.f0) := by
  obtain ⟨ds, h1, h2⟩ := lnsOf_ev hv
  have hlen : 1 ≤ l.length := by cases l with | nil => exact absurd rfl hne | cons => simp
  have hdl : ds.length = l.length := by rw [← h2]; simp
  refine ⟨(sortLn ds).toList.map Ln.x, ?_, ?_, ?_⟩
  · unfold lanes_Sorted.f; rw [if_pos ⟨hlen, by omega⟩, h1]; rfl
  · have hp := insertionSort_holds (lt := ltOf cfLn) swo_cfLn ds.toArray 0 ds.toArray.size (Nat.zero_le _) (Nat.le_refl _)
    obtain ⟨hs1, _, hs3⟩ := hp.1
    have e1 : (Go.Sort.insertionSort (ltOf cfLn) ds.toArray 0 ds.toArray.size).extract 0 ds.toArray.size = sortLn ds := ext_all hs1
    rw [e1] at hs3
    have e2 : ds.toArray.extract 0 ds.toArray.size = ds.toArray := by simp
    rw [e2] at hs3
    have := hs3.map Ln.x
    rw [h2] at this
    exact this
  · have hp := insertionSort_holds (lt := ltOf cfLn) swo_cfLn ds.toArray 0 ds.toArray.size (Nat.zero_le _) (Nat.le_refl _)
    obtain ⟨hs1, _, hs3⟩ := hp.1
    have hso : SortedIn (ltOf cfLn) 0 ds.toArray.size (sortLn ds) := hp.2
    have hsz : (sortLn ds).size = ds.toArray.size := hs1
    rw [List.pairwise_map, List.pairwise_iff_getElem]
    intro i j hi hj hij
    have hi2 : i < (sortLn ds).size := by simpa using hi
    have hj2 : j < (sortLn ds).size := by simpa using hj
    have := hso i j (Nat.zero_le _) hij (by omega)
    rw [getElem!_pos (sortLn ds) j hj2, getElem!_pos (sortLn ds) i hi2] at this
    unfold ltOf cfLn at this
    simp only [decide_eq_false_iff_not] at this
    simp only [Array.getElem_toList]
    omega
theorem bal_l0 (l : List S36) (t : Int) (ht : t = 1 ∨ t = 2) (hl : l.length ≤ 4) (hv : ∀ x ∈ l, okL x) (R : List Int × Int × Int × Int) : ∀ (m i : Nat) (q : Int), i + m = l.length → 0 < q → q ≤ 20 ^ i →
    Ev (fun k => (lanes_Sorted.f l).bind fun s => jBa.l1 k l t (q * prodL t (l.drop i)) (q * prodL t (l.drop i)) 0 s (s.length : Int) 0) R → Ev (fun k => jBa.l0 k l t q l (l.length : Int) (i : Int)) R
  | 0, i, q, h, h0, hq, hk => by
    rw [List.drop_of_length_le (by omega)] at hk
    simp only [prodL, Int.mul_one] at hk
    refine Ev.step (fun k => ?_) hk
    simp only [jBa.l0]
    rw [if_neg (by omega)]
  | m + 1, i, q, h, h0, hq, hk => by
    have hi : i < l.length := by omega
    have hb := bt_b ht (hv _ (rdT_mem l i hi))
    have hm := mulb (x := q) (y := (rdT_ l (i : Int)).f1 * t) (X := 20 ^ i) (Y := 20) (by omega) hq (by omega) hb.2
    have h5 : (20 : Int) ^ i * 20 = 20 ^ (i + 1) := (Int.pow_succ 20 i).symm
    have h6 := pow20 (n := i + 1) (by omega)
    have h7 := pow20 (n := i) (by omega)
    rw [rdT_drop l i hi] at hk
    simp only [prodL] at hk
    rw [← Int.mul_assoc] at hk
    have ih := bal_l0 l t ht hl hv R m (i + 1) (q * ((rdT_ l (i : Int)).f1 * t)) (by omega) (Int.mul_pos h0 (by omega)) (by omega) hk
    refine Ev.step (fun k => ?_) ih
    simp only [jBa.l0]
    rw [if_pos (by omega), if_pos (by omega), if_pos (by omega), wrapN i (by omega), wsm (x := (rdT_ l (i : Int)).f1 * t) (by unfold sm; omega), wsm (x := q * ((rdT_ l (i : Int)).f1 * t)) (by unfold sm; omega)]
theorem bal_l1 (l s : List S36) (t p : Int) (ht : t = 1 ∨ t = 2) (hp : 0 < p) (hp2 : p ≤ 160000) (hs : s.length ≤ 4) (hv : ∀ x ∈ s, okL x) (hd : ∀ x ∈ s, (x.f1 * t) ∣ p) (R : List Int × Int × Int × Int) : ∀ (m i : Nat) (n d : Int), i + m = s.length → 0 ≤ n → n ≤ 160000 + 1600000 * i → 0 ≤ d → d ≤ 160000 * i →
    Ev (fun k => jBa.j2 k l t p (goB (wv p t) (s.drop i) n d).1 (goB (wv p t) (s.drop i) n d).2) R → Ev (fun k => jBa.l1 k l t p n d s (s.length : Int) (i : Int)) R
  | 0, i, n, d, h, n0, n1, d0, d1, hk => by
    rw [List.drop_of_length_le (by omega)] at hk
    simp only [goB] at hk
    refine Ev.step (fun k => ?_) hk
    simp only [jBa.l1]
    rw [if_neg (by omega)]
  | m + 1, i, n, d, h, n0, n1, d0, d1, hk => by
    have hi : i < s.length := by omega
    have hx := hv _ (rdT_mem s i hi)
    have hdx := hd _ (rdT_mem s i hi)
    have hb := bt_b ht hx
    have hw := wv_b hdx hp hb.1
    unfold okL at hx
    have hm := mulb (x := (rdT_ s (i : Int)).f0) (y := wv p t (rdT_ s (i : Int))) (X := 10) (Y := 160000) (by omega) (by omega) (by omega) (by omega)
    have hm2 := mulb (x := (rdT_ s (i : Int)).f0) (y := d) (X := 10) (Y := 640000) (by omega) (by omega) (by omega) (by omega)
    rw [rdT_drop s i hi] at hk
    simp only [goB] at hk
    have w1 : wrap64 ((rdT_ s (i : Int)).f1 * t) = (rdT_ s (i : Int)).f1 * t := wsm (by unfold sm; omega)
    have w2 : wrap64 (Int.tdiv p ((rdT_ s (i : Int)).f1 * t)) = wv p t (rdT_ s (i : Int)) := wsm (by show sm (wv p t (rdT_ s (i : Int))); unfold sm; omega)
    have w3 : wrap64 ((rdT_ s (i : Int)).f0 * wv p t (rdT_ s (i : Int))) = (rdT_ s (i : Int)).f0 * wv p t (rdT_ s (i : Int)) := wsm (by unfold sm; omega)
    have w4 : wrap64 (n + (rdT_ s (i : Int)).f0 * wv p t (rdT_ s (i : Int))) = n + (rdT_ s (i : Int)).f0 * wv p t (rdT_ s (i : Int)) := wsm (by unfold sm; omega)
    have w5 : wrap64 (d + wv p t (rdT_ s (i : Int))) = d + wv p t (rdT_ s (i : Int)) := wsm (by unfold sm; omega)
    have w6 : wrap64 ((rdT_ s (i : Int)).f0 * d) = (rdT_ s (i : Int)).f0 * d := wsm (by unfold sm; omega)
    by_cases hc : d > 0 ∧ (rdT_ s (i : Int)).f0 * d ≥ n
    · rw [if_pos hc] at hk
      refine Ev.step (fun k => ?_) hk
      simp only [jBa.l1]
      rw [if_pos (by omega), if_pos (by omega), if_pos (by omega), if_pos hc.1, w6, if_pos hc.2]
    · rw [if_neg hc] at hk
      have ih := bal_l1 l s t p ht hp hp2 hs hv hd R m (i + 1) _ _ (by omega) (by omega) (by omega) (by omega) (by omega) hk
      refine Ev.step (fun k => ?_) ih
      simp only [jBa.l1]
      rw [if_pos (by omega), if_pos (by omega), if_pos (by omega), wrapN i (by omega), w6, w1, w2, w3, w4, w5]
      by_cases h0 : d > 0
      · rw [if_pos h0, if_neg (fun h => hc ⟨h0, h⟩), if_neg (by omega)]
      · rw [if_neg h0, if_neg (by omega)]
/-- What a lane takes. -/
def nv (w : S36 → Int) (n d : Int) (x : S36) : Int := (if x.f0 * d < n then n - x.f0 * d else 0) * w x
def balT (k : Nat) (p n d : Int) (nums : List Int) : Option (List Int × Int × Int × Int) :=
  (ratio_Parts.f k nums (wrap64 (d * p))).bind fun b => (ratio_Of.f k n d).bind fun c => some (b.1, b.2, c.1, c.2)
theorem bal_l2 (l : List S36) (t p n d : Int) (ht : t = 1 ∨ t = 2) (hp : 0 < p) (hp2 : p ≤ 160000) (hl : l.length ≤ 4) (hv : ∀ x ∈ l, okL x) (hd : ∀ x ∈ l, (x.f1 * t) ∣ p) (n0 : 0 ≤ n) (n1 : n ≤ 6560000) (d0 : 0 ≤ d) (d1 : d ≤ 640000) (R : List Int × Int × Int × Int) : ∀ (m i : Nat) (acc : List Int), i + m = l.length → acc.length = i →
    Ev (fun k => balT k p n d (acc ++ (l.drop i).map (nv (wv p t) n d))) R → Ev (fun k => jBa.l2 k t p n d acc l (l.length : Int) (i : Int)) R
  | 0, i, acc, h, ha, hk => by
    rw [List.drop_of_length_le (by omega)] at hk
    simp only [List.map_nil, List.append_nil] at hk
    refine Ev.step (fun k => ?_) hk
    simp only [jBa.l2, balT]
    rw [if_neg (by omega)]
  | m + 1, i, acc, h, ha, hk => by
    have hi : i < l.length := by omega
    have hx := hv _ (rdT_mem l i hi)
    have hdx := hd _ (rdT_mem l i hi)
    have hb := bt_b ht hx
    have hw := wv_b hdx hp hb.1
    unfold okL at hx
    have hm2 := mulb (x := (rdT_ l (i : Int)).f0) (y := d) (X := 10) (Y := 640000) (by omega) (by omega) (by omega) (by omega)
    have w1 : wrap64 ((rdT_ l (i : Int)).f1 * t) = (rdT_ l (i : Int)).f1 * t := wsm (by unfold sm; omega)
    have w2 : wrap64 (Int.tdiv p ((rdT_ l (i : Int)).f1 * t)) = wv p t (rdT_ l (i : Int)) := wsm (by show sm (wv p t (rdT_ l (i : Int))); unfold sm; omega)
    have w6 : wrap64 ((rdT_ l (i : Int)).f0 * d) = (rdT_ l (i : Int)).f0 * d := wsm (by unfold sm; omega)
    have w7 : wrap64 (n - (rdT_ l (i : Int)).f0 * d) = n - (rdT_ l (i : Int)).f0 * d := wsm (by unfold sm; omega)
    have w8 : mx 0 (n - (rdT_ l (i : Int)).f0 * d) = if (rdT_ l (i : Int)).f0 * d < n then n - (rdT_ l (i : Int)).f0 * d else 0 := by
      unfold mx; split <;> split <;> omega
    have hq : 0 ≤ (if (rdT_ l (i : Int)).f0 * d < n then n - (rdT_ l (i : Int)).f0 * d else 0) ∧ (if (rdT_ l (i : Int)).f0 * d < n then n - (rdT_ l (i : Int)).f0 * d else 0) ≤ 6560000 := by split <;> omega
    have hm3 := mulb (y := wv p t (rdT_ l (i : Int))) (Y := 160000) hq.1 hq.2 (by omega) (by omega)
    have w9 : wrap64 ((if (rdT_ l (i : Int)).f0 * d < n then n - (rdT_ l (i : Int)).f0 * d else 0) * wv p t (rdT_ l (i : Int))) = nv (wv p t) n d (rdT_ l (i : Int)) := wsm (by unfold sm; omega)
    rw [rdT_drop l i hi, List.map_cons, show acc ++ nv (wv p t) n d (rdT_ l (i : Int)) :: (l.drop (i + 1)).map (nv (wv p t) n d) = (acc ++ [nv (wv p t) n d (rdT_ l (i : Int))]) ++ (l.drop (i + 1)).map (nv (wv p t) n d) by simp] at hk
    have ih := bal_l2 l t p n d ht hp hp2 hl hv hd n0 n1 d0 d1 R m (i + 1) _ (by omega) (by simp [ha]) hk
    refine Ev.step (fun k => ?_) ih
    simp only [jBa.l2]
    rw [if_pos (by omega), if_pos (by omega), if_pos (by omega), wrapN i (by omega), w6, w1, w2, w7, w8, w9, if_neg (by omega), if_pos (by omega)]
theorem Good.b {p t : Int} {l : List S36} {n d : Int} (hp : 0 < p) (hp2 : p ≤ 160000) (hl : l.length ≤ 4) (hw : ∀ x ∈ l, okL x ∧ 0 < wv p t x ∧ wv p t x ≤ p) (g : Good (wv p t) p l n d) : 0 ≤ n ∧ n ≤ 6560000 ∧ 0 < d ∧ d ≤ 640000 := by
  obtain ⟨h0, h1, h2⟩ := g
  have a1 : sumL (fun x => if x.f0 * d < n then x.f0 * wv p t x else 0) l ≤ sumL (fun _ => 1600000) l := sumL_le fun x hx => by
    obtain ⟨h3, h4, h5⟩ := hw x hx
    unfold okL at h3
    have := mulb (x := x.f0) (y := wv p t x) (X := 10) (Y := 160000) (by omega) (by omega) (by omega) (by omega)
    split <;> omega
  have a0 : 0 ≤ sumL (fun x => if x.f0 * d < n then x.f0 * wv p t x else 0) l := sumL_pos fun x hx => by
    obtain ⟨h3, h4, h5⟩ := hw x hx
    unfold okL at h3
    have := mulb (x := x.f0) (y := wv p t x) (X := 10) (Y := 160000) (by omega) (by omega) (by omega) (by omega)
    split <;> omega
  have a2 : sumL (fun x => if x.f0 * d < n then wv p t x else 0) l ≤ sumL (fun _ => 160000) l := sumL_le fun x hx => by
    obtain ⟨h3, h4, h5⟩ := hw x hx
    split <;> omega
  rw [sumL_const] at a1 a2
  omega
/-- The whole of balance. -/
theorem balance_ev {l : List S36} {t : Int} (ht : t = 1 ∨ t = 2) (hne : l ≠ []) (hl : l.length ≤ 4) (hv : ∀ x ∈ l, okL x) :
    ∃ n d, Good (wv (prodL t l) t) (prodL t l) l n d ∧ Ev (fun k => jBa.f k l t) ((partsR (l.map (nv (wv (prodL t l) t) n d)) (d * prodL t l) (gl (l.map (nv (wv (prodL t l) t) n d)) (d * prodL t l))).1, (partsR (l.map (nv (wv (prodL t l) t) n d)) (d * prodL t l) (gl (l.map (nv (wv (prodL t l) t) n d)) (d * prodL t l))).2, (ratR n d).1, (ratR n d).2) := by
  have hp := prodL_b ht hv
  have hp2 : prodL t l ≤ 160000 := Int.le_trans hp.2 (pow20 hl)
  obtain ⟨s, hs, hperm, hsort⟩ := sorted_ev hne hl hv
  have hvs : ∀ x ∈ s, okL x := fun x hx => hv x (hperm.mem_iff.1 hx)
  have hds : ∀ x ∈ s, (x.f1 * t) ∣ prodL t l := fun x hx => prodL_dvd x (hperm.mem_iff.1 hx)
  have hws : ∀ x ∈ s, okL x ∧ 0 < wv (prodL t l) t x ∧ wv (prodL t l) t x ≤ prodL t l := fun x hx => ⟨hvs x hx, wv_b (hds x hx) hp.1 (bt_b ht (hvs x hx)).1⟩
  have hws2 : ∀ x ∈ l, okL x ∧ 0 < wv (prodL t l) t x ∧ wv (prodL t l) t x ≤ prodL t l := fun x hx => hws x (hperm.mem_iff.2 hx)
  have hsne : s ≠ [] := fun h => hne (by rw [h] at hperm; exact hperm.symm.eq_nil)
  have g := (goB_good (wv (prodL t l) t) (prodL t l) hp.1 s [] (prodL t l) 0 (by simpa using hsort) (by simpa using fun x hx => ⟨(hws x hx).2.1, (hvs x hx).1⟩) (by simpa using hsne) (by simp) (by simp [sumL]) (by simp [sumL]))
  rw [List.nil_append] at g
  generalize hnd : goB (wv (prodL t l) t) s (prodL t l) 0 = nd at g
  have g2 := g.perm hperm
  have gb := g2.b hp.1 hp2 hl hws2
  refine ⟨nd.1, nd.2, g2, ?_⟩
  have hm := mulb (x := nd.2) (y := prodL t l) (X := 640000) (Y := 160000) (by omega) (by omega) (by omega) hp2
  have hdp : 0 < nd.2 * prodL t l := Int.mul_pos gb.2.2.1 hp.1
  have hnum : ∀ y ∈ l.map (nv (wv (prodL t l) t) nd.1 nd.2), sm y := by
    intro y hy
    obtain ⟨x, hx, rfl⟩ := List.mem_map.1 hy
    obtain ⟨h3, h4, h5⟩ := hws2 x hx
    unfold okL at h3
    have hm2 := mulb (x := x.f0) (y := nd.2) (X := 10) (Y := 640000) (by omega) (by omega) (by omega) (by omega)
    have hq : 0 ≤ (if x.f0 * nd.2 < nd.1 then nd.1 - x.f0 * nd.2 else 0) ∧ (if x.f0 * nd.2 < nd.1 then nd.1 - x.f0 * nd.2 else 0) ≤ 6560000 := by split <;> omega
    have hm3 := mulb (y := wv (prodL t l) t x) (Y := 160000) hq.1 hq.2 (by omega) (by omega)
    unfold nv sm
    omega
  have hT : Ev (fun k => balT k (prodL t l) nd.1 nd.2 (l.map (nv (wv (prodL t l) t) nd.1 nd.2))) ((partsR (l.map (nv (wv (prodL t l) t) nd.1 nd.2)) (nd.2 * prodL t l) (gl (l.map (nv (wv (prodL t l) t) nd.1 nd.2)) (nd.2 * prodL t l))).1, (partsR (l.map (nv (wv (prodL t l) t) nd.1 nd.2)) (nd.2 * prodL t l) (gl (l.map (nv (wv (prodL t l) t) nd.1 nd.2)) (nd.2 * prodL t l))).2, (ratR nd.1 nd.2).1, (ratR nd.1 nd.2).2) := by
    unfold balT
    rw [wsm (x := nd.2 * prodL t l) (by unfold sm; omega)]
    exact Ev.bind (parts_ev _ _ (by simp; omega) hnum (by unfold sm; omega) hdp) (Ev.bind (of_ev (by unfold sm; omega) (by unfold sm; omega) gb.2.2.1) (Ev.now _))
  have h2 := bal_l2 l t (prodL t l) nd.1 nd.2 ht hp.1 hp2 hl hv (fun x hx => prodL_dvd x hx) gb.1 gb.2.1 (by omega) gb.2.2.2 _ l.length 0 [] (by omega) rfl (by simpa using hT)
  have h3 : Ev (fun k => jBa.j2 k l t (prodL t l) nd.1 nd.2) _ := Ev.step (fun k => by simp only [jBa.j2]; rfl) h2
  have h4 := bal_l1 l s t (prodL t l) ht hp.1 hp2 (by rw [hperm.length_eq]; exact hl) hvs hds _ s.length 0 (prodL t l) 0 (by omega) (by omega) (by omega) (by omega) (by omega) (by simp only [List.drop_zero]; rw [hnd]; exact h3)
  unfold jBa.f
  refine bal_l0 l t ht hl hv _ l.length 0 1 (by omega) (by omega) (by simp) ?_
  simp only [Int.one_mul, List.drop_zero]
  exact Ev.congr (fun k => by rw [hs]; rfl) h4
end Go.Proofs.Ytjgbdicbdlollaa.B
namespace Go.Proofs.Ytjgbdicbdlollaa.B
open Go.RowKit Go.Sort Go.Proofs.YtjgbdicbdlollaaW.PrintWords Go.Proofs.YtjgbdicbdlollaaW.PrintLast Go.Proofs.YtjgbdicbdlollaaW.PrintMore
set_option linter.unusedVariables false
set_option linter.unusedSimpArgs false
theorem gl_scale {c : Int} (hc : 0 < c) : ∀ (l : List Int) (d : Int), gl (l.map fun x => c * x) (c * d) = c * gl l d
  | [], d => rfl
  | n :: l, d => by
    simp only [List.map_cons, gl]
    have e : (Int.gcd (c * d) (c * n) : Int) = c * (Int.gcd d n : Int) := by
      rw [Int.gcd_mul_left, Int.natCast_mul]; congr 1; omega
    rw [e, gl_scale hc l]
/-- A delay's sum. -/
def delS (l : List S36) (X : List Int) (D : Int) : Nat → Nat → Int → Int
  | 0, _, s => s
  | m + 1, i, s => delS l X D m (i + 1) (s + rd X (i : Int) * ((rdT_ l (i : Int)).f0 * D + (rdT_ l (i : Int)).f1 * rd X (i : Int)))
theorem del_term {l : List S36} {X : List Int} {D : Int} (hX : X.length = l.length) (hv : ∀ x ∈ l, okL x) (h0 : 0 < D) (h1 : D ≤ 101606400) (hy : ∀ y ∈ X, 0 ≤ y ∧ y ≤ D) (i : Nat) (hi : i < l.length) :
    let a := (rdT_ l (i : Int)).f0 * D
    let b := (rdT_ l (i : Int)).f1 * rd X (i : Int)
    (0 ≤ a ∧ a ≤ 1016064000) ∧ (0 ≤ b ∧ b ≤ 1016064000) ∧ 0 ≤ rd X (i : Int) * (a + b) ∧ rd X (i : Int) * (a + b) ≤ 206477210419200000 := by
  intro a b
  have hx := hv _ (rdT_mem l i hi)
  have hn := hy _ (rd_mem2 X i (by omega))
  unfold okL at hx
  have m1 := mulb (x := (rdT_ l (i : Int)).f0) (y := D) (X := 10) (Y := 101606400) (by omega) (by omega) (by omega) h1
  have m2 := mulb (x := (rdT_ l (i : Int)).f1) (y := rd X (i : Int)) (X := 10) (Y := 101606400) (by omega) (by omega) (by omega) (by omega)
  have m3 := mulb (x := rd X (i : Int)) (y := a + b) (X := 101606400) (Y := 2032128000) (by omega) (by omega) (by omega) (by omega)
  refine ⟨⟨by omega, by omega⟩, ⟨by omega, by omega⟩, by omega, by omega⟩
theorem delS_ev {l : List S36} {X : List Int} {D : Int} (hl : l.length ≤ 4) (hX : X.length = l.length) (hv : ∀ x ∈ l, okL x) (h0 : 0 < D) (h1 : D ≤ 101606400) (hy : ∀ y ∈ X, 0 ≤ y ∧ y ≤ D) : ∀ (m i : Nat) (s : Int), i + m = l.length → 0 ≤ s → s ≤ 206477210419200000 * i →
    (delL l X D m i s = some (delS l X D m i s) ∧ 0 ≤ delS l X D m i s ∧ delS l X D m i s ≤ 206477210419200000 * 4) ∧ Ev (fun k => trishawref02_delay.l0 k l s (i : Int) X D) (ratR (delS l X D m i s) (D * D))
  | 0, i, s, h, s0, s1 => by
    have hDD := mulb (x := D) (y := D) (X := 101606400) (Y := 101606400) (by omega) h1 (by omega) h1
    have hD2 : 0 < D * D := Int.mul_pos h0 h0
    refine ⟨⟨rfl, s0, by simp only [delS]; omega⟩, ?_⟩
    simp only [delS]
    refine Ev.step (f := fun k => (trishawref01_Ratio.f k s (D * D)).bind fun bt => some (bt.1, bt.2)) (fun k => ?_) (Ev.bind (ratio_ev (by unfold sm; omega) (by unfold sm; omega) hD2) (Ev.now _))
    simp only [trishawref02_delay.l0]
    rw [if_neg (by omega), wsm (x := D * D) (by unfold sm; omega)]
  | m + 1, i, s, h, s0, s1 => by
    have hi : i < l.length := by omega
    have hT := del_term hX hv h0 h1 hy i hi
    simp only at hT
    obtain ⟨⟨a0, a1⟩, ⟨b0, b1⟩, c0, c1⟩ := hT
    have ih := delS_ev hl hX hv h0 h1 hy m (i + 1) (s + rd X (i : Int) * ((rdT_ l (i : Int)).f0 * D + (rdT_ l (i : Int)).f1 * rd X (i : Int))) (by omega) (by omega) (by omega)
    have w1 : wrap64 ((rdT_ l (i : Int)).f0 * D) = (rdT_ l (i : Int)).f0 * D := wsm (by unfold sm; omega)
    have w2 : wrap64 ((rdT_ l (i : Int)).f1 * rd X (i : Int)) = (rdT_ l (i : Int)).f1 * rd X (i : Int) := wsm (by unfold sm; omega)
    have w3 : wrap64 ((rdT_ l (i : Int)).f0 * D + (rdT_ l (i : Int)).f1 * rd X (i : Int)) = (rdT_ l (i : Int)).f0 * D + (rdT_ l (i : Int)).f1 * rd X (i : Int) := wsm (by unfold sm; omega)
    have w4 : wrap64 (rd X (i : Int) * ((rdT_ l (i : Int)).f0 * D + (rdT_ l (i : Int)).f1 * rd X (i : Int))) = rd X (i : Int) * ((rdT_ l (i : Int)).f0 * D + (rdT_ l (i : Int)).f1 * rd X (i : Int)) := wsm (by unfold sm; omega)
    have w5 : wrap64 (s + rd X (i : Int) * ((rdT_ l (i : Int)).f0 * D + (rdT_ l (i : Int)).f1 * rd X (i : Int))) = s + rd X (i : Int) * ((rdT_ l (i : Int)).f0 * D + (rdT_ l (i : Int)).f1 * rd X (i : Int)) := wsm (by unfold sm; omega)
    refine ⟨⟨?_, ih.1.2⟩, ?_⟩
    · simp only [delL, delS, laneCost]
      rw [if_pos (by omega), w1, w2, w3, w4, w5]
      exact ih.1.1
    · refine Ev.step (fun k => ?_) ih.2
      simp only [trishawref02_delay.l0]
      rw [if_pos (by omega), if_pos (by omega), if_pos (by omega), wrapN i (by omega), w1, w2, w3, w4, w5]
theorem delay_ev {l : List S36} {X : List Int} {D : Int} (hl : l.length ≤ 4) (hX : X.length = l.length) (hv : ∀ x ∈ l, okL x) (h0 : 0 < D) (h1 : D ≤ 101606400) (hy : ∀ y ∈ X, 0 ≤ y ∧ y ≤ D) :
    Ev (fun k => jam_delay.f k l X D) (ratR (delS l X D l.length 0 0) (D * D)) ∧ Ev (fun k => trishawref02_delay.f k l X D) (ratR (delS l X D l.length 0 0) (D * D)) := by
  have hDD := mulb (x := D) (y := D) (X := 101606400) (Y := 101606400) (by omega) h1 (by omega) h1
  have hD2 : 0 < D * D := Int.mul_pos h0 h0
  obtain ⟨⟨e1, e2, e3⟩, e4⟩ := delS_ev hl hX hv h0 h1 hy l.length 0 0 (by omega) (by omega) (by omega)
  refine ⟨?_, e4⟩
  refine Ev.congr (f := fun k => ratio_Of.f k (delS l X D l.length 0 0) (D * D)) (fun k => ?_) (of_ev (by unfold sm; omega) (by unfold sm; omega) hD2)
  unfold jam_delay.f
  rw [if_pos (by omega), e1, wsm (x := D * D) (by unfold sm; omega)]
  rfl
theorem okL_iff (x : S36) : okL x ↔ badLane x = false := by
  unfold okL badLane
  simp only [Bool.or_eq_false_iff, decide_eq_false_iff_not]
  omega
/-- The judgement on lanes. -/
def laneE (l : List S36) : Int := if 4 < l.length then 3 else if l = [] ∨ l.any badLane = true then 2 else 0
theorem stream_laneE (l : List S36) : jam_stream.f l = some (laneE l) := rfl
theorem lanes_l0 (l : List S36) (hl : l.length ≤ 4) : ∀ (m i : Nat), i + m = l.length → Ev (fun k => rLn.l0 k l (i : Int)) (if (l.drop i).any badLane = true then 2 else 0)
  | 0, i, h => by
    rw [List.drop_of_length_le (by omega)]
    refine Ev.step (f := fun _ => some 0) (fun k => ?_) (Ev.now _)
    simp only [rLn.l0]
    rw [if_neg (by omega)]
  | m + 1, i, h => by
    have hi : i < l.length := by omega
    have ih := lanes_l0 l hl m (i + 1) (by omega)
    rw [rdT_drop l i hi, List.any_cons]
    generalize hx : rdT_ l (i : Int) = x at *
    cases hb : badLane x with
    | true =>
      simp only [Bool.true_or, if_true]
      have hj : Ev (fun k => rLn.j1 k l (i : Int) true) 2 := Ev.step (f := fun _ => some 2) (fun k => by simp [rLn.j1]) (Ev.now _)
      refine Ev.step (fun k => ?_) hj
      simp only [rLn.l0]
      rw [if_pos (by omega), if_pos (by omega), hx]
      unfold badLane at hb
      simp only [Bool.or_eq_true, decide_eq_true_eq] at hb
      by_cases h1 : x.f0 < 0
      · rw [if_pos h1]
      · rw [if_neg h1]
        by_cases h2 : x.f0 > 10
        · rw [if_pos h2]
        · rw [if_neg h2]
          by_cases h3 : x.f1 < 1
          · rw [if_pos h3]
          · rw [if_neg h3, decide_eq_true (show x.f1 > 10 by omega)]
    | false =>
      simp only [Bool.false_or]
      have hx2 := (okL_iff x).2 hb
      unfold okL at hx2
      have hj : Ev (fun k => rLn.j1 k l (i : Int) false) _ := Ev.step (f := fun k => rLn.l0 k l ((i + 1 : Nat) : Int)) (fun k => by simp only [rLn.j1]; rw [if_neg (by simp), wrapN i (by omega)]) ih
      refine Ev.step (fun k => ?_) hj
      simp only [rLn.l0]
      rw [if_pos (by omega), if_pos (by omega), hx, if_neg (by omega), if_neg (by omega), if_neg (by omega), decide_eq_false (by omega)]
theorem lanes_ev (l : List S36) (hl : l.length < 1000000) : Ev (fun k => rLn.f k l) (laneE l) := by
  unfold rLn.f laneE
  by_cases h4 : 4 < l.length
  · rw [if_pos h4]; refine Ev.congr (f := fun _ => some 3) (fun k => ?_) (Ev.now _); rw [if_pos (by omega)]
  · rw [if_neg h4]
    by_cases h0 : l = []
    · subst h0; rw [if_pos (Or.inl rfl)]; refine Ev.congr (f := fun _ => some 2) (fun k => ?_) (Ev.now _); simp
    · have h1 : l.length ≠ 0 := by simpa using h0
      have hh := lanes_l0 l (by omega) l.length 0 (by omega)
      have e : (if l = [] ∨ l.any badLane = true then (2 : Int) else 0) = (if (l.drop 0).any badLane = true then 2 else 0) := by simp [h0]
      rw [e]
      refine Ev.congr (fun k => ?_) hh
      rw [if_neg (by omega), if_neg (by omega)]
      rfl
theorem laneE_ok {l : List S36} (h : laneE l = 0) : l ≠ [] ∧ l.length ≤ 4 ∧ ∀ x ∈ l, okL x := by
  unfold laneE at h
  split at h
  · omega
  · split at h
    · omega
    · rename_i h1 h2
      refine ⟨fun e => h2 (Or.inl e), by omega, fun x hx => (okL_iff x).2 ?_⟩
      cases hb : badLane x with
      | false => rfl
      | true => exact absurd (Or.inr (List.any_eq_true.2 ⟨x, hx, hb⟩)) h2
end Go.Proofs.Ytjgbdicbdlollaa.B
namespace Go.Proofs.Ytjgbdicbdlollaa.B
open Go.RowKit Go.Sort Go.Proofs.YtjgbdicbdlollaaW.PrintWords Go.Proofs.YtjgbdicbdlollaaW.PrintLast Go.Proofs.YtjgbdicbdlollaaW.PrintMore
theorem alive_ev : Ev (fun k => lAl_.f k) true := ⟨60, fun k hk => alive_from k hk⟩
theorem alive_ev2 : Ev (fun k => (lAl_.f k).bind fun t => some t) true := Ev.bind alive_ev (Ev.now true)
end Go.Proofs.Ytjgbdicbdlollaa.B
namespace Go.Proofs.Ytjgbdicbdlollaa.B
open Go.RowKit Go.Proofs.YtjgbdicbdlollaaW.PrintWords Go.Proofs.YtjgbdicbdlollaaW.PrintLast Go.Proofs.YtjgbdicbdlollaaW.PrintMore
attribute [local go_sem] max2_int min2_int max_two min_two
set_option linter.unusedVariables false
set_option linter.unusedSimpArgs false
def inBal.B7 : List Nat := [0, 1, 3, 0, 8, 24, 56, 7, 7, 383, 895]
end Go.Proofs.Ytjgbdicbdlollaa.B
namespace Go.Proofs.Ytjgbdicbdlollaa.B
open Go.RowKit Go.Sort Go.Proofs.YtjgbdicbdlollaaW.PrintWords Go.Proofs.YtjgbdicbdlollaaW.PrintLast Go.Proofs.YtjgbdicbdlollaaW.PrintMore
set_option linter.unusedVariables false
set_option linter.unusedSimpArgs false
set_option linter.unusedSectionVars false
def sI : Nat → (Nat → Int) → Int
  | 0, _ => 0
  | n + 1, F => sI n F + F n
theorem sI_le {F G : Nat → Int} : ∀ n, (∀ i, i < n → F i ≤ G i) → sI n F ≤ sI n G
  | 0, _ => Int.le_refl _
  | n + 1, h => by
    have h1 := sI_le n fun i hi => h i (by omega)
    have h2 := h n (by omega)
    simp only [sI]; omega
theorem sI_congr {F G : Nat → Int} : ∀ n, (∀ i, i < n → F i = G i) → sI n F = sI n G
  | 0, _ => rfl
  | n + 1, h => by
    have h1 := sI_congr n fun i hi => h i (by omega)
    have h2 := h n (by omega)
    simp only [sI]; omega
theorem sI_mul (c : Int) (F : Nat → Int) : ∀ n, sI n (fun i => c * F i) = c * sI n F
  | 0 => by simp [sI]
  | n + 1 => by simp only [sI, sI_mul c F n, Int.mul_add]
theorem sI_add (F G : Nat → Int) : ∀ n, sI n (fun i => F i + G i) = sI n F + sI n G
  | 0 => by simp [sI]
  | n + 1 => by simp only [sI, sI_add F G n]; omega
theorem sI_nonneg {F : Nat → Int} : ∀ n, (∀ i, i < n → 0 ≤ F i) → 0 ≤ sI n F
  | 0, _ => Int.le_refl _
  | n + 1, h => by
    have h1 := sI_nonneg n fun i hi => h i (by omega)
    have h2 := h n (by omega)
    simp only [sI]; omega
/-- What each lane adds to a delay. -/
def dT (A B a : Nat → Int) (D : Int) (i : Nat) : Int := a i * (A i * D + B i * a i)
structure Flow (n : Nat) (a : Nat → Int) (D : Int) : Prop where
  pos : 0 < D
  nn : ∀ i, i < n → 0 ≤ a i
  sum : sI n a = D
/-- In balance at the time T, where B counts t times. -/
def BalT (n : Nat) (t : Int) (A B a : Nat → Int) (D T : Int) : Prop := ∀ i, i < n → (0 < a i → A i * D + t * (B i * a i) = T) ∧ (a i = 0 → T ≤ A i * D)
section
variable {n : Nat} {A B a b : Nat → Int} {D E T S : Int} (fa : Flow n a D) (fb : Flow n b E) (hA : ∀ i, i < n → 0 ≤ A i) (hB : ∀ i, i < n → 1 ≤ B i)
include fa fb
theorem cross0 : sI n (fun i => b i * D - a i * E) = 0 := by
  have e : sI n (fun i => b i * D - a i * E) = sI n (fun i => D * b i + (-E) * a i) := sI_congr n fun i _ => by grind
  rw [e, sI_add, sI_mul, sI_mul, fa.sum, fb.sum]
  grind
include hA hB
theorem opt (h : BalT n 2 A B a D T) : sI n (fun i => B i * ((b i * D - a i * E) * (b i * D - a i * E))) ≤ D * D * sI n (dT A B b E) - E * E * sI n (dT A B a D) := by
  have h0 := cross0 fa fb
  have k : sI n (fun i => (E * T) * (b i * D - a i * E) + B i * ((b i * D - a i * E) * (b i * D - a i * E))) ≤ sI n (fun i => D * D * dT A B b E i + (-(E * E)) * dT A B a D i) := by
    refine sI_le n fun i hi => ?_
    obtain ⟨h1, h2⟩ := h i hi
    have e : D * D * dT A B b E i + (-(E * E)) * dT A B a D i = (b i * D - a i * E) * E * (A i * D + 2 * (B i * a i)) + B i * ((b i * D - a i * E) * (b i * D - a i * E)) := by unfold dT; grind
    rw [e]
    by_cases ha : 0 < a i
    · rw [h1 ha]; grind
    · have ha0 : a i = 0 := by have := fa.nn i hi; omega
      have h3 := h2 ha0
      have h4 : 0 ≤ b i * D := Int.mul_nonneg (fb.nn i hi) (Int.le_of_lt fa.pos)
      have h5 : 0 ≤ b i * D * E := Int.mul_nonneg h4 (Int.le_of_lt fb.pos)
      rw [ha0]
      have h6 := Int.mul_le_mul_of_nonneg_left h3 h5
      grind
  rw [sI_add, sI_mul, h0, sI_add, sI_mul, sI_mul] at k
  grind
theorem opt_le (h : BalT n 2 A B a D T) : E * E * sI n (dT A B a D) ≤ D * D * sI n (dT A B b E) := by
  have h1 := opt fa fb hA hB h
  have h2 : 0 ≤ sI n (fun i => B i * ((b i * D - a i * E) * (b i * D - a i * E))) := sI_nonneg n fun i hi => Int.mul_nonneg (by have := hB i hi; omega) (by
    rcases Int.le_total 0 (b i * D - a i * E) with h | h
    · exact Int.mul_nonneg h h
    · exact Int.mul_nonneg_of_nonpos_of_nonpos h h)
  omega
omit fb in
end
end Go.Proofs.Ytjgbdicbdlollaa.B
namespace Go.Proofs.Ytjgbdicbdlollaa.B
open Go.RowKit Go.Sort Go.Proofs.YtjgbdicbdlollaaW.PrintWords Go.Proofs.YtjgbdicbdlollaaW.PrintLast Go.Proofs.YtjgbdicbdlollaaW.PrintMore
set_option linter.unusedVariables false
set_option linter.unusedSimpArgs false
set_option linter.unusedSectionVars false
def valD : List Int → Int
  | [] => 0
  | d :: l => d + 10000 * valD l
def Dg (l : List Int) : Prop := ∀ d ∈ l, 0 ≤ d ∧ d < 10000
def Tr (l : List Int) : Prop := l = [] ∨ rd l ((l.length : Int) - 1) ≠ 0
theorem rdB (l : List Int) (i : Nat) (h : i < l.length) : rd l (i : Int) = l[i] := by simp [rd, List.getD, List.getElem?_eq_getElem h]
theorem rd_hi (l : List Int) (i : Nat) (h : l.length ≤ i) : rd l (i : Int) = 0 := by simp [rd, List.getD, List.getElem?_eq_none h]
theorem rdB_mem (l : List Int) (i : Nat) (h : i < l.length) : rd l (i : Int) ∈ l := by rw [rdB l i h]; exact List.getElem_mem h
theorem Dg.rd {l : List Int} (h : Dg l) (i : Nat) : 0 ≤ rd l (i : Int) ∧ rd l (i : Int) < 10000 := by
  by_cases hi : i < l.length
  · exact h _ (rdB_mem l i hi)
  · rw [rd_hi l i (by omega)]; omega
theorem valD_append : ∀ a b : List Int, valD (a ++ b) = valD a + 10000 ^ a.length * valD b
  | [], b => by simp [valD]
  | x :: a, b => by
    simp only [List.cons_append, valD, valD_append a b, List.length_cons, Int.pow_succ]
    grind
theorem takeB_snoc (l : List Int) (i : Nat) (h : i < l.length) : l.take (i + 1) = l.take i ++ [rd l (i : Int)] := by
  rw [List.take_add_one, List.getElem?_eq_getElem h, rdB l i h]; rfl
theorem valD_take (l : List Int) (i : Nat) (h : i < l.length) : valD (l.take (i + 1)) = valD (l.take i) + 10000 ^ i * rd l (i : Int) := by
  rw [takeB_snoc l i h, valD_append, List.length_take, Nat.min_eq_left (by omega)]
  simp [valD]
theorem pow_pos' (n : Nat) : (0 : Int) < 10000 ^ n := Int.pow_pos (by decide)
theorem valD_b : ∀ {l : List Int}, Dg l → 0 ≤ valD l ∧ valD l < 10000 ^ l.length
  | [], _ => by simp [valD]
  | d :: l, h => by
    have h1 := h d (by simp)
    have h2 := valD_b (l := l) fun y hy => h y (by simp [hy])
    simp only [valD, List.length_cons, Int.pow_succ]
    omega
theorem Dg.take {l : List Int} (h : Dg l) (n : Nat) : Dg (l.take n) := fun d hd => h d (List.mem_of_mem_take hd)
theorem Dg.append {a b : List Int} (h : Dg a) (k : Dg b) : Dg (a ++ b) := fun d hd => by
  rcases List.mem_append.1 hd with h1 | h1
  · exact h d h1
  · exact k d h1
theorem Dg.one {d : Int} (h : 0 ≤ d ∧ d < 10000) : Dg [d] := fun x hx => by
  have : x = d := by simpa using hx
  subst this; exact h
theorem Dg.set {l : List Int} (h : Dg l) (i : Nat) {v : Int} (hv : 0 ≤ v ∧ v < 10000) : Dg (l.set i v) := fun d hd => by
  rcases List.mem_or_eq_of_mem_set hd with h1 | h1
  · exact h d h1
  · subst h1; exact hv
theorem Tr.low {l : List Int} (h : Dg l) (t : Tr l) (hne : l ≠ []) : (10000 : Int) ^ (l.length - 1) ≤ valD l := by
  rcases t with t | t
  · exact absurd t hne
  · have hl : 0 < l.length := List.length_pos_iff.2 hne
    have e := valD_take l (l.length - 1) (by omega)
    rw [show l.length - 1 + 1 = l.length by omega, List.take_of_length_le (Nat.le_refl _)] at e
    have h1 := valD_b (h.take (l.length - 1))
    have h2 := h.rd (l.length - 1)
    rw [show ((l.length - 1 : Nat) : Int) = (l.length : Int) - 1 by omega] at h2 e
    have h3 := pow_pos' (l.length - 1)
    have h4 : (10000 : Int) ^ (l.length - 1) * 1 ≤ 10000 ^ (l.length - 1) * rd l ((l.length : Int) - 1) := Int.mul_le_mul_of_nonneg_left (by omega) (Int.le_of_lt h3)
    omega
theorem Tr.nil {l : List Int} (h : Dg l) (t : Tr l) (h0 : valD l = 0) : l = [] := by
  by_cases hne : l = []
  · exact hne
  · have := t.low h hne
    have := pow_pos' (l.length - 1)
    omega
theorem pow_mono' {m n : Nat} (h : m ≤ n) : (10000 : Int) ^ m ≤ 10000 ^ n := by
  obtain ⟨k, rfl⟩ := Nat.exists_eq_add_of_le h
  rw [Int.pow_add]
  have h1 := pow_pos' m
  have h2 := pow_pos' k
  have := Int.mul_le_mul_of_nonneg_left (show 1 ≤ (10000 : Int) ^ k by omega) (Int.le_of_lt h1)
  omega
theorem Tr.len {a b : List Int} (ha : Dg a) (ta : Tr a) (hb : Dg b) (h : valD a ≤ valD b) : a.length ≤ b.length := by
  rcases Nat.lt_or_ge b.length a.length with hl | hl
  · exfalso
    have hne : a ≠ [] := by intro e; subst e; simp at hl
    have h1 := ta.low ha hne
    have h2 := (valD_b hb).2
    have h3 := pow_mono' (m := b.length) (n := a.length - 1) (by omega)
    omega
  · exact hl
theorem valD_set : ∀ (l : List Int) (i : Nat) (v : Int), i < l.length → valD (l.set i v) = valD l + (v - rd l (i : Int)) * 10000 ^ i
  | d :: l, 0, v, h => by simp [valD, rd]; omega
  | d :: l, i + 1, v, h => by
    have ih := valD_set l i v (by simpa using h)
    have e : rd (d :: l) ((i + 1 : Nat) : Int) = rd l (i : Int) := by simp only [rd, Int.toNat_natCast, List.getD_cons_succ]
    rw [e]
    simp only [List.set_cons_succ, valD, ih, Int.pow_succ]
    grind
theorem rd_set_same (l : List Int) (i : Nat) (v : Int) (h : i < l.length) : rd (l.set i v) (i : Int) = v := by
  rw [rdB _ i (by simpa using h)]; simp
theorem rd_set_far (l : List Int) (i j : Nat) (v : Int) (h : j ≠ i) : rd (l.set i v) (j : Int) = rd l (j : Int) := by
  unfold rd
  simp only [Int.toNat_natCast, List.getD_eq_getElem?_getD]
  rw [List.getElem?_set_ne (fun e => h e.symm)]
theorem trim_l1 (l : List Int) (n : Nat) (hn : n ≤ l.length) (hl : l.length < 1000000) : ∀ (m i : Nat), i + m = n → Ev (fun k => rTr.l1 k l (n : Int) (l.take i) (i : Int)) (l.take n)
  | 0, i, h => by
    have : i = n := by omega
    subst this
    refine Ev.step (f := fun _ => some (l.take i)) (fun k => ?_) (Ev.now _)
    simp only [rTr.l1]
    rw [if_neg (by omega)]
  | m + 1, i, h => by
    have ih := trim_l1 l n hn hl m (i + 1) (by omega)
    rw [takeB_snoc l i (by omega)] at ih
    refine Ev.step (fun k => ?_) ih
    simp only [rTr.l1]
    rw [if_pos (by omega), if_pos (by omega), if_pos (by omega), if_pos (by rw [List.length_take]; omega), wrapN i (by omega)]
theorem trim_l0 (l : List Int) (hd : Dg l) (hl : l.length < 1000000) : ∀ n : Nat, n ≤ l.length → ∃ m, m ≤ n ∧ Ev (fun k => rTr.l0 k l (n : Int)) (l.take m) ∧ valD (l.take m) = valD (l.take n) ∧ Tr (l.take m)
  | 0, hn => by
    refine ⟨0, Nat.le_refl _, ?_, rfl, Or.inl (by simp)⟩
    have h1 := trim_l1 l 0 hn hl 0 0 rfl
    refine Ev.step (f := fun k => rTr.j1 k l ((0 : Nat) : Int)) (fun k => ?_) (Ev.step (fun k => ?_) h1)
    · simp only [rTr.l0]; rw [if_neg (by omega)]
    · simp only [rTr.j1]; rfl
  | n + 1, hn => by
    have w : wrap64 (((n + 1 : Nat) : Int) - 1) = (n : Int) := by unfold wrap64; omega
    by_cases h0 : rd l (n : Int) = 0
    · obtain ⟨m, h1, h2, h3, h4⟩ := trim_l0 l hd hl n (by omega)
      refine ⟨m, by omega, Ev.step (fun k => ?_) h2, ?_, h4⟩
      · simp only [rTr.l0]
        rw [if_pos (by omega), w, if_pos (by omega), if_pos (by omega), if_pos h0]
      · rw [valD_take l n (by omega), h0, h3]; simp
    · refine ⟨n + 1, Nat.le_refl _, ?_, rfl, Or.inr ?_⟩
      · have h1 := trim_l1 l (n + 1) hn hl (n + 1) 0 (by omega)
        refine Ev.step (f := fun k => rTr.j1 k l ((n + 1 : Nat) : Int)) (fun k => ?_) (Ev.step (fun k => ?_) h1)
        · simp only [rTr.l0]
          rw [if_pos (by omega), w, if_pos (by omega), if_pos (by omega), if_neg h0]
        · simp only [rTr.j1]; rfl
      · rw [List.length_take, Nat.min_eq_left hn, show ((n + 1 : Nat) : Int) - 1 = (n : Int) by omega, rdB _ n (by rw [List.length_take]; omega), List.getElem_take, ← rdB l n (by omega)]
        exact h0
structure Big (r : List Int) (v : Int) : Prop where
  dg : Dg r
  tr : Tr r
  val : valD r = v
theorem Big.nn {r : List Int} {v : Int} (h : Big r v) : 0 ≤ v := by rw [← h.val]; exact (valD_b h.dg).1
theorem Big.zero {r : List Int} (h : Big r 0) : r = [] := h.tr.nil h.dg h.val
theorem Big.ne {r : List Int} {v : Int} (h : Big r v) (h0 : 0 < v) : r ≠ [] := by
  intro e; have := h.val; rw [e] at this; simp only [valD] at this; omega
theorem trim_ev {l : List Int} (hd : Dg l) (hl : l.length < 1000000) : ∃ r, Ev (fun k => rTr.f k l) r ∧ Big r (valD l) ∧ r.length ≤ l.length := by
  obtain ⟨m, h1, h2, h3, h4⟩ := trim_l0 l hd hl l.length (Nat.le_refl _)
  rw [List.take_of_length_le (Nat.le_refl _)] at h3
  exact ⟨l.take m, h2, ⟨hd.take m, h4, h3⟩, by rw [List.length_take]; omega⟩
theorem whole_ev {l : List Int} (hd : Dg l) (hl : l.length < 1000000) : ∃ r, Ev (fun k => rWh.f k false l) (false, r) ∧ Big r (valD l) ∧ r.length ≤ l.length := by
  obtain ⟨r, h1, h2, h3⟩ := trim_ev hd hl
  refine ⟨r, ?_, h2, h3⟩
  unfold rWh.f
  exact Ev.bind h1 (Ev.congr (fun k => if_neg (by simp)) (Ev.now _))
def sgn (a b : Int) : Int := if a < b then -1 else if a = b then 0 else 1
theorem cmp_l0 (a b : List Int) (ha : Dg a) (hb : Dg b) (hl : a.length < 1000000) (he : a.length = b.length) : ∀ n : Nat, n ≤ a.length → Ev (fun k => trishawref01_cmpD.l0 k a b ((n : Int) - 1)) (sgn (valD (a.take n)) (valD (b.take n)))
  | 0, _ => by
    refine Ev.step (f := fun _ => some 0) (fun k => ?_) (Ev.now _)
    simp only [trishawref01_cmpD.l0]
    rw [if_neg (by omega)]
  | n + 1, hn => by
    have ih := cmp_l0 a b ha hb hl he n (by omega)
    have e1 := valD_take a n (by omega)
    have e2 := valD_take b n (by omega)
    have b1 := valD_b (ha.take n)
    have b2 := valD_b (hb.take n)
    rw [List.length_take, Nat.min_eq_left (by omega)] at b1 b2
    have hp := pow_pos' n
    have w : wrap64 (((n + 1 : Nat) : Int) - 1 - 1) = (n : Int) - 1 := by unfold wrap64; omega
    have ei : (((n + 1 : Nat) : Int) - 1) = (n : Int) := by omega
    by_cases h1 : rd a (n : Int) < rd b (n : Int)
    · have h2 : 10000 ^ n * rd a (n : Int) + 10000 ^ n ≤ 10000 ^ n * rd b (n : Int) := by
        have := Int.mul_le_mul_of_nonneg_left (show rd a (n : Int) + 1 ≤ rd b (n : Int) by omega) (Int.le_of_lt hp)
        rw [Int.mul_add] at this; omega
      have e : sgn (valD (a.take (n + 1))) (valD (b.take (n + 1))) = -1 := by unfold sgn; rw [if_pos (by omega)]
      rw [e]
      refine Ev.step (f := fun _ => some (-1)) (fun k => ?_) (Ev.now _)
      simp only [trishawref01_cmpD.l0]
      rw [ei, if_pos (by omega), if_pos (by omega), if_pos (by omega), if_pos (by omega), if_pos h1]
    · by_cases h3 : rd b (n : Int) < rd a (n : Int)
      · have h2 : 10000 ^ n * rd b (n : Int) + 10000 ^ n ≤ 10000 ^ n * rd a (n : Int) := by
          have := Int.mul_le_mul_of_nonneg_left (show rd b (n : Int) + 1 ≤ rd a (n : Int) by omega) (Int.le_of_lt hp)
          rw [Int.mul_add] at this; omega
        have e : sgn (valD (a.take (n + 1))) (valD (b.take (n + 1))) = 1 := by unfold sgn; rw [if_neg (by omega), if_neg (by omega)]
        rw [e]
        refine Ev.step (f := fun _ => some 1) (fun k => ?_) (Ev.now _)
        simp only [trishawref01_cmpD.l0]
        rw [ei, if_pos (by omega), if_pos (by omega), if_pos (by omega), if_pos (by omega), if_neg h1, if_pos h3]
      · have h4 : rd a (n : Int) = rd b (n : Int) := by omega
        have e : sgn (valD (a.take (n + 1))) (valD (b.take (n + 1))) = sgn (valD (a.take n)) (valD (b.take n)) := by
          unfold sgn
          rw [e1, e2, h4]
          split <;> split <;> (try split) <;> (try split) <;> omega
        rw [e]
        refine Ev.step (fun k => ?_) ih
        simp only [trishawref01_cmpD.l0]
        rw [w, ei, if_pos (by omega), if_pos (by omega), if_pos (by omega), if_pos (by omega), if_neg h1, if_neg h3]
theorem cmpD_ev {a b : List Int} {u v : Int} (ha : Big a u) (hb : Big b v) (hl : a.length < 1000000) : Ev (fun k => trishawref01_cmpD.f k a b) (sgn u v) := by
  have e1 := ha.val
  have e2 := hb.val
  unfold trishawref01_cmpD.f
  by_cases h1 : a.length < b.length
  · have : u < v := by
      rcases Int.lt_or_le u v with h | h
      · exact h
      · have := hb.tr.len hb.dg ha.dg (by omega); omega
    refine Ev.congr (f := fun _ => some (-1)) (fun k => if_pos (by omega)) ?_
    unfold sgn; rw [if_pos this]; exact Ev.now _
  · by_cases h2 : b.length < a.length
    · have : v < u := by
        rcases Int.lt_or_le v u with h | h
        · exact h
        · have := ha.tr.len ha.dg hb.dg (by omega); omega
      refine Ev.congr (f := fun _ => some 1) (fun k => by rw [if_neg (by omega), if_pos (by omega)]) ?_
      unfold sgn; rw [if_neg (by omega), if_neg (by omega)]; exact Ev.now _
    · have h := cmp_l0 a b ha.dg hb.dg hl (by omega) a.length (Nat.le_refl _)
      rw [List.take_of_length_le (Nat.le_refl _), List.take_of_length_le (by omega), e1, e2] at h
      refine Ev.congr (fun k => ?_) h
      rw [if_neg (by omega), if_neg (by omega)]
      congr 1
      unfold wrap64; omega
theorem tdm (s : Int) (h : 0 ≤ s) : Int.tmod s 10000 + 10000 * Int.tdiv s 10000 = s ∧ 0 ≤ Int.tmod s 10000 ∧ Int.tmod s 10000 < 10000 ∧ 0 ≤ Int.tdiv s 10000 := by
  rw [Int.tmod_eq_emod_of_nonneg h, Int.tdiv_eq_ediv_of_nonneg h]; omega
structure MulI (a b : List Int) (out : List Int) (j : Nat) : Prop where
  dg : Dg out
  len : out.length = a.length + b.length
  hi : ∀ q : Nat, j ≤ q → rd out (q : Int) = 0
theorem mul_alg1 (V c o p A B a p1 : Int) (ho : o = 0) (h : V + c * p = A + a * p1 * B) : V + (c - o) * p = A + p1 * a * B := by
  subst ho; rw [Int.sub_zero, h, Int.mul_comm a p1]
theorem mul_alg2 (V c o a b p p1 p2 A B s tm td : Int) (hp : p = p1 * p2) (hs : o + a * b + c = s) (ht : tm + 10000 * td = s) (h : V + c * p = A + a * p1 * B) : V + (tm - o) * p + td * (p * 10000) = A + a * p1 * (B + p2 * b) := by
  have e1 : (tm - o) * p + td * (p * 10000) = (tm + 10000 * td - o) * p := by
    rw [Int.sub_mul, Int.sub_mul, Int.add_mul]
    have : td * (p * 10000) = 10000 * td * p := by rw [Int.mul_comm p, ← Int.mul_assoc, Int.mul_comm td]
    omega
  have e2 : (s - o) * p = a * b * p + c * p := by rw [← Int.add_mul]; congr 1; omega
  have e3 : a * p1 * (B + p2 * b) = a * p1 * B + a * b * p := by
    rw [Int.mul_add, hp]; congr 1
    rw [Int.mul_assoc, Int.mul_assoc, ← Int.mul_assoc p1, Int.mul_comm (p1 * p2) b]
  rw [Int.add_assoc, e1, ht, e2, e3]
  omega
theorem mulD_next (a b out : List Int) (i j : Nat) (c s : Int) (hi : i < a.length) (hj : j < b.length) (hl : i + j < out.length) (la : a.length < 100000) (lb : b.length < 100000)
    (w : wrap64 ((i : Int) + (j : Int)) = ((i + j : Nat) : Int)) (w1 : wrap64 (rd a (i : Int) * rd b (j : Int)) = rd a (i : Int) * rd b (j : Int)) (w2 : wrap64 (rd out ((i + j : Nat) : Int) + rd a (i : Int) * rd b (j : Int)) = rd out ((i + j : Nat) : Int) + rd a (i : Int) * rd b (j : Int))
    (hs : rd out ((i + j : Nat) : Int) + rd a (i : Int) * rd b (j : Int) + c = s) (w3 : wrap64 s = s) (w4 : wrap64 (Int.tdiv s 10000) = Int.tdiv s 10000) (k : Nat) :
    rMl.l1 (k + 1) a b out (i : Int) c (j : Int) = rMl.l1 k a b (out.set (i + j) (Int.tmod s 10000)) (i : Int) (Int.tdiv s 10000) ((j + 1 : Nat) : Int) := by
  have c1 : (j : Int) < (b.length : Int) := by omega
  have c2 : (0 : Int) ≤ ((i + j : Nat) : Int) := Int.natCast_nonneg _
  have c3 : ((i + j : Nat) : Int) < (out.length : Int) := Int.ofNat_lt.2 hl
  have c4 : (0 : Int) ≤ (i : Int) := Int.natCast_nonneg _
  have c5 : (i : Int) < (a.length : Int) := Int.ofNat_lt.2 hi
  have c6 : (0 : Int) ≤ (j : Int) := Int.natCast_nonneg _
  have c7 := wrapN j (by omega)
  simp only [rMl.l1]
  rw [if_pos c1, w, if_pos c2, if_pos c3, if_pos c4, if_pos c5, if_pos c6, w1, w2, hs, w3, w4, c7, Int.toNat_natCast]
theorem mul_l1 (a b : List Int) (ha : Dg a) (hb : Dg b) (la : a.length < 100000) (lb : b.length < 100000) (i : Nat) (hi : i < a.length) :
    ∀ (m j : Nat) (out : List Int) (c : Int), j + m = b.length → MulI a b out (i + b.length) → 0 ≤ c → c < 10000 → valD out + c * 10000 ^ (i + j) = valD (a.take i) * valD b + rd a (i : Int) * 10000 ^ i * valD (b.take j) →
      ∃ out2, MulI a b out2 (i + 1 + b.length) ∧ valD out2 = valD (a.take (i + 1)) * valD b ∧ ∀ R, Ev (fun k => rMl.l0 k a b out2 ((i + 1 : Nat) : Int)) R → Ev (fun k => rMl.l1 k a b out (i : Int) c (j : Int)) R := by
  intro m
  induction m with
  | zero =>
    intro j out c h hI c0 c1 hv
    have hj : j = b.length := by omega
    subst hj
    rw [List.take_of_length_le (Nat.le_refl _)] at hv
    have HV := Az0.mk hv
    clear hv
    have hz := hI.hi (i + b.length) (Nat.le_refl _)
    have hlen : i + b.length < out.length := by rw [hI.len]; omega
    have w : wrap64 ((i : Int) + (b.length : Int)) = ((i + b.length : Nat) : Int) := by unfold wrap64; omega
    refine ⟨out.set (i + b.length) c, ⟨hI.dg.set _ ⟨c0, c1⟩, by rw [List.length_set]; exact hI.len, fun q hq => ?_⟩, ?_, fun R hR => ?_⟩
    rotate_left 2
    · refine Ev.step (f := fun k => rMl.l0 k a b (out.set (i + b.length) c) ((i + 1 : Nat) : Int)) (fun k => ?_) hR
      simp only [rMl.l1]
      rw [if_neg (by omega), w, if_pos (by omega), if_pos (by omega), wrapN i (by omega), Int.toNat_natCast]
    · rw [rd_set_far _ _ _ _ (by omega)]; exact hI.hi q (by omega)
    · rw [valD_set out _ c hlen, valD_take a i hi, Int.add_mul]
      exact mul_alg1 _ _ _ _ _ _ _ _ hz HV.out
  | succ m ih =>
    intro j out c h hI c0 c1 hv
    have HV := Az0.mk hv
    clear hv
    have hj : j < b.length := by omega
    have hj2 : j + 1 + m = b.length := by omega
    have hq2 : ∀ q : Nat, i + b.length ≤ q → q ≠ i + j := fun q hq => by omega
    have hlen : i + j < out.length := by rw [hI.len]; omega
    have d1 := hI.dg.rd (i + j)
    have d2 := ha.rd i
    have d3 := hb.rd j
    have hm : 0 ≤ rd a (i : Int) * rd b (j : Int) ∧ rd a (i : Int) * rd b (j : Int) ≤ 9999 * 9999 := ⟨Int.mul_nonneg d2.1 d3.1, Int.mul_le_mul (by omega) (by omega) d3.1 (by omega)⟩
    have w : wrap64 ((i : Int) + (j : Int)) = ((i + j : Nat) : Int) := by unfold wrap64; omega
    obtain ⟨s, hs⟩ : ∃ s, rd out ((i + j : Nat) : Int) + rd a (i : Int) * rd b (j : Int) + c = s := ⟨_, rfl⟩
    have hs0 : 0 ≤ s ∧ s < 100000000 := by omega
    have w1 : wrap64 (rd a (i : Int) * rd b (j : Int)) = rd a (i : Int) * rd b (j : Int) := wsm (by unfold sm; omega)
    have w2 : wrap64 (rd out ((i + j : Nat) : Int) + rd a (i : Int) * rd b (j : Int)) = rd out ((i + j : Nat) : Int) + rd a (i : Int) * rd b (j : Int) := wsm (by unfold sm; omega)
    have w3 : wrap64 s = s := wsm (by unfold sm; omega)
    obtain ⟨t1, t2, t3, t4⟩ := tdm s hs0.1
    have t5 : Int.tdiv s 10000 < 10000 := by omega
    have w4 : wrap64 (Int.tdiv s 10000) = Int.tdiv s 10000 := wsm (by unfold sm; omega)
    have HV2 := Az0.mk (show valD (out.set (i + j) (Int.tmod s 10000)) + Int.tdiv s 10000 * 10000 ^ (i + (j + 1)) = valD (a.take i) * valD b + rd a (i : Int) * 10000 ^ i * valD (b.take (j + 1)) by
        rw [valD_set out _ _ hlen, valD_take b j hj, ← Nat.add_assoc, Int.pow_succ]
        exact mul_alg2 _ _ _ _ _ _ _ _ _ _ _ _ _ (Int.pow_add _ _ _) hs t1 HV.out)
    obtain ⟨out2, e1, e2, e3⟩ := ih (j + 1) (out.set (i + j) (Int.tmod s 10000)) (Int.tdiv s 10000) hj2 ⟨hI.dg.set _ ⟨t2, t3⟩, by rw [List.length_set]; exact hI.len, fun q hq => by rw [rd_set_far _ _ _ _ (hq2 q hq)]; exact hI.hi q hq⟩ t4 t5 HV2.out
    exact ⟨out2, e1, e2, fun R hR => Ev.step (fun k => mulD_next a b out i j c s hi hj hlen la lb w w1 w2 hs w3 w4 k) (e3 R hR)⟩
theorem mul_l0 (a b : List Int) (ha : Dg a) (hb : Dg b) (la : a.length < 100000) (lb : b.length < 100000) :
    ∀ (m i : Nat) (out : List Int), i + m = a.length → MulI a b out (i + b.length) → valD out = valD (a.take i) * valD b →
      ∃ r, Big r (valD a * valD b) ∧ r.length ≤ a.length + b.length ∧ Ev (fun k => rMl.l0 k a b out (i : Int)) r
  | 0, i, out, h, hI, hv => by
    rw [List.take_of_length_le (by omega)] at hv
    obtain ⟨r, h1, h2, h3⟩ := trim_ev hI.dg (by rw [hI.len]; omega)
    rw [hv] at h2
    rw [hI.len] at h3
    refine ⟨r, h2, h3, Ev.step (fun k => ?_) (Ev.bind h1 (Ev.now r))⟩
    simp only [rMl.l0]
    rw [if_neg (by omega)]
  | m + 1, i, out, h, hI, hv => by
    obtain ⟨out2, e1, e2, e3⟩ := mul_l1 a b ha hb la lb i (by omega) b.length 0 out 0 (by omega) hI (by omega) (by omega) (by rw [hv]; simp [valD])
    obtain ⟨r, h1, h2, h3⟩ := mul_l0 a b ha hb la lb m (i + 1) out2 (by omega) e1 e2
    refine ⟨r, h1, h2, Ev.step (fun k => ?_) (e3 r h3)⟩
    simp only [rMl.l0]
    rw [if_pos (by omega)]
    rfl
theorem Dg.zeros (n : Nat) : Dg (List.replicate n 0) := fun d hd => by
  have := List.eq_of_mem_replicate hd; omega
theorem valD_zeros : ∀ n, valD (List.replicate n 0) = 0
  | 0 => rfl
  | n + 1 => by simp only [List.replicate_succ, valD, valD_zeros n]; rfl
theorem rd_zeros (n q : Nat) : rd (List.replicate n 0) (q : Int) = 0 := by
  by_cases h : q < n
  · rw [rdB _ q (by simpa using h)]; simp
  · exact rd_hi _ q (by simpa using h)
theorem mulD_ev {a b : List Int} (ha : Dg a) (hb : Dg b) (la : a.length < 100000) (lb : b.length < 100000) : ∃ r, Ev (fun k => rMl.f k a b) r ∧ Big r (valD a * valD b) ∧ r.length ≤ a.length + b.length := by
  obtain ⟨r, h1, h2, h3⟩ := mul_l0 a b ha hb la lb a.length 0 (List.replicate (a.length + b.length) 0) (by omega) ⟨Dg.zeros _, by simp, fun q _ => rd_zeros _ q⟩ (by rw [valD_zeros]; simp [valD])
  refine ⟨r, ?_, h1, h2⟩
  have w : wrap64 ((a.length : Int) + (b.length : Int)) = ((a.length + b.length : Nat) : Int) := by unfold wrap64; omega
  refine Ev.congr (fun k => ?_) h3
  unfold rMl.f
  rw [w, if_pos (by omega), Int.toNat_natCast, if_pos (by omega)]
  rfl
theorem sub_alg1 (V c p A B x y s b2 : Int) (hs : x - c - y = s) (h : V - c * p = A - B) : V + p * (s + 10000 * b2) - b2 * (p * 10000) = A + p * x - (B + p * y) := by
  have e1 : p * (s + 10000 * b2) - b2 * (p * 10000) = p * s := by
    rw [Int.mul_add, Int.mul_comm b2, Int.mul_assoc p 10000 b2]; omega
  have e2 : p * s = p * x - p * c - p * y := by rw [← hs, Int.mul_sub, Int.mul_sub]
  have e3 : c * p = p * c := Int.mul_comm _ _
  omega
theorem subD_next (a b out : List Int) (i : Nat) (c : Int) (hi : i < a.length) (la : a.length < 100000) (ho : out.length = i) (c01 : c = 0 ∨ c = 1) (da : 0 ≤ rd a (i : Int) ∧ rd a (i : Int) < 10000) (db : 0 ≤ rd b (i : Int) ∧ rd b (i : Int) < 10000) (k : Nat) :
    trishawref01_subD.l0 (k + 1) a b out c (i : Int) = if rd a (i : Int) - c - rd b (i : Int) < 0 then trishawref01_subD.l0 k a b (out ++ [rd a (i : Int) - c - rd b (i : Int) + 10000]) 1 ((i + 1 : Nat) : Int) else trishawref01_subD.l0 k a b (out ++ [rd a (i : Int) - c - rd b (i : Int)]) 0 ((i + 1 : Nat) : Int) := by
  have c1 : (i : Int) < (a.length : Int) := by omega
  have c2 : (0 : Int) ≤ (i : Int) := Int.natCast_nonneg _
  have c3 : out.length < 17592186044416 := by omega
  have c4 := wrapN i (by omega)
  have w1 : wrap64 (rd a (i : Int) - c) = rd a (i : Int) - c := wsm (by unfold sm; omega)
  simp only [trishawref01_subD.l0]
  rw [if_pos c1, if_pos c2, w1, c4]
  by_cases hb : (i : Int) < (b.length : Int)
  · have w2 : wrap64 (rd a (i : Int) - c - rd b (i : Int)) = rd a (i : Int) - c - rd b (i : Int) := wsm (by unfold sm; omega)
    have w3 : wrap64 (rd a (i : Int) - c - rd b (i : Int) + 10000) = rd a (i : Int) - c - rd b (i : Int) + 10000 := wsm (by unfold sm; omega)
    rw [if_pos hb, w2, w3, if_pos c3, if_pos c3]
  · have hz : rd b (i : Int) = 0 := rd_hi b i (by omega)
    have w3 : wrap64 (rd a (i : Int) - c + 10000) = rd a (i : Int) - c + 10000 := wsm (by unfold sm; omega)
    rw [if_neg hb, hz, w3, if_pos c3, if_pos c3, Int.sub_zero]
theorem valD_take' (l : List Int) (i : Nat) : valD (l.take (i + 1)) = valD (l.take i) + 10000 ^ i * rd l (i : Int) := by
  by_cases h : i < l.length
  · exact valD_take l i h
  · rw [rd_hi l i (by omega), List.take_of_length_le (by omega), List.take_of_length_le (by omega)]; simp
theorem sub_l0 (a b : List Int) (ha : Dg a) (hb : Dg b) (la : a.length < 100000) (lb : b.length ≤ a.length) (hle : valD b ≤ valD a) : ∀ (m i : Nat) (out : List Int) (c : Int), i + m = a.length → out.length = i → Dg out → (c = 0 ∨ c = 1) → valD out - c * 10000 ^ i = valD (a.take i) - valD (b.take i) →
    ∃ r, Big r (valD a - valD b) ∧ r.length ≤ a.length ∧ Ev (fun k => trishawref01_subD.l0 k a b out c (i : Int)) r
  | 0, i, out, c, h, ho, hd, hc, hv => by
    have hi : i = a.length := by omega
    rw [List.take_of_length_le (by omega), List.take_of_length_le (by omega)] at hv
    have hbd := valD_b hd
    rw [ho] at hbd
    have hc0 : c = 0 := by
      rcases hc with hc | hc
      · exact hc
      · subst hc
        rw [Int.one_mul] at hv
        generalize (10000 : Int) ^ i = p at *
        omega
    subst hc0
    rw [Int.zero_mul, Int.sub_zero] at hv
    obtain ⟨r, h1, h2, h3⟩ := trim_ev hd (by omega)
    rw [hv] at h2
    refine ⟨r, h2, by omega, Ev.step (fun k => ?_) (Ev.bind h1 (Ev.now r))⟩
    simp only [trishawref01_subD.l0]
    rw [if_neg (by omega)]
  | m + 1, i, out, c, h, ho, hd, hc, hv => by
    have hi : i < a.length := by omega
    have hi2 : i + 1 + m = a.length := by omega
    have HV := Az0.mk hv
    clear hv
    have da := ha.rd i
    have db := hb.rd i
    by_cases hs : rd a (i : Int) - c - rd b (i : Int) < 0
    · have hv2 : Az0 (valD (out ++ [rd a (i : Int) - c - rd b (i : Int) + 10000]) - 1 * 10000 ^ (i + 1) = valD (a.take (i + 1)) - valD (b.take (i + 1))) := ⟨by
        rw [valD_take', valD_take', valD_append, ho, Int.pow_succ]
        simp only [valD]
        have := sub_alg1 _ c _ _ _ (rd a (i : Int)) (rd b (i : Int)) _ 1 rfl HV.out
        simpa using this⟩
      obtain ⟨r, h1, h2, h3⟩ := sub_l0 a b ha hb la lb hle m (i + 1) (out ++ [rd a (i : Int) - c - rd b (i : Int) + 10000]) 1 hi2 (by simp [ho]) (hd.append (Dg.one (by omega))) (Or.inr rfl) hv2.out
      refine ⟨r, h1, h2, Ev.step (fun k => ?_) h3⟩
      rw [subD_next a b out i c hi la ho hc da db k, if_pos hs]
    · have hv2 : Az0 (valD (out ++ [rd a (i : Int) - c - rd b (i : Int)]) - 0 * 10000 ^ (i + 1) = valD (a.take (i + 1)) - valD (b.take (i + 1))) := ⟨by
        rw [valD_take', valD_take', valD_append, ho, Int.pow_succ]
        simp only [valD]
        have := sub_alg1 _ c _ _ _ (rd a (i : Int)) (rd b (i : Int)) _ 0 rfl HV.out
        simpa using this⟩
      obtain ⟨r, h1, h2, h3⟩ := sub_l0 a b ha hb la lb hle m (i + 1) (out ++ [rd a (i : Int) - c - rd b (i : Int)]) 0 hi2 (by simp [ho]) (hd.append (Dg.one (by omega))) (Or.inl rfl) hv2.out
      refine ⟨r, h1, h2, Ev.step (fun k => ?_) h3⟩
      rw [subD_next a b out i c hi la ho hc da db k, if_neg hs]
theorem subD_ev {a b : List Int} {u v : Int} (ha : Big a u) (hb : Big b v) (la : a.length < 100000) (h : v ≤ u) : ∃ r, Big r (u - v) ∧ r.length ≤ a.length ∧ Ev (fun k => trishawref01_subD.f k a b) r := by
  have e1 := ha.val
  have e2 := hb.val
  obtain ⟨r, h1, h2, h3⟩ := sub_l0 a b ha.dg hb.dg la (hb.tr.len hb.dg ha.dg (by omega)) (by omega) a.length 0 [] 0 (by omega) rfl (fun d hd => by simp at hd) (Or.inl rfl) (by simp [valD])
  rw [e1, e2] at h1
  exact ⟨r, h1, h2, h3⟩
theorem sgn_le {a b : Int} : sgn a b ≤ 0 ↔ a ≤ b := by
  unfold sgn
  split
  · omega
  · split <;> omega
theorem digit_ev (x : Int) (h : 0 ≤ x ∧ x < 10000) : ∃ r, Ev (fun k => rTr.f k [x]) r ∧ Big r x ∧ r.length ≤ 1 := by
  obtain ⟨r, h1, h2, h3⟩ := trim_ev (l := [x]) (Dg.one h) (by simp)
  refine ⟨r, h1, ?_, by simpa using h3⟩
  have e : valD [x] = x := by simp [valD]
  rw [e] at h2; exact h2
theorem div_bits (a b q rem : List Int) {v R : Int} (hb : Big b v) (hv : 0 < v) (lb : b.length < 50000) (i : Nat) (hr : Big rem R) (lr : rem.length < 50000) :
    ∀ (n : Nat) (lo hi : Int), hi - lo ≤ n → 0 ≤ lo → lo ≤ hi → hi ≤ 9999 → lo * v ≤ R → R < (hi + 1) * v →
      ∃ d, 0 ≤ d ∧ d ≤ 9999 ∧ d * v ≤ R ∧ R < (d + 1) * v ∧ ∀ S, Ev (fun k => rDv.l1 k a b q rem (i : Int) d d) S → Ev (fun k => rDv.l1 k a b q rem (i : Int) lo hi) S
  | n, lo, hi, hn, h0, h1, h2, h3, h4 => by
    by_cases he : lo = hi
    · subst he
      exact ⟨lo, h0, h2, h3, h4, fun S hS => hS⟩
    · have hlt : lo < hi := by omega
      match n, hn with
      | 0, hn => omega
      | n + 1, hn =>
      obtain ⟨mid, hm⟩ : ∃ mid, Int.tdiv (lo + hi + 1) 2 = mid := ⟨_, rfl⟩
      have hmv : mid = (lo + hi + 1) / 2 := by rw [← hm, Int.tdiv_eq_ediv_of_nonneg (by omega)]
      have hm1 : lo < mid := by omega
      have hm2 : mid ≤ hi := by omega
      have w1 : wrap64 (lo + hi) = lo + hi := wsm (by unfold sm; omega)
      have w2 : wrap64 (lo + hi + 1) = lo + hi + 1 := wsm (by unfold sm; omega)
      have w3 : wrap64 mid = mid := wsm (by unfold sm; omega)
      have w4 : wrap64 (mid - 1) = mid - 1 := wsm (by unfold sm; omega)
      have g1 : hi - mid ≤ n := by omega
      have g2 : mid - 1 - lo ≤ n := by omega
      have g3 : lo ≤ mid - 1 := by omega
      have g4 : mid - 1 ≤ 9999 := by omega
      have g5 : 0 ≤ mid := by omega
      have g6 : mid < 10000 := by omega
      clear hmv hn
      obtain ⟨r, t1, t2, t3⟩ := digit_ev mid ⟨g5, g6⟩
      obtain ⟨p, p1, p2, p3⟩ := mulD_ev hb.dg t2.dg (by omega) (by omega)
      rw [hb.val, t2.val] at p2
      have hc := cmpD_ev p2 hr (by omega)
      by_cases hle : v * mid ≤ R
      · have hs : sgn (v * mid) R ≤ 0 := sgn_le.2 hle
        obtain ⟨d, d1, d2, d3, d4, d5⟩ := div_bits a b q rem hb hv lb i hr lr n mid hi g1 g5 hm2 h2 (by rw [Int.mul_comm]; exact hle) h4
        refine ⟨d, d1, d2, d3, d4, fun S hS => Ev.step (f := fun k => (rTr.f k [mid]).bind fun t => (rMl.f k b t).bind fun t2 => (trishawref01_cmpD.f k t2 rem).bind fun c => if c ≤ 0 then rDv.l1 k a b q rem (i : Int) mid hi else rDv.l1 k a b q rem (i : Int) lo (mid - 1)) (fun k => ?_) (Ev.bind t1 (Ev.bind p1 (Ev.bind hc (Ev.congr (fun k => if_pos hs) (d5 S hS)))))⟩
        simp only [rDv.l1]
        rw [if_pos hlt, w1, w2, hm, w3, w4]
      · have hs : ¬ sgn (v * mid) R ≤ 0 := fun e => hle (sgn_le.1 e)
        obtain ⟨d, d1, d2, d3, d4, d5⟩ := div_bits a b q rem hb hv lb i hr lr n lo (mid - 1) g2 h0 g3 g4 h3 (by rw [Int.sub_add_cancel, Int.mul_comm]; omega)
        refine ⟨d, d1, d2, d3, d4, fun S hS => Ev.step (f := fun k => (rTr.f k [mid]).bind fun t => (rMl.f k b t).bind fun t2 => (trishawref01_cmpD.f k t2 rem).bind fun c => if c ≤ 0 then rDv.l1 k a b q rem (i : Int) mid hi else rDv.l1 k a b q rem (i : Int) lo (mid - 1)) (fun k => ?_) (Ev.bind t1 (Ev.bind p1 (Ev.bind hc (Ev.congr (fun k => if_neg hs) (d5 S hS)))))⟩
        simp only [rDv.l1]
        rw [if_pos hlt, w1, w2, hm, w3, w4]
structure DivI (a q rem : List Int) (v : Int) (i : Nat) : Prop where
  dg : Dg q
  len : q.length = a.length
  low : valD (q.take i) = 0
  rem : Big rem (valD (a.drop i) - valD (q.drop i) * v)
  lt : valD (a.drop i) - valD (q.drop i) * v < v
theorem drop_snoc (l : List Int) (i : Nat) (h : i < l.length) : l.drop i = rd l (i : Int) :: l.drop (i + 1) := by
  rw [List.drop_eq_getElem_cons h, rdB l i h]
theorem div_alg (x A Q v d : Int) : x + 10000 * (A - Q * v) - d * v = x + 10000 * A - (d + 10000 * Q) * v := by
  rw [Int.add_mul, Int.mul_sub, Int.mul_assoc]; omega
theorem div_l0 (a b : List Int) {v : Int} (ha : Dg a) (hb : Big b v) (hv : 0 < v) (la : a.length < 40000) (lb : b.length < 40000) :
    ∀ (i : Nat) (q rem : List Int), i ≤ a.length → DivI a q rem v i → ∃ q2 r2, Big q2 (valD a / v) ∧ Big r2 (valD a % v) ∧ q2.length ≤ a.length ∧ Ev (fun k => rDv.l0 k a b q rem ((i : Int) - 1)) (q2, r2)
  | 0, q, rem, hi, hI => by
    have e1 := hI.rem
    have e2 := hI.lt
    simp only [List.drop_zero] at e1 e2
    have e3 := e1.nn
    obtain ⟨q2, h1, h2, h3⟩ := trim_ev hI.dg (by rw [hI.len]; omega)
    have hd : valD a / v = valD q ∧ valD a % v = valD a - valD q * v := by
      have e : valD a = (valD a - valD q * v) + v * valD q := by rw [Int.mul_comm v]; omega
      constructor
      · conv => lhs; rw [e]
        rw [Int.add_mul_ediv_left _ _ (by omega), Int.ediv_eq_zero_of_lt e3 e2]; omega
      · conv => lhs; rw [e]
        rw [Int.add_mul_emod_self_left, Int.emod_eq_of_lt e3 e2]
    refine ⟨q2, rem, by rw [hd.1]; exact h2, by rw [hd.2]; exact e1, by rw [← hI.len]; exact h3, Ev.step (f := fun k => (rTr.f k q).bind fun t => some (t, rem)) (fun k => ?_) (Ev.bind h1 (Ev.now (q2, rem)))⟩
    simp only [rDv.l0]
    rw [if_neg (by omega)]
  | i + 1, q, rem, hi, hI => by
    have hi1 : i < a.length := by omega
    have hq1 : i < q.length := by rw [hI.len]; omega
    have z1 : (((i + 1 : Nat) : Int) - 1) = (i : Int) := by omega
    have z2 : (i : Int) ≥ 0 := Int.natCast_nonneg _
    have z3 : (i : Int) < (a.length : Int) := by omega
    have z4 : (i : Int) < (q.length : Int) := by omega
    have z5 : wrap64 ((i : Int) - 1) = (i : Int) - 1 := by unfold wrap64; omega
    have z6 : i ≤ a.length := by omega
    have dx := ha.rd i
    have hr := hI.rem
    have hlt := hI.lt
    have hrn := hr.nn
    have lr : rem.length ≤ b.length := hr.tr.len hr.dg hb.dg (by rw [hr.val, hb.val]; omega)
    obtain ⟨P, hP⟩ : ∃ P, valD (a.drop (i + 1)) - valD (q.drop (i + 1)) * v = P := ⟨_, rfl⟩
    rw [hP] at hr hlt hrn
    have hc : Dg ([rd a (i : Int)] ++ rem) := (Dg.one dx).append hr.dg
    obtain ⟨rm, t1, t2, t3⟩ := trim_ev hc (by simp; omega)
    have vr : valD ([rd a (i : Int)] ++ rem) = rd a (i : Int) + 10000 * P := by
      rw [valD_append, hr.val]; simp [valD]
    rw [vr] at t2
    have lrm : rm.length ≤ b.length + 1 := by
      have : ([rd a (i : Int)] ++ rem).length = rem.length + 1 := by simp [Nat.add_comm]
      omega
    have y2 : ([rd a (i : Int)] : List Int).length + rem.length < 17592186044416 := by
      have : ([rd a (i : Int)] : List Int).length = 1 := rfl
      omega
    have y3 : b.length < 100000 := by omega
    have y4 : b.length < 50000 := by omega
    have y5 : rm.length < 50000 := by omega
    have y6 : rm.length < 100000 := by omega
    have y1 : rd a (i : Int) + 10000 * P < (9999 + 1) * v := by omega
    have y0 : 0 ≤ rd a (i : Int) + 10000 * P := by omega
    obtain ⟨d, d1, d2, d3, d4, d5⟩ := div_bits a b q rm hb hv y4 i t2 y5 9999 0 9999 (by decide) (by decide) (by decide) (by decide) (by rw [Int.zero_mul]; exact y0) y1
    have d6 : d < 10000 := Int.lt_of_le_of_lt d2 (by decide)
    obtain ⟨dg, g1, g2, g3⟩ := digit_ev d ⟨d1, d6⟩
    obtain ⟨p, p1, p2, p3⟩ := mulD_ev hb.dg g2.dg y3 (Nat.lt_of_le_of_lt g3 (by decide))
    rw [hb.val, g2.val, Int.mul_comm] at p2
    obtain ⟨r3, s1, s2, s3⟩ := subD_ev t2 p2 y6 d3
    have HD : valD ((q.set i d).drop i) = d + 10000 * valD (q.drop (i + 1)) := by
      rw [drop_snoc _ i (by simpa using hq1), rd_set_same q i d hq1]
      simp only [valD]
      congr 2
      rw [List.drop_set]
      rw [if_pos (by omega)]
    have HA : valD (a.drop i) = rd a (i : Int) + 10000 * valD (a.drop (i + 1)) := by
      rw [drop_snoc _ i hi1]; rfl
    have HE : rd a (i : Int) + 10000 * P - d * v = valD (a.drop i) - valD ((q.set i d).drop i) * v := by
      rw [HA, HD, ← hP]; exact div_alg _ _ _ _ _
    have HL : valD ((q.set i d).take i) = 0 := by
      rw [List.take_set_of_le (Nat.le_refl _)]
      have h9 := hI.low
      rw [valD_take q i hq1] at h9
      have b1 := valD_b (hI.dg.take i)
      have b2 := hI.dg.rd i
      have b3 := Int.mul_nonneg (Int.le_of_lt (pow_pos' i)) b2.1
      generalize 10000 ^ i * rd q (i : Int) = z at *
      omega
    have HT : rd a (i : Int) + 10000 * P - d * v < v := by rw [Int.add_mul, Int.one_mul] at d4; omega
    obtain ⟨q2, r2, k1, k2, k3, k4⟩ := div_l0 a b ha hb hv la lb i (q.set i d) r3 z6 ⟨hI.dg.set _ ⟨d1, d6⟩, by rw [List.length_set]; exact hI.len, HL, by rw [← HE]; exact s1, by rw [← HE]; exact HT⟩
    refine ⟨q2, r2, k1, k2, k3, ?_⟩
    have G2 : Ev (fun k => rDv.l1 k a b q rm (i : Int) d d) (q2, r2) := by
      refine Ev.step (f := fun k => (rTr.f k [d]).bind fun t => (rMl.f k b t).bind fun t2 => (trishawref01_subD.f k rm t2).bind fun t3 => rDv.l0 k a b (q.set i d) t3 ((i : Int) - 1)) (fun k => ?_) (Ev.bind g1 (Ev.bind p1 (Ev.bind s3 k4)))
      simp only [rDv.l1]
      rw [if_neg (Int.lt_irrefl d), if_pos z2, if_pos z4, z5, Int.toNat_natCast]
    refine Ev.step (f := fun k => (rTr.f k ([rd a (i : Int)] ++ rem)).bind fun t => rDv.l1 k a b q t (i : Int) 0 9999) (fun k => ?_) (Ev.bind t1 (d5 _ G2))
    simp only [rDv.l0]
    rw [z1, if_pos z2, if_pos z2, if_pos z3, Option.bind_some, if_pos y2]
theorem divD_ev {a b : List Int} {u v : Int} (ha : Big a u) (hb : Big b v) (hv : 0 < v) (la : a.length < 40000) (lb : b.length < 40000) : ∃ q r, Big q (u / v) ∧ Big r (u % v) ∧ q.length ≤ a.length ∧ Ev (fun k => rDv.f k a b) (q, r) := by
  have hne := hb.ne hv
  have hl : b.length ≠ 0 := fun e => hne (List.length_eq_zero_iff.1 e)
  obtain ⟨q, r, h1, h2, h3, h4⟩ := div_l0 a b ha.dg hb hv la lb a.length (List.replicate a.length 0) [] (Nat.le_refl _) ⟨Dg.zeros _, by simp, by rw [List.take_of_length_le (by simp)]; exact valD_zeros _, by rw [List.drop_of_length_le (Nat.le_refl _), List.drop_of_length_le (by simp)]; exact ⟨fun d hd => by simp at hd, Or.inl rfl, by simp [valD]⟩, by rw [List.drop_of_length_le (Nat.le_refl _), List.drop_of_length_le (by simp)]; simp [valD]; exact hv⟩
  rw [ha.val] at h1 h2
  refine ⟨q, r, h1, h2, h3, Ev.congr (fun k => ?_) h4⟩
  unfold rDv.f
  have w : wrap64 ((a.length : Int) - 1) = (a.length : Int) - 1 := by unfold wrap64; omega
  rw [if_neg (by omega), if_pos (Int.natCast_nonneg _), Int.toNat_natCast, if_pos (by omega), w]
theorem gcd_emod_ (u v : Int) (hu : 0 ≤ u) (hv : 0 ≤ v) : Int.gcd v (u % v) = Int.gcd u v := by
  obtain ⟨a, rfl⟩ := Int.eq_ofNat_of_zero_le hu
  obtain ⟨b, rfl⟩ := Int.eq_ofNat_of_zero_le hv
  show Nat.gcd b ((a : Int) % (b : Int)).natAbs = Nat.gcd a b
  rw [← Int.natCast_emod, Int.natAbs_natCast, Nat.gcd_comm a b, Nat.gcd_comm b (a % b), ← Nat.gcd_rec]
theorem gcdD_ev : ∀ (n : Nat) (a b : List Int) (u v : Int), v ≤ n → Big a u → Big b v → a.length < 40000 → b.length < 40000 → ∃ r, Big r (Int.gcd u v : Int) ∧ r.length < 40000 ∧ Ev (fun k => trishawref01_gcdD.l0 k a b) r
  | n, a, b, u, v, hn, ha, hb, la, lb => by
    have hu := ha.nn
    have hv := hb.nn
    by_cases h0 : v = 0
    · subst h0
      have hb0 := hb.zero
      subst hb0
      refine ⟨a, ?_, la, Ev.step (f := fun _ => some a) (fun k => ?_) (Ev.now _)⟩
      · have e : (Int.gcd u 0 : Int) = u := by rw [Int.gcd_zero_right]; omega
        rw [e]; exact ha
      · simp only [trishawref01_gcdD.l0]
        rw [if_neg (by simp)]
    · match n, hn with
      | 0, hn => omega
      | n + 1, hn =>
        have hv1 : 0 < v := by omega
        obtain ⟨q, r, h1, h2, h3, h4⟩ := divD_ev ha hb hv1 la lb
        have hm := Int.emod_lt_of_pos u hv1
        have lr : r.length < 40000 := Nat.lt_of_le_of_lt (h2.tr.len h2.dg hb.dg (by rw [h2.val, hb.val]; exact Int.le_of_lt hm)) lb
        have hm2 : u % v ≤ n := by omega
        obtain ⟨g, g1, g2, g3⟩ := gcdD_ev n b r v (u % v) hm2 hb h2 lb lr
        have e : (Int.gcd v (u % v) : Int) = (Int.gcd u v : Int) := by
          exact congrArg _ (gcd_emod_ u v hu hv)
        rw [e] at g1
        have hl : b.length ≠ 0 := fun e => hb.ne hv1 (List.length_eq_zero_iff.1 e)
        have hl2 : (b.length : Int) > 0 := by omega
        refine ⟨g, g1, g2, Ev.step (f := fun k => (rDv.f k a b).bind fun t => trishawref01_gcdD.l0 k b t.2) (fun k => ?_) (Ev.bind h4 g3)⟩
        simp only [trishawref01_gcdD.l0]
        rw [if_pos hl2]
theorem of_l0 : ∀ (n : Nat) (x : Int) (acc : List Int) (V : Int), 0 ≤ x → x < 2 ^ 62 → x < 2 ^ n → acc.length + n < 1000 → Dg acc → valD acc + 10000 ^ acc.length * x = V → ∃ r, Big r V ∧ r.length < 1000 ∧ Ev (fun k => trishawref01_Of.l0 k x acc false) (false, r)
  | n, x, acc, V, h0, h62, hn, hl, hd, hv => by
    by_cases hx : x = 0
    · subst hx
      rw [Int.mul_zero, Int.add_zero] at hv
      have hl2 : acc.length < 1000000 := by omega
      obtain ⟨r, h1, h2, h3⟩ := whole_ev hd hl2
      rw [hv] at h2
      refine ⟨r, h2, by omega, Ev.step (f := fun k => (rWh.f k false acc).bind fun t => some (t.1, t.2)) (fun k => ?_) (Ev.bind h1 (Ev.now _))⟩
      simp only [trishawref01_Of.l0]
      rw [if_pos trivial]
    · match n, hn with
      | 0, hn => omega
      | n + 1, hn =>
        have HV := Az0.mk hv
        clear hv
        obtain ⟨t1, t2, t3, t4⟩ := tdm x h0
        have q1 : Int.tdiv x 10000 < 2 ^ 62 := by omega
        have q2 : Int.tdiv x 10000 < 2 ^ n := by
          have : (2 : Int) ^ (n + 1) = 2 ^ n * 2 := Int.pow_succ _ _
          omega
        have w : wrap64 (Int.tdiv x 10000) = Int.tdiv x 10000 := wsm (by unfold sm; omega)
        have hl2 : (acc ++ [Int.tmod x 10000]).length + n < 1000 := by simp; omega
        have hl3 : acc.length < 17592186044416 := by omega
        have ht : ¬ Int.tmod x 10000 < 0 := by omega
        have hv2 : Az0 (valD (acc ++ [Int.tmod x 10000]) + 10000 ^ (acc ++ [Int.tmod x 10000]).length * Int.tdiv x 10000 = V) := ⟨by
          rw [← HV.out, valD_append, List.length_append]
          simp only [valD, List.length_cons, List.length_nil, Int.mul_zero, Int.add_zero, Int.pow_succ, Nat.zero_add]
          rw [Int.mul_assoc, Int.add_assoc, ← Int.mul_add, t1]⟩
        obtain ⟨r, h1, h2, h3⟩ := of_l0 n (Int.tdiv x 10000) (acc ++ [Int.tmod x 10000]) V t4 q1 q2 hl2 (hd.append (Dg.one ⟨t2, t3⟩)) hv2.out
        refine ⟨r, h1, h2, Ev.step (f := fun k => trishawref01_Of.l0 k (Int.tdiv x 10000) (acc ++ [Int.tmod x 10000]) false) (fun k => ?_) h3⟩
        simp only [trishawref01_Of.l0]
        rw [if_neg hx, if_neg ht, if_pos hl3, w]
theorem of_ev' {x : Int} (h0 : 0 ≤ x) (h1 : x < 2 ^ 62) : ∃ r, Big r x ∧ r.length < 1000 ∧ Ev (fun k => trishawref01_Of.f k x) (false, r) := by
  obtain ⟨r, h1, h2, h3⟩ := of_l0 62 x [] x h0 h1 h1 (by simp) (fun d hd => by simp at hd) (by simp [valD])
  refine ⟨r, h1, h2, Ev.congr (fun k => ?_) h3⟩
  unfold trishawref01_Of.f
  rw [decide_eq_false (by omega)]
theorem times_ev {a b : List Int} {u v : Int} (ha : Big a u) (hb : Big b v) (la : a.length < 10000) (lb : b.length < 10000) : ∃ r, Big r (u * v) ∧ r.length ≤ a.length + b.length ∧ Ev (fun k => trishawref01_Times.f k false a false b) (false, r) := by
  obtain ⟨p, p1, p2, p3⟩ := mulD_ev ha.dg hb.dg (by omega) (by omega)
  rw [ha.val, hb.val] at p2
  obtain ⟨r, h1, h2, h3⟩ := whole_ev p2.dg (by omega)
  rw [p2.val] at h2
  refine ⟨r, h2, by omega, ?_⟩
  unfold trishawref01_Times.f
  exact Ev.bind p1 (Ev.bind (f := fun _ (t : Bool × List Int) => some (t.1, t.2)) h1 (Ev.now _))
theorem over_ev {a b : List Int} {u v : Int} (ha : Big a u) (hb : Big b v) (hv : 0 < v) (la : a.length < 40000) (lb : b.length < 40000) : ∃ q r : List Int, Big q (u / v) ∧ q.length ≤ a.length ∧ Ev (fun k => trishawref01_Over.f k false a false b) (false, q, false, r) := by
  obtain ⟨q, r, h1, h2, h3, h4⟩ := divD_ev ha hb hv la lb
  have hm := Int.emod_lt_of_pos u hv
  have lr : r.length < 40000 := Nat.lt_of_le_of_lt (h2.tr.len h2.dg hb.dg (by rw [h2.val, hb.val]; exact Int.le_of_lt hm)) lb
  obtain ⟨q2, k1, k2, k3⟩ := whole_ev h1.dg (by omega)
  obtain ⟨r2, m1, m2, m3⟩ := whole_ev h2.dg (by omega)
  rw [h1.val] at k2
  refine ⟨q2, r2, k2, by omega, ?_⟩
  unfold trishawref01_Over.f
  refine Ev.bind h4 (Ev.congr (fun k => if_neg (by simp)) (Ev.bind k1 (Ev.bind (f := fun _ (t : Bool × List Int) => some (false, q2, t.1, t.2)) m1 (Ev.now _))))
/-- A fraction of two numbers, told up to a common factor. -/
structure Fr (n d : List Int) (u v : Int) : Prop where
  ex : ∃ c N D : Int, 0 < c ∧ u = c * N ∧ v = c * D ∧ Big n N ∧ Big d D ∧ 0 < D
theorem lowest_ev' {n d : List Int} {u v : Int} (hn : Big n u) (hd : Big d v) (hv : 0 < v) (ln : n.length < 40000) (ld : d.length < 40000) : ∃ a b : List Int, Fr a b u v ∧ a.length ≤ n.length ∧ b.length ≤ d.length ∧ Ev (fun k => rLo.f k false n false d) (false, a, false, b) := by
  have hu := hn.nn
  obtain ⟨g, g1, g2, g3⟩ := gcdD_ev v.toNat n d u v (by omega) hn hd ln ld
  obtain ⟨w, w1, w2, w3⟩ := whole_ev g1.dg (by omega)
  rw [g1.val] at w2
  have hg : 0 < (Int.gcd u v : Int) := by
    have : 0 < Int.gcd u v := Nat.gcd_pos_of_pos_right _ (by omega)
    omega
  have lw : w.length < 40000 := by omega
  obtain ⟨a, r1, a1, a2, a3⟩ := over_ev hn w2 hg ln lw
  obtain ⟨b, r2, b1, b2, b3⟩ := over_ev hd w2 hg ld lw
  have e1 : u = (Int.gcd u v : Int) * (u / (Int.gcd u v : Int)) := (Int.mul_ediv_cancel' (Int.gcd_dvd_left ..)).symm
  have e2 : v = (Int.gcd u v : Int) * (v / (Int.gcd u v : Int)) := (Int.mul_ediv_cancel' (Int.gcd_dvd_right ..)).symm
  refine ⟨a, b, ⟨(Int.gcd u v : Int), _, _, hg, e1, e2, a1, b1, ?_⟩, a2, b2, ?_⟩
  · rcases Int.lt_or_le 0 (v / (Int.gcd u v : Int)) with h | h
    · exact h
    · have := Int.mul_le_mul_of_nonneg_left h (Int.le_of_lt hg)
      rw [← e2, Int.mul_zero] at this; omega
  · refine Ev.congr (f := fun k => rLo.t k false n d) (fun k => ?_) ?_
    · unfold rLo.f
      rw [if_neg (by simp)]
    · unfold rLo.t
      exact Ev.bind (a := g) g3 (Ev.bind w1 (Ev.bind a3 (Ev.bind (f := fun _ (y : Bool × List Int × Bool × List Int) => some (false, a, y.1, y.2.1)) b3 (Ev.now _))))
theorem compare_ev {a b : List Int} {u v : Int} (ha : Big a u) (hb : Big b v) (la : a.length < 1000000) : Ev (fun k => trishawref01_Compare.f k false a false b) (sgn u v) := by
  unfold trishawref01_Compare.f
  refine Ev.congr (f := fun k => (trishawref01_cmpD.f k a b).bind fun t => some t) (fun k => ?_) (Ev.bind (cmpD_ev ha hb la) (Ev.now _))
  rw [if_neg (by simp)]
  congr 1
theorem sgn_pos {a b c : Int} (hc : 0 < c) : sgn (c * a) (c * b) = sgn a b := by
  unfold sgn
  rcases Int.lt_trichotomy a b with h | h | h
  · rw [if_pos (Int.mul_lt_mul_of_pos_left h hc), if_pos h]
  · subst h; rw [if_neg (Int.lt_irrefl _), if_pos rfl, if_neg (Int.lt_irrefl _), if_pos rfl]
  · have := Int.mul_lt_mul_of_pos_left h hc
    rw [if_neg (by omega), if_neg (by omega), if_neg (by omega), if_neg (by omega)]
theorem cross_alg (c N c2 D2 : Int) : (c * N) * (c2 * D2) = (c * c2) * (N * D2) := by
  rw [Int.mul_assoc c c2, Int.mul_left_comm c2 N D2, ← Int.mul_assoc c N]
theorem cmp_ev {a b a2 b2 : List Int} {u v u2 v2 : Int} (h : Fr a b u v) (h2 : Fr a2 b2 u2 v2) (la : a.length < 5000) (lb : b.length < 5000) (la2 : a2.length < 5000) (lb2 : b2.length < 5000) : Ev (fun k => trishawref01_Cmp.f k false a false b false a2 false b2) (sgn (u * v2) (u2 * v)) := by
  obtain ⟨c, N, D, c0, e1, e2, k1, k2, D0⟩ := h
  obtain ⟨c', N', D', c0', e1', e2', k1', k2', D0'⟩ := h2
  obtain ⟨p, p1, p2, p3⟩ := times_ev k1 k2' (by omega) (by omega)
  obtain ⟨q, q1, q2, q3⟩ := times_ev k1' k2 (by omega) (by omega)
  have hc := compare_ev p1 q1 (by omega)
  have e : sgn (u * v2) (u2 * v) = sgn (N * D') (N' * D) := by
    rw [e1, e2, e1', e2', cross_alg, cross_alg c' N' c D, Int.mul_comm c' c]
    exact sgn_pos (Int.mul_pos c0 c0')
  rw [e]
  unfold trishawref01_Cmp.f
  exact Ev.bind p3 (Ev.bind q3 (Ev.bind (f := fun _ t => some t) hc (Ev.now _)))
theorem mulq_ev {a b a2 b2 : List Int} {u v u2 v2 : Int} (h : Fr a b u v) (h2 : Fr a2 b2 u2 v2) (la : a.length < 2000) (lb : b.length < 2000) (la2 : a2.length < 2000) (lb2 : b2.length < 2000) : ∃ n d m e : List Int, Fr n d (u * u2) (v * v2) ∧ n.length < 4000 ∧ d.length < 4000 ∧ Ev (fun k => trishawref01_Times.f k false a false a2) (false, m) ∧ Ev (fun k => trishawref01_Times.f k false b false b2) (false, e) ∧ Ev (fun k => rLo.f k false m false e) (false, n, false, d) := by
  obtain ⟨c, N, D, c0, e1, e2, k1, k2, D0⟩ := h
  obtain ⟨c', N', D', c0', e1', e2', k1', k2', D0'⟩ := h2
  obtain ⟨p, p1, p2, p3⟩ := times_ev k1 k1' (by omega) (by omega)
  obtain ⟨q, q1, q2, q3⟩ := times_ev k2 k2' (by omega) (by omega)
  obtain ⟨n, d, f1, f2, f3, f4⟩ := lowest_ev' p1 q1 (Int.mul_pos D0 D0') (by omega) (by omega)
  obtain ⟨x, X, Y, x0, y1, y2, y3, y4, y5⟩ := f1
  refine ⟨n, d, p, q, ⟨c * c' * x, X, Y, Int.mul_pos (Int.mul_pos c0 c0') x0, ?_, ?_, y3, y4, y5⟩, by omega, by omega, p3, q3, f4⟩
  · rw [e1, e1', cross_alg, y1, Int.mul_assoc (c * c')]
  · rw [e2, e2', cross_alg, y2, Int.mul_assoc (c * c')]
theorem frac_ev {n d : Int} (hn : 0 ≤ n) (hn2 : n < 2 ^ 62) (hd : 0 < d) (hd2 : d < 2 ^ 62) : ∃ a b p q : List Int, Fr a b n d ∧ a.length < 1000 ∧ b.length < 1000 ∧ Ev (fun k => trishawref01_Of.f k n) (false, p) ∧ Ev (fun k => trishawref01_Of.f k d) (false, q) ∧ Ev (fun k => rLo.f k false p false q) (false, a, false, b) := by
  obtain ⟨p, p1, p2, p3⟩ := of_ev' hn hn2
  obtain ⟨q, q1, q2, q3⟩ := of_ev' (Int.le_of_lt hd) hd2
  obtain ⟨a, b, f1, f2, f3, f4⟩ := lowest_ev' p1 q1 hd (by omega) (by omega)
  exact ⟨a, b, p, q, f1, by omega, by omega, p3, q3, f4⟩
theorem fromRatio_ev {n d : Int} (hn : 0 ≤ n) (hn2 : n < 2 ^ 62) (hd : 0 < d) (hd2 : d < 2 ^ 62) : ∃ a b : List Int, Fr a b n d ∧ a.length < 1000 ∧ b.length < 1000 ∧ Ev (fun k => trishawref01_Frac.f k n d) (false, a, false, b) ∧ Ev (fun k => trishawref01_FromRatio.f k n d) (false, a, false, b) := by
  obtain ⟨a, b, p, q, h1, h2, h3, h4, h5, h6⟩ := frac_ev hn hn2 hd hd2
  have hf : Ev (fun k => trishawref01_Frac.f k n d) (false, a, false, b) := by
    unfold trishawref01_Frac.f
    exact Ev.bind h4 (Ev.bind h5 (Ev.bind (f := fun _ (t : Bool × List Int × Bool × List Int) => some (t.1, t.2.1, t.2.2.1, t.2.2.2)) h6 (Ev.now _)))
  refine ⟨a, b, h1, h2, h3, hf, ?_⟩
  unfold trishawref01_FromRatio.f
  exact Ev.bind (f := fun _ (t : Bool × List Int × Bool × List Int) => some (t.1, t.2.1, t.2.2.1, t.2.2.2)) hf (Ev.now _)
theorem mul_ev {a b a2 b2 : List Int} {u v u2 v2 : Int} (h : Fr a b u v) (h2 : Fr a2 b2 u2 v2) (la : a.length < 2000) (lb : b.length < 2000) (la2 : a2.length < 2000) (lb2 : b2.length < 2000) : ∃ n d : List Int, Fr n d (u * u2) (v * v2) ∧ n.length < 4000 ∧ d.length < 4000 ∧ Ev (fun k => trishawref01_Mul.f k false a false b false a2 false b2) (false, n, false, d) := by
  obtain ⟨n, d, m, e, f1, f2, f3, f4, f5, f6⟩ := mulq_ev h h2 la lb la2 lb2
  refine ⟨n, d, f1, f2, f3, ?_⟩
  unfold trishawref01_Mul.f
  exact Ev.bind f4 (Ev.bind f5 (Ev.bind (f := fun _ (t : Bool × List Int × Bool × List Int) => some (t.1, t.2.1, t.2.2.1, t.2.2.2)) f6 (Ev.now _)))
/-- less compares as_ it should. -/
theorem less_ev {a b c d m k : Int} (ha : 0 ≤ a) (ha2 : a < 2 ^ 62) (hb : 0 < b) (hb2 : b < 2 ^ 62) (hc : 0 ≤ c) (hc2 : c < 2 ^ 62) (hd : 0 < d) (hd2 : d < 2 ^ 62) (hm : 0 ≤ m) (hm2 : m < 100) (hk : 0 ≤ k) (hk2 : k < 100) :
    Ev (fun q => lLe_.f q a b m c d k) (decide (a * m * d < c * k * b)) := by
  obtain ⟨a1, b1, x1, x2, x3, x4, x5⟩ := fromRatio_ev ha ha2 hb hb2
  obtain ⟨a2, b2, y1, y2, y3, y4, y5⟩ := fromRatio_ev hm (by omega) (show (0 : Int) < 1 by decide) (by decide)
  obtain ⟨a3, b3, z1, z2, z3, z4, z5⟩ := fromRatio_ev hc hc2 hd hd2
  obtain ⟨a4, b4, w1, w2, w3, w4, w5⟩ := fromRatio_ev hk (by omega) (show (0 : Int) < 1 by decide) (by decide)
  obtain ⟨n, e, p1, p2, p3, p4⟩ := mul_ev x1 y1 (by omega) (by omega) (by omega) (by omega)
  obtain ⟨n2, e2, q1, q2, q3, q4⟩ := mul_ev z1 w1 (by omega) (by omega) (by omega) (by omega)
  have hcmp := cmp_ev p1 q1 (by omega) (by omega) (by omega) (by omega)
  have hs : decide (sgn (a * m * (d * 1)) (c * k * (b * 1)) < 0) = decide (a * m * d < c * k * b) := by
    rw [Int.mul_one, Int.mul_one]
    refine decide_eq_decide.2 ?_
    unfold sgn
    split
    · rename_i h; exact ⟨fun _ => h, fun _ => by decide⟩
    · rename_i h
      split
      · exact ⟨fun h2 => absurd h2 (by decide), fun h2 => absurd h2 h⟩
      · exact ⟨fun h2 => absurd h2 (by decide), fun h2 => absurd h2 h⟩
  rw [← hs]
  unfold lLe_.f
  exact Ev.bind x5 (Ev.bind y4 (Ev.bind p4 (Ev.bind z5 (Ev.bind w4 (Ev.bind q4 (Ev.bind (f := fun _ (t : Int) => some (decide (t < 0))) hcmp (Ev.now _)))))))
end Go.Proofs.Ytjgbdicbdlollaa.B
namespace Go.Proofs.Ytjgbdicbdlollaa.B
open Go.RowKit Go.Sort Go.Proofs.YtjgbdicbdlollaaW.PrintWords Go.Proofs.YtjgbdicbdlollaaW.PrintLast Go.Proofs.YtjgbdicbdlollaaW.PrintMore
set_option linter.unusedVariables false
set_option linter.unusedSimpArgs false
set_option linter.unusedSectionVars false
abbrev LA (l : List S36) : Nat → Int := fun i => (rdT_ l (i : Int)).f0
abbrev LB (l : List S36) : Nat → Int := fun i => (rdT_ l (i : Int)).f1
abbrev LX (X : List Int) : Nat → Int := fun i => rd X (i : Int)
theorem takeT_snoc (l : List S36) (i : Nat) (h : i < l.length) : l.take (i + 1) = l.take i ++ [rdT_ l (i : Int)] := by
  rw [List.take_add_one, List.getElem?_eq_getElem h]
  simp [rdT_, List.getD, List.getElem?_eq_getElem h]
theorem sI_sumL (f : S36 → Int) (l : List S36) : ∀ i, i ≤ l.length → sI i (fun i => f (rdT_ l (i : Int))) = sumL f (l.take i)
  | 0, _ => by simp [sI, sumL]
  | i + 1, h => by
    rw [takeT_snoc l i (by omega), sumL_append, sI, sI_sumL f l i (by omega)]
    simp [sumL]
theorem sI_sumL' (f : S36 → Int) (l : List S36) : sI l.length (fun i => f (rdT_ l (i : Int))) = sumL f l := by
  rw [sI_sumL f l _ (Nat.le_refl _), List.take_of_length_le (Nat.le_refl _)]
theorem delS_sI (l : List S36) (X : List Int) (D : Int) : ∀ (m i : Nat) (s : Int), delS l X D m i s + sI i (dT (LA l) (LB l) (LX X) D) = s + sI (i + m) (dT (LA l) (LB l) (LX X) D)
  | 0, i, s => by simp [delS]
  | m + 1, i, s => by
    have ih := delS_sI l X D m (i + 1) (s + rd X (i : Int) * ((rdT_ l (i : Int)).f0 * D + (rdT_ l (i : Int)).f1 * rd X (i : Int)))
    simp only [delS]
    rw [show i + (m + 1) = i + 1 + m by omega]
    have e : sI (i + 1) (dT (LA l) (LB l) (LX X) D) = sI i (dT (LA l) (LB l) (LX X) D) + rd X (i : Int) * ((rdT_ l (i : Int)).f0 * D + (rdT_ l (i : Int)).f1 * rd X (i : Int)) := rfl
    omega
theorem delS_eq (l : List S36) (X : List Int) (D : Int) : delS l X D l.length 0 0 = sI l.length (dT (LA l) (LB l) (LX X) D) := by
  have := delS_sI l X D l.length 0 0
  simp only [sI, Nat.zero_add] at this
  omega
theorem gl_dvd : ∀ (l : List Int) (d : Int), gl l d ∣ d ∧ ∀ x ∈ l, gl l d ∣ x
  | [], d => ⟨Int.dvd_refl d, fun x hx => by simp at hx⟩
  | n :: l, d => by
    obtain ⟨h1, h2⟩ := gl_dvd l (Int.gcd d n : Int)
    refine ⟨Int.dvd_trans h1 (Int.gcd_dvd_left ..), fun x hx => ?_⟩
    rcases List.mem_cons.1 hx with rfl | hx
    · exact Int.dvd_trans h1 (Int.gcd_dvd_right ..)
    · exact h2 x hx
theorem gl_pos' : ∀ (l : List Int) (d : Int), 0 < d → 0 < gl l d ∧ gl l d ≤ d
  | [], d, h => ⟨h, Int.le_refl _⟩
  | n :: l, d, h => by
    have h1 : 0 < (Int.gcd d n : Int) := by
      have : 0 < Int.gcd d n := Nat.gcd_pos_of_pos_left _ (by omega)
      omega
    obtain ⟨h2, h3⟩ := gl_pos' l _ h1
    exact ⟨h2, Int.le_trans h3 (Int.le_of_dvd h (Int.gcd_dvd_left ..))⟩
theorem rd_map_lt (f : Int → Int) (l : List Int) (i : Nat) (h : i < l.length) : rd (l.map f) (i : Int) = f (rd l (i : Int)) := by
  simp [rd, List.getD, List.getElem?_eq_getElem h]
theorem rd_ext {X Y : List Int} (hl : X.length = Y.length) (h : ∀ i : Nat, i < X.length → rd X (i : Int) = rd Y (i : Int)) : X = Y := by
  refine List.ext_getElem hl fun i h1 h2 => ?_
  have := h i h1
  simpa [rd, List.getD, List.getElem?_eq_getElem h1, List.getElem?_eq_getElem h2] using this
theorem parts_red (nums : List Int) (den : Int) (h0 : 0 < den) :
    0 < gl nums den ∧ den = gl nums den * (partsR nums den (gl nums den)).2 ∧ (∀ i : Nat, i < nums.length → rd nums (i : Int) = gl nums den * rd (partsR nums den (gl nums den)).1 (i : Int)) ∧ (partsR nums den (gl nums den)).1.length = nums.length ∧ gl (partsR nums den (gl nums den)).1 (partsR nums den (gl nums den)).2 = 1 ∧ 0 < (partsR nums den (gl nums den)).2 ∧ (partsR nums den (gl nums den)).2 ≤ den := by
  obtain ⟨g0, g1⟩ := gl_pos' nums den h0
  obtain ⟨d1, d2⟩ := gl_dvd nums den
  obtain ⟨G, hG⟩ : ∃ G, gl nums den = G := ⟨_, rfl⟩
  rw [hG] at g0 g1 d1 d2 ⊢
  have e1 : den = G * (partsR nums den G).2 := (Int.mul_tdiv_cancel' d1).symm
  have e2 : ∀ i : Nat, i < nums.length → rd nums (i : Int) = G * rd (partsR nums den G).1 (i : Int) := fun i hi => by
    show _ = G * rd (nums.map fun n => Int.tdiv n G) (i : Int)
    rw [rd_map_lt (fun n => Int.tdiv n G) nums i hi, Int.mul_tdiv_cancel' (d2 _ (rd_mem2 nums i hi))]
  have e3 : (partsR nums den G).1.length = nums.length := by simp [partsR]
  have e4 : nums = (partsR nums den G).1.map fun x => G * x := by
    refine rd_ext (by simp [e3]) fun i hi => ?_
    rw [rd_map_lt (fun x => G * x) _ i (by omega)]
    exact e2 i hi
  have e5 := gl_scale g0 (partsR nums den G).1 (partsR nums den G).2
  rw [← e4, ← e1, hG] at e5
  have e6 : gl (partsR nums den G).1 (partsR nums den G).2 = 1 := by
    have : G * 1 = G * gl (partsR nums den G).1 (partsR nums den G).2 := by rw [Int.mul_one]; exact e5
    exact (Int.eq_of_mul_eq_mul_left (by omega) this).symm
  have e7 : 0 < (partsR nums den G).2 := by
    rcases Int.lt_or_le 0 (partsR nums den G).2 with h | h
    · exact h
    · have := Int.mul_le_mul_of_nonneg_left h (Int.le_of_lt g0)
      rw [← e1, Int.mul_zero] at this; omega
  refine ⟨g0, e1, e2, e3, e6, e7, ?_⟩
  have := Int.mul_le_mul_of_nonneg_right (show 1 ≤ G by omega) (Int.le_of_lt e7)
  omega
theorem low_uniq {X Y : List Int} {D E : Int} (hl : X.length = Y.length) (hD : 0 < D) (hE : 0 < E) (gX : gl X D = 1) (gY : gl Y E = 1) (h : ∀ i : Nat, i < X.length → rd Y (i : Int) * D = rd X (i : Int) * E) : D = E ∧ X = Y := by
  have e1 := gl_scale hE X D
  have e2 := gl_scale hD Y E
  have e3 : (X.map fun x => E * x) = Y.map fun x => D * x := by
    refine rd_ext (by simp [hl]) fun i hi => ?_
    have hi2 : i < X.length := by simpa using hi
    rw [rd_map_lt (fun x => E * x) X i hi2, rd_map_lt (fun x => D * x) Y i (by omega), Int.mul_comm E, Int.mul_comm D]
    exact (h i hi2).symm
  rw [e3, Int.mul_comm E D, e2, gX, gY, Int.mul_one, Int.mul_one] at e1
  refine ⟨e1, rd_ext hl fun i hi => ?_⟩
  have := h i hi
  rw [e1] at this
  exact (Int.eq_of_mul_eq_mul_right (by omega) this).symm
theorem ratR_red (a b : Int) (hb : 0 < b) : ∃ g, 0 < g ∧ a = g * (ratR a b).1 ∧ b = g * (ratR a b).2 ∧ 0 < (ratR a b).2 := by
  have hg := gcd_posr (a := a) hb
  refine ⟨(Int.gcd a b : Int), hg, (Int.mul_tdiv_cancel' (Int.gcd_dvd_left ..)).symm, (Int.mul_tdiv_cancel' (Int.gcd_dvd_right ..)).symm, ?_⟩
  have e : b = (Int.gcd a b : Int) * (ratR a b).2 := (Int.mul_tdiv_cancel' (Int.gcd_dvd_right ..)).symm
  rcases Int.lt_or_le 0 (ratR a b).2 with h | h
  · exact h
  · have := Int.mul_le_mul_of_nonneg_left h (Int.le_of_lt hg)
    rw [← e, Int.mul_zero] at this; omega
theorem ratR_b {a b : Int} (ha : 0 ≤ a) (hb : 0 < b) : 0 ≤ (ratR a b).1 ∧ (ratR a b).1 ≤ a ∧ 0 < (ratR a b).2 ∧ (ratR a b).2 ≤ b := by
  obtain ⟨g, g0, e1, e2, e3⟩ := ratR_red a b hb
  have h1 : 0 ≤ (ratR a b).1 := by
    rcases Int.lt_or_le (ratR a b).1 0 with h | h
    · have := Int.mul_neg_of_pos_of_neg g0 h; omega
    · exact h
  have h2 := Int.mul_le_mul_of_nonneg_right (show 1 ≤ g by omega) h1
  have h3 := Int.mul_le_mul_of_nonneg_right (show 1 ≤ g by omega) (Int.le_of_lt e3)
  omega
theorem ratR_lt {a b c e m k : Int} (hb : 0 < b) (he : 0 < e) : ((ratR a b).1 * m * (ratR c e).2 < (ratR c e).1 * k * (ratR a b).2) ↔ a * m * e < c * k * b := by
  obtain ⟨g, g0, e1, e2, e3⟩ := ratR_red a b hb
  obtain ⟨g', g0', e1', e2', e3'⟩ := ratR_red c e he
  have h1 : a * m * e = (g * g') * ((ratR a b).1 * m * (ratR c e).2) := by
    conv => lhs; rw [e1, e2']
    generalize (ratR a b).1 = x; generalize (ratR c e).2 = y
    grind
  have h2 : c * k * b = (g * g') * ((ratR c e).1 * k * (ratR a b).2) := by
    conv => lhs; rw [e1', e2]
    generalize (ratR c e).1 = x; generalize (ratR a b).2 = y
    grind
  rw [h1, h2]
  exact ⟨fun h => Int.mul_lt_mul_of_pos_left h (Int.mul_pos g0 g0'), fun h => Int.lt_of_mul_lt_mul_left h (Int.le_of_lt (Int.mul_pos g0 g0'))⟩
theorem flow_red {n : Nat} {t : Int} {A B a b : Nat → Int} {D E T g : Int} (hg : 0 < g) (hab : ∀ i, i < n → a i = g * b i) (hD : D = g * E) (f : Flow n a D) (h : BalT n t A B a D T) : Flow n b E ∧ ∃ S, T = g * S ∧ BalT n t A B b E S := by
  have hE : 0 < E := by
    have := f.pos
    rcases Int.lt_or_le 0 E with h | h
    · exact h
    · have := Int.mul_le_mul_of_nonneg_left h (Int.le_of_lt hg)
      rw [← hD, Int.mul_zero] at this; omega
  have hb : ∀ i, i < n → 0 ≤ b i := fun i hi => by
    have h1 := f.nn i hi
    rw [hab i hi] at h1
    rcases Int.lt_or_le (b i) 0 with h | h
    · have := Int.mul_neg_of_pos_of_neg hg h; omega
    · exact h
  have hs : sI n b = E := by
    have h1 := f.sum
    rw [sI_congr n (G := fun i => g * b i) (fun i hi => hab i hi), sI_mul, hD] at h1
    exact Int.eq_of_mul_eq_mul_left (by omega) h1
  refine ⟨⟨hE, hb, hs⟩, ?_⟩
  have hex : ∃ i, i < n ∧ 0 < b i := by
    apply Classical.byContradiction
    intro hno
    have : sI n b = sI n (fun _ => 0 * 0) := sI_congr n fun i hi => by
      have := hb i hi
      have : ¬ 0 < b i := fun h => hno ⟨i, hi, h⟩
      omega
    rw [sI_mul, hs] at this
    omega
  obtain ⟨j, hj, hbj⟩ := hex
  have haj : 0 < a j := by rw [hab j hj]; exact Int.mul_pos hg hbj
  have hT := (h j hj).1 haj
  refine ⟨A j * E + t * (B j * b j), by rw [← hT, hab j hj, hD]; grind, fun i hi => ⟨fun hbi => ?_, fun hbi => ?_⟩⟩
  · have hai : 0 < a i := by rw [hab i hi]; exact Int.mul_pos hg hbi
    have h1 := (h i hi).1 hai
    rw [← hT, hab j hj, hD, hab i hi] at h1
    refine Int.eq_of_mul_eq_mul_left (show g ≠ 0 by omega) ?_
    grind
  · have hai : a i = 0 := by rw [hab i hi, hbi]; simp
    have h1 := (h i hi).2 hai
    rw [← hT, hab j hj, hD] at h1
    refine Int.le_of_mul_le_mul_left ?_ hg
    have e1 : A j * (g * E) + t * (B j * (g * b j)) = g * (A j * E + t * (B j * b j)) := by grind
    have e2 : A i * (g * E) = g * (A i * E) := by grind
    omega
theorem good_flow {p t : Int} {l : List S36} {n d : Int} (hp : 0 < p) (hb : ∀ x ∈ l, 1 ≤ x.f1 * t) (hd : ∀ x ∈ l, (x.f1 * t) ∣ p) (g : Good (wv p t) p l n d) :
    Flow l.length (LX (l.map (nv (wv p t) n d))) (d * p) ∧ BalT l.length t (LA l) (LB l) (LX (l.map (nv (wv p t) n d))) (d * p) (n * p) := by
  have hr : ∀ i, i < l.length → LX (l.map (nv (wv p t) n d)) i = nv (wv p t) n d (rdT_ l (i : Int)) := fun i hi => by
    show rd _ _ = _
    simp [rd, rdT_, List.getD, List.getElem?_eq_getElem hi]
  have hw : ∀ x ∈ l, 0 < wv p t x := fun x hx => (wv_b (hd x hx) hp (hb x hx)).1
  refine ⟨⟨Int.mul_pos g.1 hp, fun i hi => ?_, ?_⟩, fun i hi => ?_⟩
  · rw [hr i hi]
    unfold nv
    have := hw _ (rdT_mem l i hi)
    split
    · exact Int.mul_nonneg (by omega) (by omega)
    · simp
  · rw [sI_congr l.length hr, sI_sumL' (nv (wv p t) n d) l, Int.mul_comm d p, ← g.full]
    refine sumL_congr fun x _ => ?_
    unfold nv
    split
    · exact Int.mul_comm _ _
    · simp
  · have hwi := hw _ (rdT_mem l i hi)
    have hm := wv_mul (hd _ (rdT_mem l i hi))
    rw [hr i hi]
    show (0 < nv (wv p t) n d (rdT_ l (i : Int)) → (rdT_ l (i : Int)).f0 * (d * p) + t * ((rdT_ l (i : Int)).f1 * nv (wv p t) n d (rdT_ l (i : Int))) = n * p) ∧ (nv (wv p t) n d (rdT_ l (i : Int)) = 0 → n * p ≤ (rdT_ l (i : Int)).f0 * (d * p))
    generalize rdT_ l (i : Int) = x at *
    unfold nv
    by_cases hx : x.f0 * d < n
    · rw [if_pos hx]
      refine ⟨fun _ => ?_, fun h => ?_⟩
      · have e : t * (x.f1 * ((n - x.f0 * d) * wv p t x)) = (n - x.f0 * d) * (wv p t x * (x.f1 * t)) := by grind
        rw [e, hm]; grind
      · have := Int.mul_pos (show 0 < n - x.f0 * d by omega) hwi
        omega
    · rw [if_neg hx]
      refine ⟨fun h => by simp at h, fun _ => ?_⟩
      have := Int.mul_le_mul_of_nonneg_right (show n ≤ x.f0 * d by omega) (Int.le_of_lt hp)
      rw [← Int.mul_assoc]; exact this
theorem wv_cross' {p q t : Int} {x : S36} (hb : 1 ≤ x.f1 * t) (hd : (x.f1 * t) ∣ p) (hq : (x.f1 * t) ∣ q) : q * wv p t x = p * wv q t x := by
  have e1 := wv_mul hd
  have e2 := wv_mul hq
  refine Int.eq_of_mul_eq_mul_right (show x.f1 * t ≠ 0 by omega) ?_
  rw [Int.mul_assoc, e1, Int.mul_assoc, e2, Int.mul_comm]
theorem Good.scale {p q t : Int} {l : List S36} {n d : Int} (hp : 0 < p) (hq : 0 < q) (hb : ∀ x ∈ l, 1 ≤ x.f1 * t) (hd : ∀ x ∈ l, (x.f1 * t) ∣ p) (hdq : ∀ x ∈ l, (x.f1 * t) ∣ q) (g : Good (wv p t) p l n d) :
    ∃ N C, Good (wv q t) q l N C ∧ q * n = p * N ∧ q * d = p * C := by
  obtain ⟨h0, h1, h2⟩ := g
  have e1 : q * d = p * sumL (fun x => if x.f0 * d < n then wv q t x else 0) l := by
    rw [← sumL_mul]
    conv => lhs; rw [h2, ← sumL_mul]
    refine sumL_congr fun x hx => ?_
    split
    · exact wv_cross' (hb x hx) (hd x hx) (hdq x hx)
    · simp
  have e2 : q * n = p * (q + sumL (fun x => if x.f0 * d < n then x.f0 * wv q t x else 0) l) := by
    rw [Int.mul_add, ← sumL_mul]
    conv => lhs; rw [h1, Int.mul_add, ← sumL_mul]
    rw [Int.mul_comm q p]
    congr 1
    refine sumL_congr fun x hx => ?_
    split
    · rw [Int.mul_left_comm, wv_cross' (hb x hx) (hd x hx) (hdq x hx), Int.mul_left_comm]
    · simp
  refine ⟨_, _, ?_, e2, e1⟩
  generalize hC : sumL (fun x => if x.f0 * d < n then wv q t x else 0) l = C at *
  generalize hN : (q + sumL (fun x => if x.f0 * d < n then x.f0 * wv q t x else 0) l) = N at *
  have hs : ∀ x : S36, (x.f0 * d < n) ↔ (x.f0 * C < N) := by
    intro x
    have a1 : q * (x.f0 * d) = p * (x.f0 * C) := by rw [Int.mul_left_comm, e1, Int.mul_left_comm]
    constructor
    · intro h
      have h3 := Int.mul_lt_mul_of_pos_left h hq
      rw [a1, e2] at h3
      exact Int.lt_of_mul_lt_mul_left h3 (Int.le_of_lt hp)
    · intro h
      have h3 : p * (x.f0 * C) < p * N := Int.mul_lt_mul_of_pos_left h hp
      rw [← a1, ← e2] at h3
      exact Int.lt_of_mul_lt_mul_left h3 (Int.le_of_lt hq)
  refine ⟨?_, ?_, ?_⟩
  · have h3 := Int.mul_pos hq h0
    rw [e1] at h3
    rcases Int.lt_or_le 0 C with h | h
    · exact h
    · have := Int.mul_le_mul_of_nonneg_left h (Int.le_of_lt hp)
      rw [Int.mul_zero] at this; omega
  · rw [← hN]; congr 1; rw [hN]
    refine sumL_congr fun x hx => ?_
    by_cases hx : x.f0 * d < n
    · rw [if_pos hx, if_pos ((hs x).1 hx)]
    · rw [if_neg hx, if_neg fun h => hx ((hs x).2 h)]
  · conv => lhs; rw [← hC]
    refine sumL_congr fun x hx => ?_
    by_cases hx : x.f0 * d < n
    · rw [if_pos hx, if_pos ((hs x).1 hx)]
    · rw [if_neg hx, if_neg fun h => hx ((hs x).2 h)]
def lc (a b c d : Nat) : Nat := Nat.lcm a (Nat.lcm b (Nat.lcm c d))
theorem lc_chk : ∀ a, a < 11 → ∀ b, b < 11 → ∀ c, c < 11 → ∀ d, d < 11 → 2 * lc a b c d * (lc a b c d / a + lc a b c d / b + lc a b c d / c + lc a b c d / d) ≤ 10000000 := by
  decide +kernel
end Go.Proofs.Ytjgbdicbdlollaa.B
