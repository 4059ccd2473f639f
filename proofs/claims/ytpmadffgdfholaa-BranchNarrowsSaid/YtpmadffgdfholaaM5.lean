/- Texts behind the row of BranchNarrows, part 5: contracts of the functions it reaches, words that their walks use, and lemmas in plain Lean. -/
import Derived.Below
import Derived.Deep.Draws
import Derived.Deep.AppendLies
import Derived.Maps.AppendAt
import Derived.OwnWalk
import Derived.Laws.BytesArg
import Derived.Laws.MakeOwn
import Derived.Laws.OwnMore
import Derived.Deep.OwnRows
import Derived.Tactics
import Derived.Lib.ConvBytes
import Derived.Laws.Slices
import Derived.WalkKit
import Derived.KernelRfl
import Derived.RowKit3
import Derived.Deep.LoopGhost
import Derived.Deep.QuietTactic
import Derived.BigQuiet
import Derived.WideLaws
import Derived.Deep.DeepCutAuto
import Derived.Deep.CutBlock
import Derived.Deep.RegionHeld3
import Derived.Laws.Rows
import Derived.Lib.AppendStr
import Derived.ArgAppend
import Derived.Laws.IdiomCopy
import Derived.RowKit
import Derived.OrdersHeld
import Derived.Laws.BitsLemmas
import Derived.Test.YtpmadffgdfholaaProg
import Derived.Laws.StructEq
import Derived.MapKept
import Derived.WalkSpells
import Derived.Deep.DrawnRows
import Derived.Maps.RangeWalk
import Derived.Laws.EntriesVeiled
import Derived.Shelf.SlSortCmp.NoneTotal
import Derived.Shelf.SortM.Plain
import Derived.Shelf.Lay
import Derived.Ground.SlsfProg
import Derived.Ground.SlgmProg
import Derived.Shelf.SlicesG.Cmp
import Derived.Ground.SlgcProg
import Derived.Deep.Slices
import Derived.Deep.Fields
import Derived.ChangeSame
import Derived.Test.YtpmadffgdfholaaM1
import Derived.Test.YtpmadffgdfholaaM2
import Derived.Test.YtpmadffgdfholaaM3
import Derived.Test.YtpmadffgdfholaaM4
namespace Go.Proofs
open Go.Shelf Go.RowKit Go.Lib
def Ytpmadffgdfholaa.B.layCmp_ren : Go.Shelf.Ren := ⟨fun | 5 => 78 | 7 => 93 | n => n, fun | 22 => 3 | 3 => 3 | 4 => 4 | n => n, fun | n => n⟩
theorem Ytpmadffgdfholaa.B.layCmp : Go.Proofs.SlLaysC2.n5 Try.prog Ytpmadffgdfholaa.B.layCmp_ren where
  mixed := by kernel_rfl
  f5 := ⟨Try.f78.name, by kernel_rfl, Try.func78.trans (congrArg some (by kernel_rfl))⟩
  f7 := ⟨Try.f93.name, by kernel_rfl, Try.func93.trans (congrArg some (by kernel_rfl))⟩
  t3 := Try.underlying3
  a3 := Try.isAgg3
  z3 := Try.sizeOf3
  v3 := Try.zeroValue3
  t4 := Try.underlying4
  a4 := Try.isAgg4
  z4 := Try.sizeOf4
  v4 := Try.zeroValue4
  t22 := Try.underlying3
  a22 := Try.isAgg3
  z22 := Try.sizeOf3
  v22 := Try.zeroValue3
end Go.Proofs
namespace Go.Proofs.Ytpmadffgdfholaa.B
open Go.RowKit Go.MapKept Go.Proofs.YtpmadffgdfholaaW.PrintWords Go.Proofs.YtpmadffgdfholaaW.PrintLast Go.Proofs.YtpmadffgdfholaaW.PrintMore
set_option linter.unusedVariables false
set_option linter.unusedSimpArgs false
attribute [local go_sem ↓] Go.wp_at_zero Go.wp_at_succ
def cmpL : List Int → List Int → Int
  | [], [] => 0
  | [], _ :: _ => -1
  | _ :: _, [] => 1
  | x :: xs, y :: ys => if Lib.compareInt x y = 0 then cmpL xs ys else Lib.compareInt x y
theorem cmp78 (x y : Int) (W : World) : Calls Try.prog 78 #[.int .i64 x, .int .i64 y] W fun e w' => e = .returned (.int .i64 (Lib.compareInt x y)) ∧ w' = W := by
  have hcon := AnyG.cmp_Compare_int layCmp x y W
  change Calls Try.prog 78 _ _ _ at hcon
  exact hcon
set_option maxHeartbeats 8000000 in
set_option maxRecDepth 100000 in
theorem compare_calls (A1 A2 : Option Addr) (c1 c2 : Nat) (l1 l2 : List Int) (w : World) (hr1 : Kd.C (Kd.int .i64) w A1 l1.length l1) (hr2 : Kd.C (Kd.int .i64) w A2 l2.length l2) (hl : l1.length < 2000000) :
  Calls Try.prog 66 #[.slice A1 l1.length c1, .slice A2 l2.length c2] w fun e w' => e = .returned (.int .i64 (cmpL l1 l2)) ∧ ∃ q, w' = w.drewN q := by
 obtain ⟨r, hr⟩ : ∃ r, cmpL l1 l2 = r := ⟨_, rfl⟩
 rw [hr]
 have H0 := Az0.mk hr
 have HR1 := Az0.mk hr1
 have HR2 := Az0.mk hr2
 have HL := Az0.mk hl
 clear hr hr1 hr2 hl
 go_enter Try.func66, Try.ntmps66
 go_wp2
 go_loopg [11] l1.length (fun kq v11 w' => ∃ (i q : Nat), v11 = .int .i64 (i : Int) ∧ w' = w.drewN q ∧ Az0 (i + kq = l1.length) ∧ Az0 (cmpL (l1.drop i) (l2.drop i) = r))
 case atStart => exact ⟨0, 0, rfl, rfl, ⟨by simp⟩, ⟨H0.out⟩⟩
 case round =>
  clear H0
  obtain ⟨i, q, rfl, rfl, HI, HH⟩ := hrel
  cases gk with
  | zero =>
   have hi := HI.out
   have c4b : decide ((i : Int) < (l1.length : Int)) = false := decide_eq_false (by omega)
   have c4b2 : decide (i < l1.length) = false := decide_eq_false (by omega)
   have hh := HH.out
   rw [List.drop_eq_nil_of_le (by omega)] at hh
   clear HH
   by_cases t0 : l1.length < l2.length
   ·have e : r = -1 := by
     cases hd : l2.drop i with
     | nil => rw [List.drop_eq_nil_iff] at hd; omega
     | cons a b => rw [hd] at hh; exact hh.symm
    subst e
    have s0 : decide ((l1.length : Int) < (l2.length : Int)) = true := decide_eq_true (by omega)
    have s0b : decide (l1.length < l2.length) = true := decide_eq_true t0
    clear t0 hh hi
    go_wp2
    go_ret
    exact ⟨rfl, q, rfl⟩
   ·have e : r = 0 := by
     rw [List.drop_eq_nil_of_le (by omega)] at hh
     exact hh.symm
    subst e
    have s0 : decide ((l1.length : Int) < (l2.length : Int)) = false := decide_eq_false (by omega)
    have s0b : decide (l1.length < l2.length) = false := decide_eq_false t0
    clear t0 hh hi
    go_wp2
    go_ret
    exact ⟨rfl, q, rfl⟩
  | succ k1 =>
   have hi0 : (0 : Int) ≤ (i : Int) := Int.natCast_nonneg _
   have hi1 : (i : Int) < (l1.length : Int) := by have := HI.out; omega
   have c4b : decide ((i : Int) < (l1.length : Int)) = true := decide_eq_true hi1
   have hi2 : i < l1.length := by omega
   have c4b2 : decide (i < l1.length) = true := decide_eq_true hi2
   have hh := HH.out
   rw [drop_rdI l1 i hi2] at hh
   obtain ⟨ad, e, hx⟩ := Kd.at_int HR1.out (i : Int) hi0 hi1
   cases e
   obtain ⟨x, hx2⟩ : ∃ x, rd l1 (i : Int) = x := ⟨_, rfl⟩
   rw [hx2] at hx hh
   simp only [Int.toNat_natCast] at hx
   replace hx : (w.drewN q).cell? _ = _ := hx
   clear hx2 HH
   replace hi0 := eq_true hi0
   replace hi1 := eq_true hi1
   replace hi2 := eq_true hi2
   by_cases t0 : i < l2.length
   ·have hi3 : (i : Int) < (l2.length : Int) := by omega
    have hi0' : (0 : Int) ≤ (i : Int) := Int.natCast_nonneg _
    rw [drop_rdI l2 i t0] at hh
    obtain ⟨ae, e, hy⟩ := Kd.at_int HR2.out (i : Int) hi0' hi3
    cases e
    obtain ⟨y, hy2⟩ : ∃ y, rd l2 (i : Int) = y := ⟨_, rfl⟩
    rw [hy2] at hy hh
    simp only [Int.toNat_natCast] at hy
    replace hy : (w.drewN q).cell? _ = _ := hy
    clear hy2
    have s0 : decide ((l2.length : Int) ≤ (i : Int)) = false := decide_eq_false (by omega)
    have s0b : decide (l2.length ≤ i) = false := decide_eq_false (by omega)
    replace hi3 := eq_true hi3
    replace t0 := eq_true t0
    unfold cmpL at hh
    obtain ⟨z, hz⟩ : ∃ z, Lib.compareInt x y = z := ⟨_, rfl⟩
    rw [hz] at hh
    have hcon := hz ▸ cmp78 x y
    have HCON := Az0.mk hcon
    clear hcon hz
    by_cases t1 : z = 0
    ·rw [if_pos t1] at hh
     have s1 : (z == 0) = true := beq_iff_eq.mpr t1
     have s1b : (z != 0) = false := bne_eq_false_iff_eq.mpr t1
     have HH := Az0.mk hh
     clear t1 hh
     go_wp2_with (first | (go_at_call 78; refine (HCON.out _).mono ?_; rintro e w' ⟨rfl, rfl⟩))
     go_roundg k1
     case measure => omega
     case rel => exact ⟨i + 1, q, val_succ2 i (by have := HI.out; have := HL.out; omega), rfl, ⟨by have := HI.out; omega⟩, HH⟩
    ·rw [if_neg t1] at hh
     subst hh
     have s1 : (z == 0) = false := beq_eq_false_iff_ne.mpr t1
     have s1b : (z != 0) = true := bne_iff_ne.mpr t1
     clear t1
     go_wp2_with (first | (go_at_call 78; refine (HCON.out _).mono ?_; rintro e w' ⟨rfl, rfl⟩))
     go_ret
     exact ⟨rfl, q, rfl⟩
   ·rw [List.drop_eq_nil_of_le (show l2.length ≤ i by omega)] at hh
    have e : r = 1 := hh.symm
    subst e
    have s0 : decide ((l2.length : Int) ≤ (i : Int)) = true := decide_eq_true (by omega)
    have s0b : decide (l2.length ≤ i) = true := decide_eq_true (by omega)
    clear t0 hh
    go_wp2
    go_ret
    exact ⟨rfl, q, rfl⟩
end Go.Proofs.Ytpmadffgdfholaa.B
namespace Go.Proofs.Ytpmadffgdfholaa.B
set_option linter.unusedVariables false
set_option linter.unusedSimpArgs false
open Go.RowKit Go.Sort Go.Proofs.YtpmadffgdfholaaW.PrintWords Go.Proofs.YtpmadffgdfholaaW.PrintLast Go.Proofs.YtpmadffgdfholaaW.PrintMore
theorem cmpI_pos (x y : Int) : Lib.compareInt x y = 0 ↔ x = y := by
  unfold Lib.compareInt
  by_cases h1 : x < y
  · simp [h1]; omega
  · by_cases h2 : y < x
    · simp [h1, h2]; omega
    · simp [h1, h2]; omega
theorem cmpI_lt (x y : Int) : Lib.compareInt x y < 0 ↔ x < y := by
  unfold Lib.compareInt
  by_cases h1 : x < y
  · simp [h1]
  · by_cases h2 : y < x
    · simp [h1, h2]
    · simp [h1, h2]
/-- Less, word by word. -/
theorem cmpL_lt : ∀ (x y : List Int), cmpL x y < 0 ↔ x < y
  | [], [] => by simp [cmpL]
  | [], _ :: _ => by simp [cmpL]
  | _ :: _, [] => by simp [cmpL]
  | x :: xs, y :: ys => by
    unfold cmpL
    rw [List.cons_lt_cons_iff]
    by_cases h : Lib.compareInt x y = 0
    · rw [if_pos h, cmpL_lt xs ys]
      rw [cmpI_pos] at h
      subst h
      simp
    · rw [if_neg h, cmpI_lt]
      rw [cmpI_pos] at h
      simp [h]
def ltL (x y : List Int) : Bool := decide (cmpL x y < 0)
theorem ltL_eq (x y : List Int) : ltL x y = decide (x < y) := by
  unfold ltL
  rw [decide_eq_decide]
  exact cmpL_lt x y
theorem swo_ltL : SWO ltL where
  irrefl x := by rw [ltL_eq]; simp
  trans x y z h1 h2 := by
    rw [ltL_eq] at *
    simp only [decide_eq_true_eq] at *
    exact List.lt_trans h1 h2
  ntrans x y z h1 h2 := by
    rw [ltL_eq] at *
    simp only [decide_eq_false_iff_not, List.not_lt] at *
    exact List.le_trans h2 h1
theorem tot_ltL (x y : List Int) (h1 : ltL x y = false) (h2 : ltL y x = false) : x = y := by
  rw [ltL_eq] at *
  simp only [decide_eq_false_iff_not, List.not_lt] at *
  exact List.le_antisymm h2 h1
def sortL (xs : List (List Int)) : List (List Int) := xs.mergeSort fun x y => !ltL y x
/-- A row of the call's own, with what it says. -/
structure Own1 (w : World) (base : Nat) (ok : Nat → Prop) where
  v : Value
  l : List Int
  r : Kd.R (Kd.int .i64) 3 w base ok v l
  h : l.length < 2000000
instance (w : World) (base : Nat) (ok : Nat → Prop) : Inhabited (Own1 w base ok) := ⟨⟨.slice none 0 0, [], Kd.R_nil _ _ _ _ _, by decide⟩⟩
theorem own1_list {w : World} {base : Nat} {ok : Nat → Prop} {xs : List (List Int)} {inner : List Value} (hr : Reps ((Kd.slice 3 (Kd.int .i64)).M w base ok) 1 xs inner) (hl : ∀ x ∈ xs, x.length < 2000000) :
    ∃ ds : List (Own1 w base ok), ds.map Own1.v = inner ∧ ds.map Own1.l = xs := by
  induction xs generalizing inner with
  | nil =>
    have h1 := hr.1
    simp at h1
    exact ⟨[], by simp [h1], rfl⟩
  | cons x xs ih =>
    have h1 := hr.1
    cases inner with
    | nil => simp at h1
    | cons v inner =>
      obtain ⟨u, hu, hR⟩ := hr.2 0 x rfl
      simp at hu
      subst hu
      obtain ⟨ds, e1, e2⟩ := ih (inner := inner) ⟨by simpa using h1, fun j p hj => by
        have := hr.2 (j + 1) p (by simpa using hj)
        simpa using this⟩ (fun y hy => hl y (List.mem_cons_of_mem _ hy))
      exact ⟨⟨v, x, hR, hl x List.mem_cons_self⟩ :: ds, by simp [e1], by simp [e2]⟩
theorem sortF_calls (A : Option Addr) (c : Nat) (xs : List (List Int)) (base : Nat) (w : World) (hR : Kd.R (Kd.slice 3 (Kd.int .i64)) 28 w base (fun _ => True) (.slice A xs.length c) xs) (hne : xs ≠ []) (hl : xs.length < 2000000) (hl2 : ∀ x ∈ xs, x.length < 2000000) :
    Calls Try.prog 65 #[.slice A xs.length c, .func (.func 66) #[] #[]] w fun e w' => e = .returned (.tuple #[]) ∧ Kd.R (Kd.slice 3 (Kd.int .i64)) 28 w' base (fun _ => True) (.slice A xs.length c) (sortL xs) ∧ w.grownBy w' (Value.slice A xs.length c).ownBlock := by
  obtain ⟨g, cap, e, hb, hg, cells, hc⟩ := Kd.R_form hR (List.length_pos_iff.2 hne)
  injection e with e _ e2
  subst e e2
  obtain ⟨h0, inner, ho, hr⟩ := hR
  have hr2 : Reps ((Kd.slice 3 (Kd.int .i64)).M w base (fun k => k ≠ g)) 1 xs inner := hr.imp_ (fun _ _ h => (Kd.slice 3 (Kd.int .i64)).M_mono (fun k hk => fun e => hk.2 (by rw [e]; rfl)) h)
  obtain ⟨ds, e1, e2⟩ := own1_list hr2 hl2
  have hdl : ds.length = xs.length := by have := congrArg List.length e2; simpa using this
  have hin : inner = ds.toArray.toList.map Own1.v := by simpa using e1.symm
  subst hin
  have hh := own_holds Own1.v ho (by simp [hdl])
  have hcmp : CmpLays1 Try.prog 66 #[] (Own1.v : Own1 w base (fun k => k ≠ g) → Value) (fun x y => cmpL x.l y.l) g 0 ds.toArray.size w := by
    intro m os dk hs x y
    have hgr : w.grownBy (sortWorld (Own1.v : Own1 w base (fun k => k ≠ g) → Value) w g 0 m dk os) (some g) := (putRow_block _ hc m dk os).2
    obtain ⟨A1, c1, ex⟩ := Kd.R_slice x.r
    obtain ⟨A2, c2, ey⟩ := Kd.R_slice y.r
    have hx := Kd.R_grown x.r hgr (fun k hk => fun e => hk (by injection e))
    have hy := Kd.R_grown y.r hgr (fun k hk => fun e => hk (by injection e))
    rw [ex] at hx
    rw [ey] at hy
    rw [ex, ey]
    refine (compare_calls A1 A2 c1 c2 x.l y.l _ (Kd.R_reads' hx).2.2 (Kd.R_reads' hy).2.2 x.h).mono fun e w' hw => ?_
    obtain ⟨he, q, hq⟩ := hw
    exact ⟨he, q, #[], by rw [hq]; simp⟩
  have hO : SWO (ltOf (fun x y : Own1 w base (fun k => k ≠ g) => cmpL x.l y.l)) :=
    ⟨fun x => swo_ltL.irrefl x.l, fun x y z => swo_ltL.trans x.l y.l z.l, fun x y z => swo_ltL.ntrans x.l y.l z.l⟩
  have eg : ∀ args w, (callFunc 66 args).run Try.prog w = .ok (.enter 66 args) w := enters_of Try.func66 (by kernel_rfl) rfl
  have h := Any.slices_SortFunc laySortF Own1.v (fun x => by obtain ⟨A1, c1, ex⟩ := Kd.R_slice x.r; rw [ex]; rfl) _ hO 66 #[] g 0 c ds.toArray w eg hcmp hh.1 hh.2 (by simp; omega)
  change Calls Try.prog 65 _ _ _ at h
  have hsz : ds.toArray.size = xs.length := by simp [hdl]
  rw [hsz] at h
  refine h.mono fun e w' hw => ?_
  obtain ⟨he, d', q, os, hp, hso, rfl⟩ := hw
  have hd' : d'.size = xs.length := by rw [hp.1, hsz]
  have hp2 := own_put Own1.v ho q d' hd' os
  have hlist : d'.toList.map Own1.l = sortL xs := by
    have hh := sorted_unique_holds swo_ltL tot_ltL xs.toArray (d'.map Own1.l) ?_ ?_
    · simpa [sortL] using hh
    · refine ⟨by simp [hd'], fun i hi => ?_, ?_⟩
      · have hi : xs.length ≤ i := by
          rcases hi with hi | hi
          · omega
          · simpa using hi
        rw [getElem!_neg _ _ (by simp; omega), getElem!_neg _ _ (by simp; omega)]
      · have h3 := hp.2.2
        have e3 : (d'.extract 0 xs.length).toList = d'.toList := by rw [← hd']; simp
        have e4 : (ds.toArray.extract 0 xs.length).toList = ds := by rw [← hdl]; simp
        rw [e3, e4] at h3
        have h4 := h3.map Own1.l
        rw [e2] at h4
        have e5 : ((d'.map Own1.l).extract 0 xs.toArray.size).toList = d'.toList.map Own1.l := by
          have : xs.toArray.size = (d'.map Own1.l).size := by simp [hd']
          rw [this]; simp
          rw [List.take_of_length_le (by simp)]
        have e6 : (xs.toArray.extract 0 xs.toArray.size).toList = xs := by simp
        rw [e5, e6]
        exact h4
    · intro i j _ hij hj
      have hj2 : j < xs.length := by simpa using hj
      have := hso i j (Nat.zero_le _) hij hj2
      rw [getElem!_pos d' j (by omega), getElem!_pos d' i (by omega)] at this
      rw [getElem!_pos _ j (by simp; omega), getElem!_pos _ i (by simp; omega)]
      simpa [ltOf, ltL] using this
  refine ⟨he, ⟨h0, d'.toList.map Own1.v, ?_, ?_⟩, hp2.2⟩
  · have : (sortL xs).length = xs.length := List.length_mergeSort _
    rw [this]; exact hp2.1
  · rw [← hlist]
    show Reps _ 1 _ _
    refine ⟨by simp, fun j p hj => ?_⟩
    rw [List.getElem?_map] at hj
    cases hz : d'.toList[j]? with
    | none => rw [hz] at hj; simp at hj
    | some z =>
      rw [hz] at hj
      obtain rfl := Option.some.inj hj
      refine ⟨z.v, ?_, ?_⟩
      · apply List.ext_getElem?
        intro i
        cases i with
        | zero => simp [List.getElem?_take, show d'[j]? = some z by simpa using hz]
        | succ i => simp [List.getElem?_take]
      · exact Kd.R_mono (Kd.R_grown z.r hp2.2 (fun k hk => fun e => hk (by injection e))) (fun k hk => ⟨trivial, fun e => hk (by injection e)⟩)
end Go.Proofs.Ytpmadffgdfholaa.B
namespace Go.Proofs.Ytpmadffgdfholaa.B
open Go.RowKit Go.Proofs.YtpmadffgdfholaaW.PrintWords Go.Proofs.YtpmadffgdfholaaW.PrintLast Go.Proofs.YtpmadffgdfholaaW.PrintMore
set_option linter.unusedVariables false
set_option linter.unusedSimpArgs false
theorem came_foot {g : Nat} {w W : World} {A : Option Addr} {n : Nat} {xs : List S30} (h : Kd.C k30 w A n xs) (hb : Below w.heap.size w W) (hg : w.heap.size ≤ g) : ∀ W', KeepBut W W' g none → Kd.C k30 W' A n xs := Kd.C_foot_came k30_heap h hb hg
end Go.Proofs.Ytpmadffgdfholaa.B
namespace Go.Proofs.Ytpmadffgdfholaa.B
open Go.RowKit Go.MapKept Go.Proofs.YtpmadffgdfholaaW.PrintWords Go.Proofs.YtpmadffgdfholaaW.PrintLast Go.Proofs.YtpmadffgdfholaaW.PrintMore
set_option linter.unusedVariables false
set_option linter.unusedSimpArgs false
attribute [local go_sem ↓] Go.wp_at_zero Go.wp_at_succ
def apartL (k : Nat) (n : Int) (l : List S30) : Nat → (Int → Bool) → List (List Int) → Option (List (List Int))
  | 0, _, out => some out
  | c + 1, gone, out => (branch_town_tree.f k n l gone (c : Int)).bind fun t => if out.length < 1000000 then apartL k n l c t.2 (out ++ [t.1]) else none
def branch_Apart.f (k : Nat) (n : Int) (l : List S30) : Option (List (List Int) × Int) :=
  if readB n l = 0 then (bNrw_.f k n l (fun _ => some false)).bind fun lt => if 0 ≤ lt.1 ∧ lt.1 < 1000000 then (apartL k n l lt.1.toNat (fun _ => false) []).bind fun out =>
    if out.length < 2000000 ∧ (∀ x ∈ out, x.length < 2000000) then some (sortL out, 0) else none else none else some ([], readB n l)
/-- What a walk of Apart knows of its world. -/
structure AEnv (w W : World) (gt m : Nat) (cs : Array Value) (vl : Value) (out : List (List Int)) (gone : Int → Bool) : Prop where
  hB : Below w.heap.size w W
  tB : W.heap[gt]? = some (.cells cs 70 (0, 0))
  hM : SetM W m gone
  gm : w.heap.size ≤ m
  hL : Kd.R (Kd.slice 3 (Kd.int .i64)) 28 W w.heap.size (fun _ => True) vl out
theorem R_rows_kb {w W : World} {base m : Nat} {v : Value} {xs : List (List Int)} {gone : Int → Bool} (h : Kd.R (Kd.slice 3 (Kd.int .i64)) 28 w base (fun _ => True) v xs) (hM : SetM w m gone) (hk : KB m w W) : Kd.R (Kd.slice 3 (Kd.int .i64)) 28 W base (fun _ => True) v xs := by
  refine Kd.R_mono (Kd.R_keep (Kd.R_bound h) hk.keep (fun k hk2 => ?_)) (fun _ hk => hk.1)
  obtain ⟨_, _, _, q, _, cells, hc⟩ := hk2
  rintro rfl
  exact hM.ne_cells hc rfl
theorem AEnv.below {w W W2 : World} {gt m : Nat} {cs : Array Value} {vl : Value} {out : List (List Int)} {gone : Int → Bool} (h : AEnv w W gt m cs vl out gone) (hb : Below W.heap.size W W2) : AEnv w W2 gt m cs vl out gone :=
  ⟨below_step h.hB hb, blk_below h.tB hb, h.hM.below hb, h.gm, Kd.R_below h.hL hb⟩
theorem AEnv.kb {w W W2 : World} {gt m : Nat} {cs : Array Value} {vl : Value} {out : List (List Int)} {gone gone2 : Int → Bool} (h : AEnv w W gt m cs vl out gone) (hM2 : SetM W2 m gone2) (hk : KB m W W2) : AEnv w W2 gt m cs vl out gone2 :=
  ⟨hk.below h.hB h.gm, h.hM.blk_map h.tB hk, hM2, h.gm, R_rows_kb h.hL h.hM hk⟩
theorem SetM.rows {w w2 : World} {m base : Nat} {g : Int → Bool} {v : Value} {xs : List (List Int)} (h : SetM w m g) (hR : Kd.R (Kd.slice 3 (Kd.int .i64)) 28 w base (fun _ => True) v xs) (hg : w.grownBy w2 v.ownBlock) : SetM w2 m g :=
  h.of_block (hg.block m h.lt (fun e => by
    obtain ⟨cells, hc⟩ := own_typed (Kd.R_own hR).choose_spec m e.symm
    exact h.ne_cells hc rfl))
theorem AEnv.app {w W W2 : World} {gt m : Nat} {cs : Array Value} {vl v2 : Value} {out out2 : List (List Int)} {gone : Int → Bool} (h : AEnv w W gt m cs vl out gone) (hb : Below w.heap.size w W2) (hg : W.grownBy W2 vl.ownBlock) (hL : Kd.R (Kd.slice 3 (Kd.int .i64)) 28 W2 w.heap.size (fun _ => True) v2 out2) : AEnv w W2 gt m cs v2 out2 gone :=
  ⟨hb, blk_grown h.tB hg (Kd.R_ne h.hL h.tB (by decide)), h.hM.rows h.hL hg, h.gm, hL⟩
theorem R_self {w : World} {base : Nat} {v : Value} {xs : List Int} {ok : Nat → Prop} (h : Kd.R (Kd.int .i64) 3 w base ok v xs) : Kd.R (Kd.int .i64) 3 w base (fun k => some k = v.ownBlock) v xs := by
  obtain ⟨_, inner, ho, hr⟩ := h
  exact ⟨fun k hk => hk.symm, inner, ho, hr.imp_ (fun _ _ h => h)⟩
set_option maxHeartbeats 8000000 in
set_option maxRecDepth 100000 in
theorem branch_Apart.calls (k : Nat) (a0 : Int) (A1 : Option Addr) (c1 : Nat) (l1 : List S30) (r1 : List (List Int)) (r2 : Int) (w : World) (hr1 : Kd.C k30 w A1 l1.length l1) (hc1 : l1.length ≤ c1) (h : branch_Apart.f k a0 l1 = some (r1, r2)) :
  Calls Try.prog 40 #[.int .i64 a0, .slice A1 l1.length c1] w fun e w' => ∃ v0_ : Value, e = .returned (.tuple #[v0_, .int .i64 r2]) ∧ Kd.R (Kd.slice 3 (Kd.int .i64)) 28 w' w.heap.size (fun _ => True) v0_ r1 ∧ Below w.heap.size w w' := by
 have HR1 := Az0.mk hr1
 have HC1 := Az0.mk hc1
 clear hr1 hc1
 have HB := Az0.mk (Below.refl w.heap.size w)
 unfold branch_Apart.f at h
 obtain ⟨t, ht⟩ : ∃ t, readB a0 l1 = t := ⟨_, rfl⟩
 rw [ht] at h
 have HT0 := Az0.mk (show branch_read.f a0 l1 = some t by unfold branch_read.f; rw [ht])
 clear ht
 by_cases c3 : t = 0
 case neg =>
  rw [if_neg c3] at h
  have c3b : (t == 0) = false := beq_eq_false_iff_ne.mpr c3
  have c3c : (t != 0) = true := bne_iff_ne.mpr c3
  simp only [Option.some.injEq, Prod.mk.injEq] at h
  obtain ⟨rfl, rfl⟩ := h
  clear c3
  go_enter Try.func40, Try.ntmps40
  go_wp2_with (first | (go_at_call 44; (refine (branch_read.calls_err a0 A1 c1 l1 t _ HR1.out HC1.out HT0.out (by assumption)).mono ?_); rintro e w1 ⟨rfl, hb⟩; clear HB; have HB := Az0.mk hb; clear hb))
  go_ret2
  exact ⟨_, by first | rfl | (simp; done), Kd.R_nil _ _ _ _ _, HB.out⟩
 rw [if_pos c3] at h
 have c3b : (t == 0) = true := beq_iff_eq.mpr c3
 have c3c : (t != 0) = false := bne_eq_false_iff_eq.mpr c3
 clear c3
 obtain ⟨⟨lt1, lt2⟩, hlt, h⟩ := Option.bind_eq_some_iff.1 h
 simp only at h
 by_cases hm : 0 ≤ lt1 ∧ lt1 < 1000000
 case neg => rw [if_neg hm] at h; exact absurd h (by simp)
 rw [if_pos hm] at h
 obtain ⟨M, rfl⟩ := Int.eq_ofNat_of_zero_le hm.1
 have HMM := Az0.mk hm
 have HLT := Az0.mk hlt
 clear hm hlt
 obtain ⟨out0, hout, h⟩ := Option.bind_eq_some_iff.1 h
 have HO0 := Az0.mk (show apartL k a0 l1 M (fun _ => false) [] = some out0 by simpa using hout)
 clear hout
 by_cases hs : out0.length < 2000000 ∧ (∀ x ∈ out0, x.length < 2000000)
 case neg => rw [if_neg hs] at h; exact absurd h (by simp)
 rw [if_pos hs] at h
 have HS := Az0.mk hs
 simp only [Option.some.injEq, Prod.mk.injEq] at h
 obtain ⟨rfl, rfl⟩ := h
 clear hs
 go_enter Try.func40, Try.ntmps40
 go_wp2_with (first | (go_at_call 44; (refine (branch_read.calls_ok a0 A1 c1 l1 t _ HR1.out HC1.out HT0.out (by assumption)).mono ?_); rintro e w1 ⟨gt, mr, rfl, hg, hbox, hb⟩; have HT := Az0.mk hbox; clear HB; have HB := Az0.mk hb; clear hg hbox hb) | (go_at_call 53; (refine (bNrw_.calls k gt a0 A1 c1 l1 mr (.map none) (fun _ => some false) (M : Int) lt2 _ HT.out (Kd.C_below HR1.out HB.out) HC1.out (IsLook.nil rfl rfl (fun _ => by first | rfl | (go_simp; done)) _) HLT.out).mono ?_); rintro e w2 ⟨rfl, hb⟩; have n0_ := Az0.mk (below_step HB.out hb); have n1_ := Az0.mk (blk_below HT.out hb); clear HB HT hb; have HB := n0_; have HT := n1_; clear n0_ n1_) | ((with_reducible refine gate_dst (N := 26) rfl ?_); refine map_event ?hg (N := 26) ?hd ?hr ?_; (case hd => rfl); (case hg => rfl); (case hr => rfl); intro m hm w3 hmap hb; have AE := Az0.mk (show AEnv w w3 gt m _ (.slice none 0 0) [] (fun _ => false) from ⟨below_step HB.out hb, blk_below HT.out hb, SetM.new hmap, by rw [hm]; exact below_size HB.out, Kd.R_nil _ _ _ _ _⟩); clear HB HT hm hmap hb))
 go_loopg [8, 11] M (fun kq v8 v11 w' => ∃ (gone : Int → Bool) (out : List (List Int)), v8 = .int .i64 (kq : Int) ∧ Az0 (kq ≤ M) ∧ Az0 (apartL k a0 l1 kq gone out = some out0) ∧ Az0 (AEnv w w' gt m #[.int .i64 a0, .slice A1 l1.length c1, .map mr] v11 out gone))
 case atStart => exact ⟨_, [], rfl, ⟨Nat.le_refl _⟩, ⟨HO0.out⟩, AE⟩
 case round =>
  clear AE HO0
  obtain ⟨gone, out, rfl, HK, HH, AE⟩ := hrel
  obtain ⟨Al, cl, hvl⟩ := Kd.R_slice AE.out.hL
  subst hvl
  cases gk with
  | zero =>
   have hh := HH.out
   simp only [apartL, Option.some.injEq] at hh
   subst hh
   have d0 : decide ((0 : Int) < ((0 : Nat) : Int)) = false := by decide
   by_cases hne : out = []
   ·subst hne
    have hnone := fun W => AnyF.slices_SortFunc_none { laySortF with } Al cl (.func (.func 66) #[] #[]) W
    have HN := Az0.mk (show ∀ W, Calls Try.prog 65 #[.slice Al 0 cl, .func (.func 66) #[] #[]] W fun e w' => e = .returned (.tuple #[]) ∧ w' = W from hnone)
    clear hnone
    go_wp2_with (first | (go_at_call 65; refine (HN.out _).mono ?_; rintro e w' ⟨rfl, rfl⟩))
    go_ret2
    exact ⟨_, by first | rfl | (simp; done), by have := AE.out.hL; simpa [sortL] using this, AE.out.hB⟩
   ·have HNE := Az0.mk hne
    clear hne
    go_wp2_with (first | (go_at_call 65; (refine (sortF_calls Al cl out w.heap.size _ AE.out.hL HNE.out HS.out.1 HS.out.2).mono ?_); rintro e w6 ⟨rfl, ho, hg⟩; have n0_ := Az0.mk (AE.out.app (AE.out.hB.grown hg AE.out.hB.size (own_base (Kd.R_own AE.out.hL).choose_spec)) hg ho); clear AE ho hg; have AE := n0_; clear n0_))
    go_ret2
    exact ⟨_, by first | rfl | (simp; done), AE.out.hL, AE.out.hB⟩
  | succ k2 =>
   have hh := HH.out
   unfold apartL at hh
   obtain ⟨⟨t1, g1⟩, htr, hh⟩ := Option.bind_eq_some_iff.1 hh
   simp only at hh
   by_cases hll : out.length < 1000000
   case neg => rw [if_neg hll] at hh; exact absurd hh (by simp)
   rw [if_pos hll] at hh
   have HTR := Az0.mk htr
   have HLL := Az0.mk hll
   clear HH htr hll
   have HH := Az0.mk hh
   clear hh
   obtain ⟨mm, hmm⟩ : ∃ mm : Int, ((k2 + 1 : Nat) : Int) = mm := ⟨_, rfl⟩
   have d0 : decide ((0 : Int) < mm) = true := decide_eq_true (by omega)
   have d1 : wrap64 (mm - 1) = (k2 : Int) := by have := HK.out; have := HMM.out; unfold wrap64; omega
   rw [hmm]
   clear hmm
   go_wp2_with (first | (go_at_call 64; (refine (branch_town_tree.calls k gt a0 A1 c1 l1 mr m gone g1 (k2 : Int) t1 _ AE.out.tB (came_foot HR1.out AE.out.hB AE.out.gm) HC1.out AE.out.hM HTR.out).mono ?_); rintro e w5 ⟨vt, rfl, ho, hM, hk⟩; obtain ⟨At, ct, hvt⟩ := Kd.R_slice ho; subst hvt; have hlt := Kd.R_lt AE.out.hL; have hge := own_base (Kd.R_own ho).choose_spec; have HD := Az0.mk (fun (k_ : Nat) (h1_ : some k_ = (Value.slice At t1.length ct).ownBlock) => (show (fun _ : Nat => True) k_ ∧ some k_ ≠ (Value.slice Al out.length cl).ownBlock from ⟨trivial, fun h2_ => by have a1_ := hlt k_ h2_.symm; have a2_ := hge k_ h1_.symm; omega⟩)); have HT1 := Az0.mk (R_self (Kd.R_lower ho AE.out.hB.size)); have n0_ := Az0.mk (AE.out.kb hM hk); clear AE ho hM hk hlt hge; have AE := n0_; clear n0_) | ((with_reducible refine gate_builtin (b := .append) (xs := #[.tmp 31, .tmp 37]) rfl ?_); at_builtin; refine Kd.R_append (Kd.slice 3 (Kd.int .i64)) (w0 := w) w.heap.size rfl (.tmp 31) (.tmp 37) 27 28 (.slice none 0 0) 24 rfl Try.underlying27 info28 rfl (by decide) (by omega) (.slice Al out.length cl) out t1 [.slice At t1.length ct] (fun _ => True) (fun k_ => some k_ = (.slice At t1.length ct : Value).ownBlock) rfl (by first | (go_simp; done) | (go_simp; rfl)) ?aP HD.out ?aF ?aO ?aB ?aS ?aL ?_; (case aP => exact ⟨_, rfl, HT1.out⟩); (case aB => exact AE.out.hB); (case aF => exact (fun _ _ => trivial)); (case aO => exact AE.out.hL); (case aS => exact AE.out.hB.size); (case aL => have := HLL.out; omega); intro v2 w10 ho hb hg hat; have hg2 : w5.grownBy w10 (Value.slice Al out.length cl).ownBlock := (by first | exact hg | exact grown_then (baA_ (Below.refl _ _) _) hg); have n0_ := Az0.mk (AE.out.app hb hg2 ho); clear AE ho hb hg hat hg2; have AE := n0_; clear n0_))
   go_roundg k2
   case measure => omega
   case rel => exact ⟨g1, out ++ [t1], congrArg (Value.int .i64) d1, ⟨by have := HK.out; omega⟩, HH, AE⟩
end Go.Proofs.Ytpmadffgdfholaa.B
namespace Go.Proofs.Ytpmadffgdfholaa.B
open Go.RowKit Go.Proofs.YtpmadffgdfholaaW.PrintWords Go.Proofs.YtpmadffgdfholaaW.PrintLast Go.Proofs.YtpmadffgdfholaaW.PrintMore
attribute [local go_sem] max2_int min2_int max_two min_two max_three min_three max_four min_four   -- for this text's walks alone
set_option linter.unusedVariables false
set_option linter.unusedSimpArgs false
mutual
def branch_Count.l0 : Nat → Int → List (List Int) → Int → Int → Int → List (S30) → Option (Int × Int)
  | 0, _, _, _, _, _, _ => none
  | k + 1, x0, x8, x25, x26, x119000, x119001 => if x26 < x25 then (if 0 ≤ (wrap64 (x0 - 1)) then (if (wrap64 (x0 - 1) : Int).toNat ≤ 35184372088832 then (if 0 ≤ x26 then (if x26 < (x8.length : Int) then (branch_Count.l0 k x0 (x8.set (x26 : Int).toNat (List.replicate (wrap64 (x0 - 1) : Int).toNat 0)) x25 (wrap64 (x26 + 1)) x119000 x119001) else (none)) else (none)) else (none)) else (none)) else (branch_Count.l1 k x8 x119001 (x119001.length : Int) 0)
def branch_Count.l1 : Nat → List (List Int) → List (S30) → Int → Int → Option (Int × Int)
  | 0, _, _, _, _ => none
  | k + 1, x8, x39, x40, x41 => if x41 < x40 then (if 0 ≤ x41 then (if x41 < (x39.length : Int) then (if ((rdT x39 x41).f1) > 0 then (if 0 ≤ (wrap64 (((rdT x39 x41).f1) - 1)) then (if (wrap64 (((rdT x39 x41).f1) - 1)) < (x8.length : Int) then (if (wrap64 (((rdT x39 x41).f1) - 1)) < ((rd_L12 x8 (wrap64 (((rdT x39 x41).f1) - 1))).length : Int) then ((some (x8.set ((wrap64 (((rdT x39 x41).f1) - 1)) : Int).toNat ((rd_L12 x8 (wrap64 (((rdT x39 x41).f1) - 1))).set ((wrap64 (((rdT x39 x41).f1) - 1)) : Int).toNat (wrap64 ((rd (rd_L12 x8 (wrap64 (((rdT x39 x41).f1) - 1))) (wrap64 (((rdT x39 x41).f1) - 1))) + 1))) : List (List Int))).bind fun y133 => (if ((rdT x39 x41).f0) > 0 then (if 0 ≤ (wrap64 (((rdT x39 x41).f0) - 1)) then (if (wrap64 (((rdT x39 x41).f0) - 1)) < (x8.length : Int) then (if (wrap64 (((rdT x39 x41).f1) - 1)) < ((rd_L12 y133 (wrap64 (((rdT x39 x41).f0) - 1))).length : Int) then (branch_Count.l1 k (y133.set ((wrap64 (((rdT x39 x41).f0) - 1)) : Int).toNat ((rd_L12 y133 (wrap64 (((rdT x39 x41).f0) - 1))).set ((wrap64 (((rdT x39 x41).f1) - 1)) : Int).toNat (wrap64 ((rd (rd_L12 y133 (wrap64 (((rdT x39 x41).f0) - 1))) (wrap64 (((rdT x39 x41).f1) - 1))) - 1)))) x39 x40 (wrap64 (x41 + 1))) else (none)) else (none)) else (none)) else (branch_Count.l1 k y133 x39 x40 (wrap64 (x41 + 1))))) else (none)) else (none)) else (none)) else (branch_Count.l1 k x8 x39 x40 (wrap64 (x41 + 1)))) else (none)) else (none)) else ((bDtm_.f k x8).bind fun t126 => (some (t126, 0)))
end
def branch_Count.f (k : Nat) (a0 : Int) (l1 : List (S30)) : Option (Int × Int) := (branch_read.f a0 l1).bind fun t117 => (if t117 = 0 then (if 0 ≤ (wrap64 (a0 - 1)) then (if (wrap64 (a0 - 1) : Int).toNat ≤ 11728124029610 then ((some (List.replicate (wrap64 (a0 - 1) : Int).toNat [] : List (List Int))).bind fun y119 => (branch_Count.l0 k a0 y119 (y119.length : Int) 0 a0 l1)) else (none)) else (none)) else (some (0, t117)))
theorem branch_Count.mono_l : ∀ k, (∀ y0 y1 y2 y3 y4 y5, LeO (branch_Count.l0 k y0 y1 y2 y3 y4 y5) (branch_Count.l0 (k + 1) y0 y1 y2 y3 y4 y5)) ∧ (∀ y0 y1 y2 y3, LeO (branch_Count.l1 k y0 y1 y2 y3) (branch_Count.l1 (k + 1) y0 y1 y2 y3))
  | 0 => ⟨fun _ _ _ _ _ _ r h => by simp [branch_Count.l0] at h, fun _ _ _ _ r h => by simp [branch_Count.l1] at h⟩
  | k + 1 => by
    obtain ⟨ih0, ih1⟩ := branch_Count.mono_l k
    refine ⟨?_, ?_⟩
    · intro y0 y1 y2 y3 y4 y5
      unfold branch_Count.l0
      repeat' first
      | (with_reducible exact ih0 _ _ _ _ _ _)
      | (with_reducible exact ih1 _ _ _ _)
      | (with_reducible exact bDtm_.mono _ _)
      | (with_reducible exact LeO.refl _)
      | (with_reducible exact LeO.none _)
      | (with_reducible refine LeO.ite ?_ ?_)
      | (with_reducible refine LeO.bind ?_ (fun _ => ?_))
      | exact ih0 _ _ _ _ _ _
      | exact ih1 _ _ _ _
      | exact bDtm_.mono _ _
      | exact LeO.none _
      | refine LeO.ite ?_ ?_
      | refine LeO.bind ?_ (fun _ => ?_)
    · intro y0 y1 y2 y3
      unfold branch_Count.l1
      repeat' first
      | (with_reducible exact ih0 _ _ _ _ _ _)
      | (with_reducible exact ih1 _ _ _ _)
      | (with_reducible exact bDtm_.mono _ _)
      | (with_reducible exact LeO.refl _)
      | (with_reducible exact LeO.none _)
      | (with_reducible refine LeO.ite ?_ ?_)
      | (with_reducible refine LeO.bind ?_ (fun _ => ?_))
      | exact ih0 _ _ _ _ _ _
      | exact ih1 _ _ _ _
      | exact bDtm_.mono _ _
      | exact LeO.none _
      | refine LeO.ite ?_ ?_
      | refine LeO.bind ?_ (fun _ => ?_)
theorem branch_Count.mono : ∀ a0 a1 k, LeO (branch_Count.f k a0 a1) (branch_Count.f (k + 1) a0 a1) := by
  intro a0 a1 k
  obtain ⟨ih0, ih1⟩ := branch_Count.mono_l k
  unfold branch_Count.f
  repeat' first
      | (with_reducible exact ih0 _ _ _ _ _ _)
      | (with_reducible exact ih1 _ _ _ _)
      | (with_reducible exact bDtm_.mono _ _)
      | (with_reducible exact LeO.refl _)
      | (with_reducible exact LeO.none _)
      | (with_reducible refine LeO.ite ?_ ?_)
      | (with_reducible refine LeO.bind ?_ (fun _ => ?_))
      | exact ih0 _ _ _ _ _ _
      | exact ih1 _ _ _ _
      | exact bDtm_.mono _ _
      | exact LeO.none _
      | refine LeO.ite ?_ ?_
      | refine LeO.bind ?_ (fun _ => ?_)
def branch_Count.T14 : Bool × List (List Nat × List Nat) := (true, [([], []), ([], []), ([1], [1]), ([2], [2]), ([0, 3], [0, 3]), ([4], [4]), ([], []), ([6], [6]), ([7], [7]), ([5, 8], [5, 8]), ([9], [9]), ([10], [10]), ([5, 8, 0, 1, 2, 3, 4, 5, 6, 7, 8, 9, 10, 11], [5, 8]), ([12, 11, 0, 1, 2, 3, 4, 5, 6, 7, 8, 9, 10, 11], [11, 12])])
def branch_Count.B14 : List Nat := [0, 0, 2, 6, 15, 31, 0, 64, 192, 511, 1023, 2047, 4095, 8191]
theorem branch_Count.tab14 : rtab .any (opsOf Try.f18 14) = branch_Count.T14 := by kernel_rfl
theorem branch_Count.bits14 : waitsOk branch_Count.T14.2 branch_Count.B14 = true := by kernel_rfl
def branch_Count.T16 : Bool × List (List Nat × List Nat) := (true, [([], []), ([], []), ([1], [1]), ([2], [2]), ([0, 3], [0, 3]), ([4], [4]), ([], []), ([6], [6]), ([7], [7]), ([5, 8], [5, 8]), ([9], [9]), ([10], [10]), ([5, 8, 0, 1, 2, 3, 4, 5, 6, 7, 8, 9, 10, 11], [5, 8]), ([12, 11, 0, 1, 2, 3, 4, 5, 6, 7, 8, 9, 10, 11], [11, 12])])
def branch_Count.B16 : List Nat := [0, 0, 2, 6, 15, 31, 0, 64, 192, 511, 1023, 2047, 4095, 8191]
theorem branch_Count.tab16 : rtab .any (opsOf Try.f18 16) = branch_Count.T16 := by kernel_rfl
theorem branch_Count.bits16 : waitsOk branch_Count.T16.2 branch_Count.B16 = true := by kernel_rfl
set_option maxHeartbeats 8000000 in
set_option maxRecDepth 100000 in
theorem branch_Count.calls (k : Nat) (a0 : Int) (A1 : Option Addr) (c1 : Nat) (l1 : List (S30)) (r1 : Int) (r2 : Int) (w : World) (hr1 : Kd.C k30 w A1 l1.length l1) (hc1 : l1.length ≤ c1) (h : branch_Count.f k a0 l1 = some (r1, r2)) :
  Calls Try.prog 18 #[.int .i64 a0, .slice A1 l1.length c1] w fun e w' => e = .returned (.tuple #[.int .i64 r1, .int .i64 r2]) ∧ Below w.heap.size w w' := by
 have hu30 := Try.underlying30
 have HR1 := Az0.mk hr1
 have HC1 := Az0.mk hc1
 clear hr1 hc1
 have HB := Az0.mk (Below.refl w.heap.size w)
 have H : ((branch_read.f a0 l1).bind fun t117 => (if t117 = 0 then (if 0 ≤ (wrap64 (a0 - 1)) then (if (wrap64 (a0 - 1) : Int).toNat ≤ 11728124029610 then ((some (List.replicate (wrap64 (a0 - 1) : Int).toNat [] : List (List Int))).bind fun y119 => (branch_Count.l0 k a0 y119 (y119.length : Int) 0 a0 l1)) else (none)) else (none)) else (some (0, t117)))) = some (r1, r2) := h
 clear h
 replace H := Option.bind_eq_some_iff.mp H
 obtain ⟨t117, A30, H⟩ := H
 replace H : (if t117 = 0 then (if 0 ≤ (wrap64 (a0 - 1)) then (if (wrap64 (a0 - 1) : Int).toNat ≤ 11728124029610 then ((some (List.replicate (wrap64 (a0 - 1) : Int).toNat [] : List (List Int))).bind fun y119 => (branch_Count.l0 k a0 y119 (y119.length : Int) 0 a0 l1)) else (none)) else (none)) else (some (0, t117))) = some (r1, r2) := H
 have A3 := Az0.mk A30
 clear A30
 by_cases c4 : t117 = 0
 ·rw [if_pos c4] at H
  have c4b0 : (t117 == 0) = true := beq_iff_eq.mpr c4
  have c4b1 : (t117 != 0) = false := bne_eq_false_iff_eq.mpr c4
  clear c4
  obtain ⟨ji5, hji5⟩ : ∃ j_ : Int, (wrap64 (a0 - 1)) = j_ := ⟨_, rfl⟩
  replace H : (if 0 ≤ (ji5) then (if (ji5 : Int).toNat ≤ 11728124029610 then ((some (List.replicate (ji5 : Int).toNat [] : List (List Int))).bind fun y119 => (branch_Count.l0 k a0 y119 (y119.length : Int) 0 a0 l1)) else (none)) else (none)) = some (r1, r2) := by first | (rw [hji5] at H; exact H) | (simp only [hji5] at H ⊢; exact H)
  (try rw [hji5] at A3)
  have hji5w : (IntKind.i64.wrap (a0 - 1)) = ji5 := (i64_w _).trans hji5
  by_cases c6 : 0 ≤ (ji5)
  ·rw [if_pos c6] at H
   have c6b0 := eq_true c6
   have c6b1 : decide (0 ≤ (ji5)) = true := decide_eq_true c6
   clear c6
   by_cases c7 : (ji5 : Int).toNat ≤ 11728124029610
   ·rw [if_pos c7] at H
    have c7b0 := eq_true c7
    have c7b1 : decide ((ji5 : Int).toNat ≤ 11728124029610) = true := decide_eq_true c7
    clear c7
    obtain ⟨y119, hy119⟩ : ∃ y_ : List (List Int), y_ = (List.replicate (ji5 : Int).toNat []) := ⟨_, rfl⟩
    replace H : (branch_Count.l0 k a0 y119 (y119.length : Int) 0 a0 l1) = some (r1, r2) := by first | (rw [hy119]; with_reducible exact H) | (have H2_ := (Option.bind_some _ _).symm.trans H; rw [hy119]; with_reducible exact H2_) | (have H2_ := (Option.bind_some _ _).symm.trans H; with_reducible exact H2_) | with_reducible exact H | (rw [hy119]; exact H) | exact H
    have Ny119 := Az0.mk hy119
    clear hy119
    have H' := Az0.mk H
    clear H
    go_enter Try.func18, Try.ntmps18
    go_wp2_with (first | (go_at_call 44; (with_reducible refine (branch_read.calls_ok a0 A1 c1 l1 t117 _ ?side1 ?side2 A3.out (by first | (with_reducible assumption) | assumption)).mono ?_); (case side1 => repeat (first | exact HR1.out | (with_reducible refine Kd.C_alloc ?_ _) | (with_reducible refine Kd.C_drewN ?_ _) | (with_reducible refine Kd.C_drew ?_))); (case side2 => exact HC1.out); rintro e w8 ⟨gb118, mr118, rfl, hg, hbox, hb⟩; have n0_ := Az0.mk (below_step (by repeat (first | (with_reducible first | exact HB.out | apply baA_ | apply pbN_ | apply bD1_) | exact HB.out)) hb); have n1_ := Az0.mk (hbox); have n2_ := Az0.mk ((Nat.le_trans (below_size (by repeat (first | (with_reducible first | exact HB.out | apply baA_ | apply pbN_ | apply bD1_) | exact HB.out))) hg : w.heap.size ≤ gb118)); have n3_ := Az0.mk ((Nat.le_trans (below_size (by repeat (first | (with_reducible first | exact HB.out | apply baA_ | apply pbN_ | apply bD1_) | exact HB.out))) hg : w.heap.size ≤ gb118)); clear HB; have HB := n0_; have BK118 := n1_; have GW118 := n2_; have GE118 := n3_; clear n0_ n1_ n2_ n3_; clear hb hbox hg) | ((with_reducible refine gate_dst (N := 23) rfl ?_); refine Kd.S_make (Kd.slice 3 (Kd.int .i64)) _ 28 rfl (N := 23) rfl 27 _ _ rfl ji5 rfl rfl Try.underlying27 (.slice none 0 0) 24 info28 rfl (by decide) (by omega) [] (ok := fun _ => True) (okp := fun _ => True) ⟨_, rfl, Kd.R_nil _ _ _ _ _⟩ (fun _ hk => hk) trivial (of_decide_eq_true (by first | (with_reducible assumption) | assumption)) (Nat.le_trans (Nat.mul_le_mul_right _ (of_decide_eq_true (by first | (with_reducible assumption) | assumption) : ji5.toNat ≤ 11728124029610)) (by omega)) (Below.refl _ _) (Nat.le_refl _) ?_; intro v120 w9 ho10 hb hg_ hnew_; clear hg_ hnew_; (first | rw [← Ny119.out] at ho10 | (simp only [Int.reduceToNat] at ho10; rw [← Ny119.out] at ho10)); have n0_ := Az0.mk (Kd.S_lower ho10 (below_size (by repeat (first | (with_reducible first | exact HB.out | apply baA_ | apply pbN_ | apply bD1_ | refine below_set ?_ GE118.out) | exact HB.out)))); have n1_ := Az0.mk (blk_below (g := gb118) (o := .cells #[.int .i64 a0, .slice A1 l1.length c1, .map mr118] 70 (0, 0)) (by (with_reducible repeat (first | refine blk_drewN ?_ _ | refine blk_drew ?_ | refine blk_alloc ?_ _)); exact BK118.out) hb); have n2_ := Az0.mk (below_step (by repeat (first | (with_reducible first | exact HB.out | apply baA_ | apply pbN_ | apply bD1_ | refine below_set ?_ GE118.out) | exact HB.out)) hb); clear BK118; clear HB; have HO121 := n0_; have BK118 := n1_; have HB := n2_; clear n0_ n1_ n2_; clear hb ho10; obtain ⟨Ao11, co11, eo11⟩ := Kd.S_slice HO121.out; subst eo11))
    go_loopg [26] k (fun kq v26 w' => ∃ (x8_1 : List (List Int)) (x26_1 : Int), v26 = .int .i64 x26_1 ∧ Az0 (branch_Count.l0 kq a0 x8_1 (y119.length : Int) x26_1 a0 l1 = some (r1, r2)) ∧ Az0 (kq ≤ k) ∧ Az0 (Kd.S (Kd.slice 3 (Kd.int .i64)) 28 w' w.heap.size (fun _ => True) (.slice Ao11 y119.length co11) x8_1) ∧ Az0 (w'.heap[gb118]? = some (.cells #[.int .i64 a0, (.slice A1 l1.length c1), .map mr118] 70 (0, 0))) ∧ Az0 (Below w.heap.size w w'))
    case atStart => exact ⟨(y119), (0), (by first | rfl | (simp; done) | (simp [*]; done)), H', ⟨Nat.le_refl _⟩, ⟨by (with_reducible repeat (first | apply Kd.S_alloc | apply Kd.S_drewN | apply Kd.S_drew)); exact HO121.out⟩, ⟨by (with_reducible repeat (first | refine blk_drewN ?_ _ | refine blk_drew ?_ | refine blk_alloc ?_ _)); exact BK118.out⟩, ⟨by repeat (first | (with_reducible first | exact HB.out | apply baA_ | apply pbN_ | apply bD1_ | refine below_set ?_ GE118.out) | exact HB.out)⟩⟩
    case round =>
     clear H'
     try clear c1
     try clear p2
     try clear c4
     try clear c4b0
     try clear c4b1
     try clear c6
     try clear c6b0
     try clear c6b1
     try clear p6
     try clear c7
     try clear c7b0
     try clear c7b1
     obtain ⟨x8_1, x26_1, rfl, HA, HK1, HO_8, BK118, HB⟩ := hrel
     have hl8_1 := (Kd.S_reads' HO_8.out).1
     rw [hl8_1] at HO_8
     (try simp only [hl8_1])
     (try simp only [hl8_1] at BK118)
     cases gk with
     | zero => exact absurd HA.out (by simp [branch_Count.l0])
     | succ k1 =>
      have H := HA.out
      clear HA
      simp only [branch_Count.l0] at H
      by_cases c12 : x26_1 < (y119.length : Int)
      ·rw [if_pos c12] at H
       have c12b0 : decide (x26_1 < (y119.length : Int)) = true := decide_eq_true c12
       (try (have c12b0l := c12b0; simp only [hl8_1] at c12b0l))
       clear c12
       replace H : (if 0 ≤ (ji5) then (if (ji5 : Int).toNat ≤ 35184372088832 then (if 0 ≤ x26_1 then (if x26_1 < (x8_1.length : Int) then (branch_Count.l0 k1 a0 (x8_1.set (x26_1 : Int).toNat (List.replicate (ji5 : Int).toNat 0)) (y119.length : Int) (wrap64 (x26_1 + 1)) a0 l1) else (none)) else (none)) else (none)) else (none)) = some (r1, r2) := by first | (rw [hji5] at H; exact H) | (simp only [hji5] at H ⊢; exact H)
       by_cases c13 : 0 ≤ (ji5)
       ·rw [if_pos c13] at H
        have c13b0 := eq_true c13
        have c13b1 : decide (0 ≤ (ji5)) = true := decide_eq_true c13
        clear c13
        by_cases c14 : (ji5 : Int).toNat ≤ 35184372088832
        ·rw [if_pos c14] at H
         have c14b0 := eq_true c14
         have c14b1 : decide ((ji5 : Int).toNat ≤ 35184372088832) = true := decide_eq_true c14
         clear c14
         obtain ⟨y122, hy122⟩ : ∃ y_ : List Int, y_ = (List.replicate (ji5 : Int).toNat 0) := ⟨_, rfl⟩
         replace H : (if 0 ≤ x26_1 then (if x26_1 < (x8_1.length : Int) then (branch_Count.l0 k1 a0 (x8_1.set (x26_1 : Int).toNat y122) (y119.length : Int) (wrap64 (x26_1 + 1)) a0 l1) else (none)) else (none)) = some (r1, r2) := by first | (rw [hy122]; with_reducible exact H) | (have H2_ := (Option.bind_some _ _).symm.trans H; rw [hy122]; with_reducible exact H2_) | (have H2_ := (Option.bind_some _ _).symm.trans H; with_reducible exact H2_) | with_reducible exact H | (rw [hy122]; exact H) | exact H
         have Ny122 := Az0.mk hy122
         clear hy122
         by_cases c15 : 0 ≤ x26_1
         ·rw [if_pos c15] at H
          have c15b0 : decide (0 ≤ x26_1) = true := decide_eq_true c15
          clear c15
          by_cases c16 : x26_1 < (x8_1.length : Int)
          ·rw [if_pos c16] at H
           have c16b0 : decide (x26_1 < (x8_1.length : Int)) = true := decide_eq_true c16
           (try (have c16b0l := c16b0; simp only [hl8_1] at c16b0l))
           clear c16
           obtain ⟨y125, hy125⟩ : ∃ y_ : List (List Int), y_ = (x8_1.set (x26_1 : Int).toNat y122) := ⟨_, rfl⟩
           replace H : (branch_Count.l0 k1 a0 y125 (y119.length : Int) (wrap64 (x26_1 + 1)) a0 l1) = some (r1, r2) := by first | (rw [hy125]; with_reducible exact H) | (have H2_ := (Option.bind_some _ _).symm.trans H; rw [hy125]; with_reducible exact H2_) | (have H2_ := (Option.bind_some _ _).symm.trans H; with_reducible exact H2_) | with_reducible exact H | (rw [hy125]; exact H) | exact H
           have Ny125 := Az0.mk hy125
           clear hy125
           have H' := Az0.mk H
           clear H
           go_wp2_with (first | ((with_reducible refine gate_dst (N := 33) rfl ?_); refine Kd.R_make (Kd.int .i64) _ 3 rfl (N := 33) rfl 28 _ _ rfl ji5 rfl rfl Try.underlying28 (.int .i64 0) 8 info3 rfl (by decide) (by omega) 0 (ok := fun _ => True) (okp := fun _ => True) rfl (fun _ hk => hk) trivial (of_decide_eq_true (by first | (with_reducible assumption) | assumption)) (Nat.le_trans (Nat.mul_le_mul_right _ (of_decide_eq_true (by first | (with_reducible assumption) | assumption) : ji5.toNat ≤ 35184372088832)) (by omega)) (Below.refl _ _) (Nat.le_refl _) ?_; intro v123 w18 ho19 hb hg_ hnew_; clear hg_ hnew_; (first | rw [← Ny122.out] at ho19 | (simp only [Int.reduceToNat] at ho19; rw [← Ny122.out] at ho19)); have n0_ := Az0.mk (Kd.S_elder' (by (with_reducible repeat (first | apply Kd.S_alloc | apply Kd.S_drewN | apply Kd.S_drew)); exact HO_8.out) (Kd.R_base ho19) hb); have n1_ := Az0.mk (Kd.R_lower ho19 (below_size (by repeat (first | (with_reducible first | exact HB.out | apply baA_ | apply pbN_ | apply bD1_ | refine below_set ?_ GE118.out) | exact HB.out)))); have n2_ := Az0.mk (blk_below (g := gb118) (o := .cells #[.int .i64 a0, .slice A1 l1.length c1, .map mr118] 70 (0, 0)) (by (with_reducible repeat (first | refine blk_drewN ?_ _ | refine blk_drew ?_ | refine blk_alloc ?_ _)); exact BK118.out) hb); have n3_ := Az0.mk (below_step (by repeat (first | (with_reducible first | exact HB.out | apply baA_ | apply pbN_ | apply bD1_ | refine below_set ?_ GE118.out) | exact HB.out)) hb); clear HO_8; clear BK118; clear HB; have HO_8 := n0_; have HO124 := n1_; have BK118 := n2_; have HB := n3_; clear n0_ n1_ n2_ n3_; clear hb ho19; have p17 : 0 ≤ (x26_1 : Int) := of_decide_eq_true (by first | (with_reducible assumption) | assumption); have q17 : (x26_1 : Int) < ((x8_1.length : Int) : Int) := of_decide_eq_true (by first | (with_reducible assumption) | assumption); obtain ⟨go17, co17, eo17, gb17, gl17, cl17, HG17⟩ := Kd.S_form HO_8.out (by omega); (first | cases eo17 | (injection eo17 with ea_ en_ ec_; (first | subst ea_ | (injection ea_ with ea_; subst ea_)); subst ec_; clear en_)); have GB17 := Az0.mk gb17; have GG17 := Az0.mk HG17; clear gb17 gl17 HG17; obtain ⟨_, ce17, hcl17, hM17, hcc17, hfr17, _, _⟩ := Kd.S_elem HO_8.out [] (x26_1 : Int) p17 q17; obtain ⟨ve17_0, rfl, ge17_0⟩ := hM17; have hx17_0 := hcc17 0 _ rfl; have hf17_0 := hfr17 0; (try simp only [show ((Kd.slice 3 (Kd.int .i64))).sz = 1 from rfl, Nat.mul_one, Nat.add_zero] at hx17_0); (try simp only [show ((Kd.slice 3 (Kd.int .i64))).sz = 1 from rfl, Nat.mul_one, Nat.add_zero] at hf17_0); (try clear hcl17); (try clear hcc17); (try clear hfr17); (try clear hM17); replace p17 := eq_true p17; replace q17 := eq_true q17; have n_ := Az0.mk (Kd.S_mono (ok' := (fun k_ => some k_ ≠ (v123 : Value).ownBlock)) HO_8.out (fun k_ hk => hk.2)); clear HO_8; have HO_8 := n_; clear n_; have HX20 := Az0.mk (show Kd.S (Kd.slice 3 (Kd.int .i64)) 28 w18 w.heap.size (fun k_ => ((fun _ => True)) k_ ∧ ¬ ((fun k_ => some k_ = (v123 : Value).ownBlock)) k_) (.slice (some ⟨go17, 0, none⟩) x8_1.length co11) x8_1 from (by (with_reducible repeat (first | apply Kd.S_alloc | apply Kd.S_drewN | apply Kd.S_drew)); exact Kd.S_mono HO_8.out (fun k_ hk => ⟨trivial, fun e_ => hk e_⟩))); obtain ⟨oki20, ce20, hcl20, hM20, hcc20, hfr20, hoki20, hH20⟩ := Kd.S_elem HX20.out [] (x26_1 : Int) (of_decide_eq_true (by first | (with_reducible assumption) | assumption)) (by have h_ : (x26_1 : Int) < ((x8_1.length : Int) : Int) := of_decide_eq_true (by first | (with_reducible assumption) | assumption); first | exact h_ | (have e_ := (Kd.S_reads' HO_8.out).1; omega) | simpa using h_); obtain ⟨ve20_0, rfl, ge20_0⟩ := hM20; have HP20 := Kd.S_seg hH20 (of_decide_eq_true (by first | (with_reducible assumption) | assumption)) (by have h_ : (x26_1 : Int) < ((x8_1.length : Int) : Int) := of_decide_eq_true (by first | (with_reducible assumption) | assumption); first | exact h_ | (have e_ := (Kd.S_reads' HO_8.out).1; omega) | simpa using h_) (seg := [v123]) (j := 0) (show 1 ≤ 1 from by decide) (x' := y122) (Kd.M_row (Kd.R_mono (Kd.R_tight rfl (Kd.R_mono (ok' := fun k_ => ((fun _ => True)) k_ ∧ k_ ≠ go17) (Kd.R_apart' (HO124.out) (Kd.S_typed HO_8.out) (by decide)) (fun k_ hk => ⟨trivial, fun e_ => (hk.2) (by rw [e_]; rfl)⟩))) (fun _ h_ => Or.inr (h_)))) (fun _ hk => hk) (fun k_ hk_ => ((Kd.R_mono (ok' := fun k_ => ((fun _ => True)) k_ ∧ k_ ≠ go17) (Kd.R_apart' (HO124.out) (Kd.S_typed HO_8.out) (by decide)) (fun k_ hk => ⟨trivial, fun e_ => (hk.2) (by rw [e_]; rfl)⟩))).1 k_ hk_.symm); have hx20_0 := hcc20 0 _ rfl; (try simp only [show ((Kd.slice 3 (Kd.int .i64))).sz = 1 from rfl, Nat.mul_one, Nat.add_zero] at hx20_0); have hf20_0 := hfr20 0; (try simp only [show ((Kd.slice 3 (Kd.int .i64))).sz = 1 from rfl, Nat.mul_one, Nat.add_zero] at hf20_0); (try clear hcl20); (try clear hcc20); (try clear hfr20); (try clear hM20); (try clear hoki20); (try clear hH20); (try simp only [show ((Kd.slice 3 (Kd.int .i64))).sz = 1 from rfl, Nat.mul_one, Nat.add_zero] at HP20)) | ((with_reducible refine gate_store (t := 28) (p := 34) rfl ?_); refine store_event (t := 28) (p := 34) (v := ?vo_w21) (w1 := (w18.setCell ⟨go17, (x26_1 : Int).toNat, none⟩ (v123))) ?hg ?ho ?hn ?hr ?_; (case ho => rfl); (case hg => rfl); (case hn => rfl); (case hr => first | (go_simp; done) | (go_simp; rfl) | (obtain ⟨A_, c_, e_⟩ := Kd.R_slice HO124.out; rw [e_]; first | (go_simp; done) | (go_simp; rfl))); intro w21 hw; have hg : w18.grownBy w21 (some go17) := (by rw [hw]; exact HP20.2); have hp_ : Kd.S (Kd.slice 3 (Kd.int .i64)) 28 w21 w.heap.size (fun _ => True) (.slice (some ⟨go17, 0, none⟩) x8_1.length co11) y125 := (by rw [hw, Ny125.out]; exact HP20.1); clear HP20; have n0_ := Az0.mk (hp_); have n1_ := Az0.mk (blk_grown (g := gb118) (o := .cells #[.int .i64 a0, .slice A1 l1.length c1, .map mr118] 70 (0, 0)) (by (with_reducible repeat (first | refine blk_drewN ?_ _ | refine blk_drew ?_ | refine blk_alloc ?_ _)); exact BK118.out) hg (Kd.S_ne HO_8.out BK118.out (by decide))); have n2_ := Az0.mk ((by rw [hw]; exact below_set (HB.out) GB17.out : Below w.heap.size w w21)); clear HO_8; clear BK118; clear HB; clear HO124; have HO_8 := n0_; have BK118 := n1_; have HB := n2_; clear n0_ n1_ n2_; clear hg hw hp_))
           (try simp only [← hl8_1])
           go_roundg k1
           case measure => have := HK1.out; omega
           case rel => exact ⟨(y125), (wrap64 (x26_1 + 1)), (by first | rfl | (simp; done) | (simp [*]; done)), H', ⟨by have := HK1.out; omega⟩, ⟨by (try simp only [hl8_1]); (with_reducible repeat (first | apply Kd.S_alloc | apply Kd.S_drewN | apply Kd.S_drew)); exact HO_8.out⟩, ⟨by (try simp only [hl8_1]); (with_reducible repeat (first | refine blk_drewN ?_ _ | refine blk_drew ?_ | refine blk_alloc ?_ _)); exact BK118.out⟩, ⟨by repeat (first | (with_reducible first | exact HB.out | apply baA_ | apply pbN_ | apply bD1_ | refine below_set ?_ GE118.out) | exact HB.out)⟩⟩
          ·rw [if_neg c16] at H
           exact absurd H (by simp)
         ·rw [if_neg c15] at H
          exact absurd H (by simp)
        ·rw [if_neg c14] at H
         exact absurd H (by simp)
       ·rw [if_neg c13] at H
        exact absurd H (by simp)
      ·rw [if_neg c12] at H
       have c12b0 : decide (x26_1 < (y119.length : Int)) = false := decide_eq_false c12
       (try (have c12b0l := c12b0; simp only [hl8_1] at c12b0l))
       clear c12
       have H' := Az0.mk H
       clear H
       have hcz22_0 : wr.cell? ⟨gb118, 0, none⟩ = some (.int .i64 a0) := (bkC BK118.out 0).trans rfl
       have hcz22_1 : wr.cell? ⟨gb118, 1, none⟩ = some (.slice A1 l1.length c1) := (bkC BK118.out 1).trans rfl
       have hcz22_2 : wr.cell? ⟨gb118, 2, none⟩ = some (.map mr118) := (bkC BK118.out 2).trans rfl
       have hfz22_0 := blk_frozen BK118.out 0
       have hfz22_1 := blk_frozen BK118.out 1
       have hfz22_2 := blk_frozen BK118.out 2
       go_wp2
       go_loopg [41] k1 (fun kq v41 w' => ∃ (x8_2 : List (List Int)) (x41_2 : Int), v41 = .int .i64 x41_2 ∧ Az0 (branch_Count.l1 kq x8_2 l1 (l1.length : Int) x41_2 = some (r1, r2)) ∧ Az0 (kq ≤ k1) ∧ Az0 (Kd.S (Kd.slice 3 (Kd.int .i64)) 28 w' w.heap.size (fun _ => True) (.slice Ao11 x8_1.length co11) x8_2) ∧ Az0 (w'.heap[gb118]? = some (.cells #[.int .i64 a0, (.slice A1 l1.length c1), .map mr118] 70 (0, 0))) ∧ Az0 (Below w.heap.size w w'))
       case atStart => exact ⟨(x8_1), (0), (by first | rfl | (simp; done) | (simp [*]; done)), H', ⟨Nat.le_refl _⟩, ⟨by (try simp only [hl8_1]); (with_reducible repeat (first | apply Kd.S_alloc | apply Kd.S_drewN | apply Kd.S_drew)); exact HO_8.out⟩, ⟨by (try simp only [hl8_1]); (with_reducible repeat (first | refine blk_drewN ?_ _ | refine blk_drew ?_ | refine blk_alloc ?_ _)); exact BK118.out⟩, ⟨by repeat (first | (with_reducible first | exact HB.out | apply baA_ | apply pbN_ | apply bD1_ | refine below_set ?_ GE118.out) | exact HB.out)⟩⟩
       case round =>
        clear H'
        try clear c1
        try clear p1
        try clear q1
        try clear hx1
        try clear c2
        try clear p2
        try clear hx2
        try clear hf2
        try clear c4
        try clear c4b0
        try clear c4b1
        try clear c6
        try clear c6b0
        try clear c6b1
        try clear p6
        try clear c7
        try clear c7b0
        try clear c7b1
        try clear c12
        try clear c12b0
        try clear c13
        try clear c13b0
        try clear c13b1
        try clear c14
        try clear c14b0
        try clear c14b1
        try clear c15
        try clear c15b0
        try clear c16
        try clear c16b0
        try clear c17
        try clear p17
        try clear q17
        try clear hx17
        try clear hf17
        try clear c18
        try clear c20
        try clear hx20
        try clear hf20
        try clear hcz22_0
        try clear hcz22_1
        try clear hcz22_2
        try clear hfz22_0
        try clear hfz22_1
        try clear hfz22_2
        try clear hx17_0
        try clear hx20_0
        try clear p17
        try clear p2
        try clear p6
        try clear q17
        obtain ⟨x8_2, x41_2, rfl, HA, HK2, HO_8, BK118, HB⟩ := hrel
        have hl8_2 := (Kd.S_reads' HO_8.out).1
        rw [hl8_2] at HO_8
        (try simp only [hl8_2])
        (try simp only [hl8_2] at BK118)
        cases gk with
        | zero => exact absurd HA.out (by simp [branch_Count.l1])
        | succ k2 =>
         have H := HA.out
         clear HA
         simp only [branch_Count.l1] at H
         by_cases c23 : x41_2 < (l1.length : Int)
         ·rw [if_pos c23] at H
          have c23b0 : decide (x41_2 < (l1.length : Int)) = true := decide_eq_true c23
          (try (have c23b0l := c23b0; simp only [hl8_1] at c23b0l))
          (try (have c23b0l := c23b0; simp only [hl8_2] at c23b0l))
          clear c23
          by_cases c24 : 0 ≤ x41_2
          ·rw [if_pos c24] at H
           have c24b0 : decide (0 ≤ x41_2) = true := decide_eq_true c24
           clear c24
           by_cases c25 : x41_2 < (l1.length : Int)
           ·rw [if_pos c25] at H
            have c25b0 : decide (x41_2 < (l1.length : Int)) = true := decide_eq_true c25
            (try (have c25b0l := c25b0; simp only [hl8_1] at c25b0l))
            (try (have c25b0l := c25b0; simp only [hl8_2] at c25b0l))
            clear c25
            by_cases c26 : ((rdT l1 x41_2).f1) > 0
            ·rw [if_pos c26] at H
             have c26b0 : decide (0 < ((rdT l1 x41_2).f1)) = true := decide_eq_true c26
             clear c26
             obtain ⟨ji27, hji27⟩ : ∃ j_ : Int, (wrap64 (((rdT l1 x41_2).f1) - 1)) = j_ := ⟨_, rfl⟩
             replace H : (if 0 ≤ (ji27) then (if (ji27) < (x8_2.length : Int) then (if (ji27) < ((rd_L12 x8_2 (ji27)).length : Int) then ((some (x8_2.set ((ji27) : Int).toNat ((rd_L12 x8_2 (ji27)).set ((ji27) : Int).toNat (wrap64 ((rd (rd_L12 x8_2 (ji27)) (ji27)) + 1))) : List (List Int))).bind fun y133 => (if ((rdT l1 x41_2).f0) > 0 then (if 0 ≤ (wrap64 (((rdT l1 x41_2).f0) - 1)) then (if (wrap64 (((rdT l1 x41_2).f0) - 1)) < (x8_2.length : Int) then (if (ji27) < ((rd_L12 y133 (wrap64 (((rdT l1 x41_2).f0) - 1))).length : Int) then (branch_Count.l1 k2 (y133.set ((wrap64 (((rdT l1 x41_2).f0) - 1)) : Int).toNat ((rd_L12 y133 (wrap64 (((rdT l1 x41_2).f0) - 1))).set ((ji27) : Int).toNat (wrap64 ((rd (rd_L12 y133 (wrap64 (((rdT l1 x41_2).f0) - 1))) (ji27)) - 1)))) l1 (l1.length : Int) (wrap64 (x41_2 + 1))) else (none)) else (none)) else (none)) else (branch_Count.l1 k2 y133 l1 (l1.length : Int) (wrap64 (x41_2 + 1))))) else (none)) else (none)) else (none)) = some (r1, r2) := by first | (rw [hji27] at H; exact H) | (simp only [hji27] at H ⊢; exact H)
             have hji27w : (IntKind.i64.wrap (((rdT l1 x41_2).f1) - 1)) = ji27 := (i64_w _).trans hji27
             by_cases c28 : 0 ≤ (ji27)
             ·rw [if_pos c28] at H
              have c28b0 : decide (0 ≤ (ji27)) = true := decide_eq_true c28
              clear c28
              by_cases c29 : (ji27) < (x8_2.length : Int)
              ·rw [if_pos c29] at H
               have c29b0 : decide ((ji27) < (x8_2.length : Int)) = true := decide_eq_true c29
               (try (have c29b0l := c29b0; simp only [hl8_1] at c29b0l))
               (try (have c29b0l := c29b0; simp only [hl8_2] at c29b0l))
               clear c29
               by_cases c30 : (ji27) < ((rd_L12 x8_2 (ji27)).length : Int)
               ·rw [if_pos c30] at H
                have c30b0 : decide ((ji27) < ((rd_L12 x8_2 (ji27)).length : Int)) = true := decide_eq_true c30
                (try (have c30b0l := c30b0; simp only [hl8_1] at c30b0l))
                (try (have c30b0l := c30b0; simp only [hl8_2] at c30b0l))
                clear c30
                obtain ⟨y131, hy131⟩ : ∃ y_ : List Int, y_ = ((rd_L12 x8_2 (ji27)).set ((ji27) : Int).toNat (wrap64 ((rd (rd_L12 x8_2 (ji27)) (ji27)) + 1))) := ⟨_, rfl⟩
                replace H : ((some (x8_2.set ((ji27) : Int).toNat y131 : List (List Int))).bind fun y133 => (if ((rdT l1 x41_2).f0) > 0 then (if 0 ≤ (wrap64 (((rdT l1 x41_2).f0) - 1)) then (if (wrap64 (((rdT l1 x41_2).f0) - 1)) < (x8_2.length : Int) then (if (ji27) < ((rd_L12 y133 (wrap64 (((rdT l1 x41_2).f0) - 1))).length : Int) then (branch_Count.l1 k2 (y133.set ((wrap64 (((rdT l1 x41_2).f0) - 1)) : Int).toNat ((rd_L12 y133 (wrap64 (((rdT l1 x41_2).f0) - 1))).set ((ji27) : Int).toNat (wrap64 ((rd (rd_L12 y133 (wrap64 (((rdT l1 x41_2).f0) - 1))) (ji27)) - 1)))) l1 (l1.length : Int) (wrap64 (x41_2 + 1))) else (none)) else (none)) else (none)) else (branch_Count.l1 k2 y133 l1 (l1.length : Int) (wrap64 (x41_2 + 1))))) = some (r1, r2) := by first | (rw [hy131]; with_reducible exact H) | (have H2_ := (Option.bind_some _ _).symm.trans H; rw [hy131]; with_reducible exact H2_) | (have H2_ := (Option.bind_some _ _).symm.trans H; with_reducible exact H2_) | with_reducible exact H | (rw [hy131]; exact H) | exact H
                have Ny131 := Az0.mk hy131
                clear hy131
                obtain ⟨y133, hy133⟩ : ∃ y_ : List (List Int), y_ = (x8_2.set ((ji27) : Int).toNat y131) := ⟨_, rfl⟩
                replace H : (if ((rdT l1 x41_2).f0) > 0 then (if 0 ≤ (wrap64 (((rdT l1 x41_2).f0) - 1)) then (if (wrap64 (((rdT l1 x41_2).f0) - 1)) < (x8_2.length : Int) then (if (ji27) < ((rd_L12 y133 (wrap64 (((rdT l1 x41_2).f0) - 1))).length : Int) then (branch_Count.l1 k2 (y133.set ((wrap64 (((rdT l1 x41_2).f0) - 1)) : Int).toNat ((rd_L12 y133 (wrap64 (((rdT l1 x41_2).f0) - 1))).set ((ji27) : Int).toNat (wrap64 ((rd (rd_L12 y133 (wrap64 (((rdT l1 x41_2).f0) - 1))) (ji27)) - 1)))) l1 (l1.length : Int) (wrap64 (x41_2 + 1))) else (none)) else (none)) else (none)) else (branch_Count.l1 k2 y133 l1 (l1.length : Int) (wrap64 (x41_2 + 1)))) = some (r1, r2) := by first | (rw [hy133]; with_reducible exact H) | (have H2_ := (Option.bind_some _ _).symm.trans H; rw [hy133]; with_reducible exact H2_) | (have H2_ := (Option.bind_some _ _).symm.trans H; with_reducible exact H2_) | with_reducible exact H | (rw [hy133]; exact H) | exact H
                have Ny133 := Az0.mk hy133
                clear hy133
                by_cases c32 : ((rdT l1 x41_2).f0) > 0
                ·rw [if_pos c32] at H
                 have c32b0 : decide (0 < ((rdT l1 x41_2).f0)) = true := decide_eq_true c32
                 clear c32
                 obtain ⟨ji33, hji33⟩ : ∃ j_ : Int, (wrap64 (((rdT l1 x41_2).f0) - 1)) = j_ := ⟨_, rfl⟩
                 replace H : (if 0 ≤ (ji33) then (if (ji33) < (x8_2.length : Int) then (if (ji27) < ((rd_L12 y133 (ji33)).length : Int) then (branch_Count.l1 k2 (y133.set ((ji33) : Int).toNat ((rd_L12 y133 (ji33)).set ((ji27) : Int).toNat (wrap64 ((rd (rd_L12 y133 (ji33)) (ji27)) - 1)))) l1 (l1.length : Int) (wrap64 (x41_2 + 1))) else (none)) else (none)) else (none)) = some (r1, r2) := by first | (rw [hji33] at H; exact H) | (simp only [hji33] at H ⊢; exact H)
                 have hji33w : (IntKind.i64.wrap (((rdT l1 x41_2).f0) - 1)) = ji33 := (i64_w _).trans hji33
                 by_cases c34 : 0 ≤ (ji33)
                 ·rw [if_pos c34] at H
                  have c34b0 : decide (0 ≤ (ji33)) = true := decide_eq_true c34
                  clear c34
                  by_cases c35 : (ji33) < (x8_2.length : Int)
                  ·rw [if_pos c35] at H
                   have c35b0 : decide ((ji33) < (x8_2.length : Int)) = true := decide_eq_true c35
                   (try (have c35b0l := c35b0; simp only [hl8_1] at c35b0l))
                   (try (have c35b0l := c35b0; simp only [hl8_2] at c35b0l))
                   clear c35
                   by_cases c36 : (ji27) < ((rd_L12 y133 (ji33)).length : Int)
                   ·rw [if_pos c36] at H
                    have c36b0 : decide ((ji27) < ((rd_L12 y133 (ji33)).length : Int)) = true := decide_eq_true c36
                    (try (have c36b0l := c36b0; simp only [hl8_1] at c36b0l))
                    (try (have c36b0l := c36b0; simp only [hl8_2] at c36b0l))
                    clear c36
                    obtain ⟨y136, hy136⟩ : ∃ y_ : List Int, y_ = ((rd_L12 y133 (ji33)).set ((ji27) : Int).toNat (wrap64 ((rd (rd_L12 y133 (ji33)) (ji27)) - 1))) := ⟨_, rfl⟩
                    replace H : (branch_Count.l1 k2 (y133.set ((ji33) : Int).toNat y136) l1 (l1.length : Int) (wrap64 (x41_2 + 1))) = some (r1, r2) := by first | (rw [hy136]; with_reducible exact H) | (have H2_ := (Option.bind_some _ _).symm.trans H; rw [hy136]; with_reducible exact H2_) | (have H2_ := (Option.bind_some _ _).symm.trans H; with_reducible exact H2_) | with_reducible exact H | (rw [hy136]; exact H) | exact H
                    have Ny136 := Az0.mk hy136
                    clear hy136
                    obtain ⟨y138, hy138⟩ : ∃ y_ : List (List Int), y_ = (y133.set ((ji33) : Int).toNat y136) := ⟨_, rfl⟩
                    replace H : (branch_Count.l1 k2 y138 l1 (l1.length : Int) (wrap64 (x41_2 + 1))) = some (r1, r2) := by first | (rw [hy138]; with_reducible exact H) | (have H2_ := (Option.bind_some _ _).symm.trans H; rw [hy138]; with_reducible exact H2_) | (have H2_ := (Option.bind_some _ _).symm.trans H; with_reducible exact H2_) | with_reducible exact H | (rw [hy138]; exact H) | exact H
                    have Ny138 := Az0.mk hy138
                    clear hy138
                    have H' := Az0.mk H
                    clear H
                    have p127 : 0 ≤ (x41_2 : Int) := of_decide_eq_true (by first | (with_reducible assumption) | assumption)
                    have q127 : x41_2 < (l1.length : Int) := of_decide_eq_true (by first | (with_reducible assumption) | assumption)
                    obtain ⟨ad127, e127, hx127_0, hx127_1, hx127_2⟩ := at_T30 HR1.out x41_2 p127 q127
                    cases e127
                    replace hx127_0 := (HB.out.cell (World.block_lt_of_cell? w _ hx127_0)).trans hx127_0
                    replace hx127_1 := (HB.out.cell (World.block_lt_of_cell? w _ hx127_1)).trans hx127_1
                    replace hx127_2 := (HB.out.cell (World.block_lt_of_cell? w _ hx127_2)).trans hx127_2
                    replace p127 := eq_true p127
                    replace q127 := eq_true q127
                    try go_wp2_with (first | ((with_reducible refine gate_dst (N := 11) rfl ?_); refine box_event ?hg (N := 11) ?hd (cs := #[.int .i64 0, .int .i64 0, .int .i64 0]) (t := 30) ?hr ?_; (case hd => rfl); (case hg => rfl); (case hr => first | (go_simp; done) | (go_simp; rfl)); intro gb128 hg w38 hbox hb; have n0_ := Az0.mk (Kd.S_below (by (with_reducible repeat (first | apply Kd.S_alloc | apply Kd.S_drewN | apply Kd.S_drew)); exact HO_8.out) hb); have n1_ := Az0.mk (blk_below (g := gb118) (o := .cells #[.int .i64 a0, .slice (some ad127) l1.length c1, .map mr118] 70 (0, 0)) (by (with_reducible repeat (first | refine blk_drewN ?_ _ | refine blk_drew ?_ | refine blk_alloc ?_ _)); exact BK118.out) hb); have n2_ := Az0.mk (below_step (by repeat (first | (with_reducible first | exact HB.out | apply baA_ | apply pbN_ | apply bD1_ | refine below_set ?_ GE118.out) | exact HB.out)) hb); have n3_ := Az0.mk (hbox); have n4_ := Az0.mk ((by rw [hg]; exact (below_size (by repeat (first | (with_reducible first | exact HB.out | apply baA_ | apply pbN_ | apply bD1_ | refine below_set ?_ GE118.out) | exact HB.out))) : w.heap.size ≤ gb128)); have n5_ := Az0.mk ((by rw [hg]; exact (below_size (by repeat (first | (with_reducible first | exact HB.out | apply baA_ | apply pbN_ | apply bD1_ | refine below_set ?_ GE118.out) | exact HB.out))) : w.heap.size ≤ gb128)); have n6_ := Az0.mk ((by rw [hg]; exact Nat.ne_of_lt (blk_lt (g := gb118) (o := .cells #[.int .i64 a0, .slice (some ad127) l1.length c1, .map mr118] 70 (0, 0)) (by (with_reducible repeat (first | refine blk_drewN ?_ _ | refine blk_drew ?_ | refine blk_alloc ?_ _)); exact BK118.out)) : gb118 ≠ gb128)); have n7_ := Az0.mk ((by rw [hg]; exact Nat.ne_of_gt (blk_lt (g := gb118) (o := .cells #[.int .i64 a0, .slice (some ad127) l1.length c1, .map mr118] 70 (0, 0)) (by (with_reducible repeat (first | refine blk_drewN ?_ _ | refine blk_drew ?_ | refine blk_alloc ?_ _)); exact BK118.out)) : gb128 ≠ gb118)); clear HO_8; clear BK118; clear HB; have HO_8 := n0_; have BK118 := n1_; have HB := n2_; have BK128 := n3_; have GW128 := n4_; have GE128 := n5_; have NB118_128 := n6_; have NB128_118 := n7_; clear n0_ n1_ n2_ n3_ n4_ n5_ n6_ n7_; clear hb hbox hg; have hnb39 := NB128_118.out; have hnc39 := NB118_128.out; have hcz40_0 : w38.cell? ⟨gb128, 0, none⟩ = some (.int .i64 0) := (bkC BK128.out 0).trans rfl; have hcz40_1 : w38.cell? ⟨gb128, 1, none⟩ = some (.int .i64 0) := (bkC BK128.out 1).trans rfl; have hcz40_2 : w38.cell? ⟨gb128, 2, none⟩ = some (.int .i64 0) := (bkC BK128.out 2).trans rfl; have hfz40_0 := blk_frozen BK128.out 0; have hfz40_1 := blk_frozen BK128.out 1; have hfz40_2 := blk_frozen BK128.out 2))
                    have n0_ : Az0 (Kd.S (Kd.slice 3 (Kd.int .i64)) 28 (((w38.setCell ⟨gb128, 0, none⟩ (.int .i64 ((rdT l1 x41_2).f0))).setCell ⟨gb128, 1, none⟩ (.int .i64 ((rdT l1 x41_2).f1))).setCell ⟨gb128, 2, none⟩ (.int .i64 ((rdT l1 x41_2).f2))) w.heap.size (fun _ => True) (.slice Ao11 x8_2.length co11) x8_2) := ⟨by (with_reducible repeat (first | apply Kd.S_alloc | apply Kd.S_drewN | apply Kd.S_drew)); exact Kd.S_mono (Kd.S_far (p := ⟨gb128, 2, none⟩) (Kd.S_far (p := ⟨gb128, 1, none⟩) (Kd.S_far (p := ⟨gb128, 0, none⟩) (Kd.S_types HO_8.out BK128.out (by decide)) (fun _ hk => hk.2) (.int .i64 ((rdT l1 x41_2).f0))) (fun _ hk => hk.2) (.int .i64 ((rdT l1 x41_2).f1))) (fun _ hk => hk.2) (.int .i64 ((rdT l1 x41_2).f2))) (fun _ hk => trivial)⟩
                    have n1_ : Az0 ((((w38.setCell ⟨gb128, 0, none⟩ (.int .i64 ((rdT l1 x41_2).f0))).setCell ⟨gb128, 1, none⟩ (.int .i64 ((rdT l1 x41_2).f1))).setCell ⟨gb128, 2, none⟩ (.int .i64 ((rdT l1 x41_2).f2))).heap[gb118]? = some (.cells #[.int .i64 a0, .slice (some ad127) l1.length c1, .map mr118] 70 (0, 0))) := ⟨by (with_reducible repeat (first | refine blk_drewN ?_ _ | refine blk_drew ?_ | refine blk_alloc ?_ _)); refine blk_far ?_ NB118_128.out _; (with_reducible repeat (first | refine blk_drewN ?_ _ | refine blk_drew ?_ | refine blk_alloc ?_ _)); refine blk_far ?_ NB118_128.out _; (with_reducible repeat (first | refine blk_drewN ?_ _ | refine blk_drew ?_ | refine blk_alloc ?_ _)); refine blk_far ?_ NB118_128.out _; (with_reducible repeat (first | refine blk_drewN ?_ _ | refine blk_drew ?_ | refine blk_alloc ?_ _)); exact BK118.out⟩
                    have n2_ : Az0 ((((w38.setCell ⟨gb128, 0, none⟩ (.int .i64 ((rdT l1 x41_2).f0))).setCell ⟨gb128, 1, none⟩ (.int .i64 ((rdT l1 x41_2).f1))).setCell ⟨gb128, 2, none⟩ (.int .i64 ((rdT l1 x41_2).f2))).heap[gb128]? = some (.cells #[.int .i64 ((rdT l1 x41_2).f0), .int .i64 ((rdT l1 x41_2).f1), .int .i64 ((rdT l1 x41_2).f2)] 30 (0, 0))) := ⟨by (with_reducible repeat (first | refine blk_drewN ?_ _ | refine blk_drew ?_ | refine blk_alloc ?_ _)); refine blk_put (cs := #[.int .i64 ((rdT l1 x41_2).f0), .int .i64 ((rdT l1 x41_2).f1), .int .i64 0]) ?_ 2 _ rfl; (with_reducible repeat (first | refine blk_drewN ?_ _ | refine blk_drew ?_ | refine blk_alloc ?_ _)); refine blk_put (cs := #[.int .i64 ((rdT l1 x41_2).f0), .int .i64 0, .int .i64 0]) ?_ 1 _ rfl; (with_reducible repeat (first | refine blk_drewN ?_ _ | refine blk_drew ?_ | refine blk_alloc ?_ _)); refine blk_put (cs := #[.int .i64 0, .int .i64 0, .int .i64 0]) ?_ 0 _ rfl; (with_reducible repeat (first | refine blk_drewN ?_ _ | refine blk_drew ?_ | refine blk_alloc ?_ _)); exact BK128.out⟩
                    have n3_ : Az0 (Below w.heap.size w (((w38.setCell ⟨gb128, 0, none⟩ (.int .i64 ((rdT l1 x41_2).f0))).setCell ⟨gb128, 1, none⟩ (.int .i64 ((rdT l1 x41_2).f1))).setCell ⟨gb128, 2, none⟩ (.int .i64 ((rdT l1 x41_2).f2)))) := ⟨by repeat (first | (with_reducible first | exact HB.out | apply baA_ | apply pbN_ | apply bD1_ | refine below_set ?_ GE118.out | refine below_set ?_ GE128.out) | exact HB.out)⟩
                    (try clear HO_8)
                    (try clear BK118)
                    (try clear BK128)
                    (try clear HB)
                    generalize (((w38.setCell ⟨gb128, 0, none⟩ (.int .i64 ((rdT l1 x41_2).f0))).setCell ⟨gb128, 1, none⟩ (.int .i64 ((rdT l1 x41_2).f1))).setCell ⟨gb128, 2, none⟩ (.int .i64 ((rdT l1 x41_2).f2))) = w41 at n0_ n1_ n2_ n3_ ⊢
                    have HO_8 := n0_
                    have BK118 := n1_
                    have BK128 := n2_
                    have HB := n3_
                    clear n0_ n1_ n2_ n3_
                    have n0_ := Az0.mk (Kd.S_drew HO_8.out)
                    have n1_ := Az0.mk (blk_drew BK118.out)
                    have n2_ := Az0.mk (blk_drew BK128.out)
                    have n3_ := Az0.mk (bD1_ HB.out)
                    clear HO_8
                    clear BK118
                    clear BK128
                    clear HB
                    have HO_8 := n0_
                    have BK118 := n1_
                    have BK128 := n2_
                    have HB := n3_
                    clear n0_ n1_ n2_ n3_
                    have p129 : 0 ≤ ((ji27) : Int) := of_decide_eq_true (by first | (with_reducible assumption) | assumption)
                    have q129 : (ji27) < (x8_2.length : Int) := of_decide_eq_true (by first | (with_reducible assumption) | assumption)
                    obtain ⟨ad129, A129_0, c129_0, e129, hx129_0, hl129_0, hi129_0⟩ := at_L12 (Kd.S_reads' HO_8.out).2.2 (ji27) p129 q129
                    cases e129
                    obtain ⟨ce129, hce129, hMe129, hcc129⟩ := Kd.S_get HO_8.out [] (ji27) p129 (by first | exact q129 | exact of_decide_eq_true (by first | (with_reducible assumption) | assumption) | (have e_ := (Kd.S_reads' HO_8.out).1; omega))
                    obtain ⟨ve129_0, rfl, ge129_0⟩ := hMe129
                    have hv129_0 := hcc129 0 _ rfl
                    rw [Nat.add_zero, show ((Kd.slice 3 (Kd.int .i64))).sz = 1 from rfl, Nat.mul_one] at hv129_0
                    replace hv129_0 := Option.some.inj (hv129_0.symm.trans hx129_0)
                    rw [hv129_0] at ge129_0
                    have HL129_0 := Az0.mk (show Kd.R (Kd.int .i64) 3 _ _ _ _ (rd_L12 x8_2 (ji27)) from ge129_0)
                    clear hv129_0 ge129_0
                    have HX129_0 := Az0.mk hx129_0
                    clear hcc129 hce129
                    have HR129_0 := Az0.mk hi129_0
                    have HC129_0 := Az0.mk hl129_0
                    clear hi129_0 hl129_0
                    replace p129 := eq_true p129
                    replace q129 := eq_true q129
                    have p130 : 0 ≤ ((ji27) : Int) := of_decide_eq_true (by first | (with_reducible assumption) | assumption)
                    have q130 : (ji27) < ((rd_L12 x8_2 (ji27)).length : Int) := of_decide_eq_true (by first | (with_reducible assumption) | assumption)
                    obtain ⟨ad130, e130, hx130_0⟩ := Kd.at_int (by repeat (first | (with_reducible exact HR129_0.out) | (with_reducible refine Kd.C_alloc ?_ _) | (with_reducible refine Kd.C_drewN ?_ _) | (with_reducible refine Kd.C_drew ?_) | exact HR129_0.out)) (ji27) p130 q130
                    cases e130
                    replace p130 := eq_true p130
                    replace q130 := eq_true q130
                    have p31 : 0 ≤ ((ji27) : Int) := of_decide_eq_true (by first | (with_reducible assumption) | assumption)
                    have q31 : ((ji27) : Int) < (((rd_L12 x8_2 (ji27)).length : Int) : Int) := of_decide_eq_true (by first | (with_reducible assumption) | assumption)
                    obtain ⟨go31, co31, eo31, gb31, gl31, cl31, HG31⟩ := Kd.R_form HL129_0.out (by omega)
                    (first | cases eo31 | (injection eo31 with ea_ en_ ec_; (first | subst ea_ | (injection ea_ with ea_; subst ea_)); subst ec_; clear en_))
                    have GB31 := Az0.mk gb31
                    have GG31 := Az0.mk HG31
                    clear gb31 gl31 HG31
                    (first | simp only [add_plain] at hx130_0 | skip)
                    obtain ⟨hx31_0, hf31_0⟩ := Kd.R_celln 0 HL129_0.out ((ji27) : Int) p31 q31
                    replace p31 := eq_true p31
                    replace q31 := eq_true q31
                    have hq43 : ((ji27) : Int) < (x8_2.length : Int) := (by have h_ : ((ji27) : Int) < ((x8_2.length : Int) : Int) := of_decide_eq_true (by first | (with_reducible assumption) | assumption); first | exact h_ | (have e_ := (Kd.S_reads' HO_8.out).1; omega) | simpa only [List.length_set, List.length_set] using h_)
                    obtain ⟨oki43, ce43, hcl43, hM43, hcc43, hok43, hbk43⟩ := Kd.S_borrow HO_8.out [] ((ji27) : Int) (of_decide_eq_true (by first | (with_reducible assumption) | assumption)) (by first | exact hq43 | (have h_ := hq43; simpa only [List.length_set, List.length_set] using h_))
                    obtain ⟨ve43_0, rfl, ge43_0⟩ := hM43
                    have hv43 := hcc43 0 _ rfl
                    rw [Nat.add_zero, show ((Kd.slice 3 (Kd.int .i64))).sz = 1 from rfl, Nat.mul_one] at hv43
                    replace hv43 := Option.some.inj (hv43.symm.trans HX129_0.out)
                    subst hv43
                    clear hcc43 hcl43
                    replace ge43_0 := (show Kd.R (Kd.int .i64) 3 _ _ _ _ (rd_L12 x8_2 (ji27)) from ge43_0)
                    have HP43 := Kd.R_putg ge43_0 ((ji27) : Int) (wrap64 ((rd (rd_L12 x8_2 (ji27)) (ji27)) + 1))
                    rw [← Ny131.out] at HP43
                    have HS43 := hbk43 HP43.2 (fun k_ e_ => by injection e_ with e_; subst e_; exact ge43_0.1 _ rfl) (x' := y131) (Kd.M_row HP43.1)
                    rw [← Ny133.out] at HS43
                    have HQ43 := Az0.mk HS43
                    clear HP43 HS43 hbk43 hok43
                    refine start_ (n := 14) (S := fun w' => w'.cell? ⟨gb128, 0, none⟩ = some (.int .i64 ((rdT l1 x41_2).f0)) ∧ w'.cell? ⟨gb128, 1, none⟩ = some (.int .i64 ((rdT l1 x41_2).f1)) ∧ w'.cell? ⟨gb128, 2, none⟩ = some (.int .i64 ((rdT l1 x41_2).f2)) ∧ w'.cell? (ad129.add ((ji27)).toNat) = some (.slice (some ⟨go31, 0, none⟩) (rd_L12 x8_2 (ji27)).length c129_0) ∧ w'.cell? ⟨go31, ((ji27)).toNat, none⟩ = some (.int .i64 (rd (rd_L12 x8_2 (ji27)) (ji27)))) (ds := [13]) #[false, false, false, false, false, false, false, false, false, false, false, false, false, false] (by kernel_rfl) rfl rfl ⟨(bkC BK128.out 0).trans rfl, (bkC BK128.out 1).trans rfl, (bkC BK128.out 2).trans rfl, hx129_0, hx130_0⟩ (fun hHeld => ?_); refine with_tabW branch_Count.tab14 branch_Count.bits14 (fun HT_ HW_ => ?_)
                    generalize w41.drew = w42 at HO_8 BK118 BK128 HB GG31 HL129_0 HQ43 HR129_0 HX129_0 hf31_0 hx129_0 hx130_0 hx31_0 hHeld ⊢
                    refine pure_ (i := 0) (N := some 48) (v := ?_) (a' := ?_) #[true, false, false, false, false, false, false, false, false, false, false, false, false, false] rfl rfl (any_of HT_.out (by kernel_rfl)) (fun _ _ _ h => h) (Or.inl ⟨by rfl, ?_⟩) ?_ ?_
                    rotate_left
                    ·intro w'
                     go_simp
                     with_reducible rfl
                    rotate_left
                    ·simp only [Act.put, List.setIfInBounds_toArray, List.set_cons_zero, List.set_cons_succ, i64_w, i32_w]
                     rfl
                    refine pure_ (i := 1) (N := some 49) (v := ?_) (a' := ?_) #[true, true, false, false, false, false, false, false, false, false, false, false, false, false] rfl rfl (any_of HT_.out (by kernel_rfl)) (fun _ _ _ h => h) (Or.inl ⟨by rfl, ?_⟩) ?_ ?_
                    rotate_left
                    ·intro w'
                     go_simp
                     with_reducible rfl
                    rotate_left
                    ·simp only [Act.put, List.setIfInBounds_toArray, List.set_cons_zero, List.set_cons_succ, i64_w, i32_w]
                     rfl
                    refine pure_ (i := 6) (N := some 54) (v := ?_) (a' := ?_) #[true, true, false, false, false, false, true, false, false, false, false, false, false, false] rfl rfl (any_of HT_.out (by kernel_rfl)) (fun _ _ _ h => h) (Or.inl ⟨by rfl, ?_⟩) ?_ ?_
                    rotate_left
                    ·intro w'
                     go_simp
                     with_reducible rfl
                    rotate_left
                    ·simp only [Act.put, List.setIfInBounds_toArray, List.set_cons_zero, List.set_cons_succ, i64_w, i32_w]
                     rfl
                    refine take_ (i := 2) (N := some 50) (v := ?_) (a' := ?_) #[true, true, true, false, false, false, true, false, false, false, false, false, false, false] rfl rfl (take_ofW HT_.out HW_.out (by kernel_rfl)) (fun _ _ _ h => h) (Or.inl ⟨by rfl, ?_⟩) hHeld ?_ ?_
                    rotate_left
                    ·rintro w' ⟨s0, s1, s2, s3, s4⟩
                     go_simp
                     with_reducible rfl
                    rotate_left
                    ·simp only [Act.put, List.setIfInBounds_toArray, List.set_cons_zero, List.set_cons_succ, i64_w, i32_w]
                     rfl
                    refine pure_ (i := 3) (N := some 51) (v := ?_) (a' := ?_) #[true, true, true, true, false, false, true, false, false, false, false, false, false, false] rfl rfl (any_of HT_.out (by kernel_rfl)) (fun _ _ _ h => h) (Or.inl ⟨by rfl, ?_⟩) ?_ ?_
                    rotate_left
                    ·intro w'
                     go_simp
                     with_reducible rfl
                    rotate_left
                    ·simp only [Act.put, List.setIfInBounds_toArray, List.set_cons_zero, List.set_cons_succ, i64_w, i32_w]
                     rfl
                    refine pure_ (i := 4) (N := some 52) (v := ?_) (a' := ?_) #[true, true, true, true, true, false, true, false, false, false, false, false, false, false] rfl rfl (any_of HT_.out (by kernel_rfl)) (fun _ _ _ h => h) (Or.inl ⟨by rfl, ?_⟩) ?_ ?_
                    rotate_left
                    ·intro w'
                     go_simp
                     with_reducible rfl
                    rotate_left
                    ·simp only [Act.put, List.setIfInBounds_toArray, List.set_cons_zero, List.set_cons_succ, i64_w, i32_w]
                     rfl
                    refine take_ (i := 5) (N := some 53) (v := ?_) (a' := ?_) #[true, true, true, true, true, true, true, false, false, false, false, false, false, false] rfl rfl (take_ofW HT_.out HW_.out (by kernel_rfl)) (fun _ _ _ h => h) (Or.inl ⟨by rfl, ?_⟩) hHeld ?_ ?_
                    rotate_left
                    ·rintro w' ⟨s0, s1, s2, s3, s4⟩
                     go_simp
                     with_reducible rfl
                    rotate_left
                    ·simp only [Act.put, List.setIfInBounds_toArray, List.set_cons_zero, List.set_cons_succ, i64_w, i32_w]
                     rfl
                    refine take_ (i := 7) (N := some 55) (v := ?_) (a' := ?_) #[true, true, true, true, true, true, true, true, false, false, false, false, false, false] rfl rfl (take_ofW HT_.out HW_.out (by kernel_rfl)) (fun _ _ _ h => h) (Or.inl ⟨by rfl, ?_⟩) hHeld ?_ ?_
                    rotate_left
                    ·rintro w' ⟨s0, s1, s2, s3, s4⟩
                     go_simp
                     with_reducible rfl
                    rotate_left
                    ·simp only [Act.put, List.setIfInBounds_toArray, List.set_cons_zero, List.set_cons_succ, i64_w, i32_w]
                     rfl
                    refine pure_ (i := 8) (N := some 56) (v := ?_) (a' := ?_) #[true, true, true, true, true, true, true, true, true, false, false, false, false, false] rfl rfl (any_of HT_.out (by kernel_rfl)) (fun _ _ _ h => h) (Or.inl ⟨by rfl, ?_⟩) ?_ ?_
                    rotate_left
                    ·intro w'
                     go_simp
                     with_reducible rfl
                    rotate_left
                    ·simp only [Act.put, List.setIfInBounds_toArray, List.set_cons_zero, List.set_cons_succ, i64_w, i32_w]
                     rfl
                    refine pure_ (i := 9) (N := some 57) (v := ?_) (a' := ?_) #[true, true, true, true, true, true, true, true, true, true, false, false, false, false] rfl rfl (any_of HT_.out (by kernel_rfl)) (fun _ _ _ h => h) (Or.inl ⟨by rfl, ?_⟩) ?_ ?_
                    rotate_left
                    ·intro w'
                     go_simp
                     with_reducible rfl
                    rotate_left
                    ·simp only [Act.put, List.setIfInBounds_toArray, List.set_cons_zero, List.set_cons_succ, i64_w, i32_w]
                     rfl
                    refine take_ (i := 10) (N := some 58) (v := ?_) (a' := ?_) #[true, true, true, true, true, true, true, true, true, true, true, false, false, false] rfl rfl (take_ofW HT_.out HW_.out (by kernel_rfl)) (fun _ _ _ h => h) (Or.inl ⟨by rfl, ?_⟩) hHeld ?_ ?_
                    rotate_left
                    ·rintro w' ⟨s0, s1, s2, s3, s4⟩
                     go_simp
                     with_reducible rfl
                    rotate_left
                    ·simp only [Act.put, List.setIfInBounds_toArray, List.set_cons_zero, List.set_cons_succ, i64_w, i32_w]
                     rfl
                    refine pure_ (i := 11) (N := some 59) (v := ?_) (a' := ?_) #[true, true, true, true, true, true, true, true, true, true, true, true, false, false] rfl rfl (any_of HT_.out (by kernel_rfl)) (fun _ _ _ h => h) (Or.inl ⟨by rfl, ?_⟩) ?_ ?_
                    rotate_left
                    ·intro w'
                     go_simp
                     with_reducible rfl
                    rotate_left
                    ·simp only [Act.put, List.setIfInBounds_toArray, List.set_cons_zero, List.set_cons_succ, i64_w, i32_w]
                     rfl
                    refine pure_ (i := 12) (N := some 60) (v := ?_) (a' := ?_) #[true, true, true, true, true, true, true, true, true, true, true, true, true, false] rfl rfl (any_of HT_.out (by kernel_rfl)) (fun _ _ _ h => h) (Or.inl ⟨by rfl, ?_⟩) ?_ ?_
                    rotate_left
                    ·intro w'
                     go_simp
                     with_reducible rfl
                    rotate_left
                    ·simp only [Act.put, List.setIfInBounds_toArray, List.set_cons_zero, List.set_cons_succ, i64_w, i32_w]
                     rfl
                    refine last_ (i := 13) (N := none) #[true, true, true, true, true, true, true, true, true, true, true, true, true, true] rfl rfl (one_of HT_.out (by kernel_rfl)) (by decide) (fun K hK => ?_)
                    refine skip_ (w1 := ?_) (by rfl) rfl ?_ ?_
                    rotate_left
                    ·go_simp
                     rfl
                    refine hK.out _ _ ?_
                    clear hK K
                    refine done_ (done_of HT_.out (by kernel_rfl)) ?_
                    have n0_ : Az0 (Kd.S (Kd.slice 3 (Kd.int .i64)) 28 (w42.setCell ⟨go31, ((ji27) : Int).toNat, none⟩ (.int .i64 (wrap64 ((rd (rd_L12 x8_2 (ji27)) (ji27)) + 1)))) w.heap.size (fun _ => True) (.slice (some ad129) x8_2.length co11) y133) := ⟨by (with_reducible repeat (first | apply Kd.S_alloc | apply Kd.S_drewN | apply Kd.S_drew)); exact HQ43.out⟩
                    have n1_ : Az0 ((w42.setCell ⟨go31, ((ji27) : Int).toNat, none⟩ (.int .i64 (wrap64 ((rd (rd_L12 x8_2 (ji27)) (ji27)) + 1)))).heap[gb118]? = some (.cells #[.int .i64 a0, .slice (some ad127) l1.length c1, .map mr118] 70 (0, 0))) := ⟨by (with_reducible repeat (first | refine blk_drewN ?_ _ | refine blk_drew ?_ | refine blk_alloc ?_ _)); refine blk_far ?_ (by have h_ := Kd.R_ne HL129_0.out BK118.out (by decide); intro e_; exact h_ (by rw [e_]; rfl)) _; (with_reducible repeat (first | refine blk_drewN ?_ _ | refine blk_drew ?_ | refine blk_alloc ?_ _)); exact BK118.out⟩
                    have n2_ : Az0 ((w42.setCell ⟨go31, ((ji27) : Int).toNat, none⟩ (.int .i64 (wrap64 ((rd (rd_L12 x8_2 (ji27)) (ji27)) + 1)))).heap[gb128]? = some (.cells #[.int .i64 ((rdT l1 x41_2).f0), .int .i64 ((rdT l1 x41_2).f1), .int .i64 ((rdT l1 x41_2).f2)] 30 (0, 0))) := ⟨by (with_reducible repeat (first | refine blk_drewN ?_ _ | refine blk_drew ?_ | refine blk_alloc ?_ _)); refine blk_far ?_ (by have h_ := Kd.R_ne HL129_0.out BK128.out (by decide); intro e_; exact h_ (by rw [e_]; rfl)) _; (with_reducible repeat (first | refine blk_drewN ?_ _ | refine blk_drew ?_ | refine blk_alloc ?_ _)); exact BK128.out⟩
                    have n3_ : Az0 (Below w.heap.size w (w42.setCell ⟨go31, ((ji27) : Int).toNat, none⟩ (.int .i64 (wrap64 ((rd (rd_L12 x8_2 (ji27)) (ji27)) + 1))))) := ⟨by repeat (first | (with_reducible first | exact HB.out | apply baA_ | apply pbN_ | apply bD1_ | refine below_set ?_ GB31.out | refine below_set ?_ GE118.out | refine below_set ?_ GE128.out) | exact HB.out)⟩
                    (try clear HO_8)
                    (try clear BK118)
                    (try clear BK128)
                    (try clear HB)
                    generalize (w42.setCell ⟨go31, ((ji27) : Int).toNat, none⟩ (.int .i64 (wrap64 ((rd (rd_L12 x8_2 (ji27)) (ji27)) + 1)))) = w45 at n0_ n1_ n2_ n3_ ⊢
                    have HO_8 := n0_
                    have BK118 := n1_
                    have BK128 := n2_
                    have HB := n3_
                    clear n0_ n1_ n2_ n3_
                    have hcz46_0 : w45.cell? ⟨gb128, 0, none⟩ = some (.int .i64 ((rdT l1 x41_2).f0)) := (bkC BK128.out 0).trans rfl
                    have hcz46_1 : w45.cell? ⟨gb128, 1, none⟩ = some (.int .i64 ((rdT l1 x41_2).f1)) := (bkC BK128.out 1).trans rfl
                    have hcz46_2 : w45.cell? ⟨gb128, 2, none⟩ = some (.int .i64 ((rdT l1 x41_2).f2)) := (bkC BK128.out 2).trans rfl
                    have hfz46_0 := blk_frozen BK128.out 0
                    have hfz46_1 := blk_frozen BK128.out 1
                    have hfz46_2 := blk_frozen BK128.out 2
                    try go_wp2
                    have n0_ := Az0.mk (Kd.S_drew HO_8.out)
                    have n1_ := Az0.mk (blk_drew BK118.out)
                    have n2_ := Az0.mk (blk_drew BK128.out)
                    have n3_ := Az0.mk (bD1_ HB.out)
                    clear HO_8
                    clear BK118
                    clear BK128
                    clear HB
                    have HO_8 := n0_
                    have BK118 := n1_
                    have BK128 := n2_
                    have HB := n3_
                    clear n0_ n1_ n2_ n3_
                    have p134 : 0 ≤ ((ji33) : Int) := of_decide_eq_true (by first | (with_reducible assumption) | assumption)
                    have q134 : (ji33) < (y133.length : Int) := (by have h_ : ((ji33) : Int) < ((x8_2.length : Int) : Int) := of_decide_eq_true (by first | (with_reducible assumption) | assumption); first | (have e_ := (Kd.S_reads' HO_8.out).1; omega) | simpa only [Ny133.out, List.length_set] using h_)
                    have ql134 : (((ji33) : Int) < ((x8_2.length : Int) : Int)) = True := eq_true (of_decide_eq_true (by first | (with_reducible assumption) | assumption))
                    obtain ⟨ad134, A134_0, c134_0, e134, hx134_0, hl134_0, hi134_0⟩ := at_L12 (Kd.S_reads' HO_8.out).2.2 (ji33) p134 q134
                    obtain rfl : ad129 = ad134 := (by injection e134)
                    obtain ⟨ce134, hce134, hMe134, hcc134⟩ := Kd.S_get HO_8.out [] (ji33) p134 (by first | exact q134 | exact of_decide_eq_true (by first | (with_reducible assumption) | assumption) | (have e_ := (Kd.S_reads' HO_8.out).1; omega))
                    obtain ⟨ve134_0, rfl, ge134_0⟩ := hMe134
                    have hv134_0 := hcc134 0 _ rfl
                    rw [Nat.add_zero, show ((Kd.slice 3 (Kd.int .i64))).sz = 1 from rfl, Nat.mul_one] at hv134_0
                    replace hv134_0 := Option.some.inj (hv134_0.symm.trans hx134_0)
                    rw [hv134_0] at ge134_0
                    have HL134_0 := Az0.mk (show Kd.R (Kd.int .i64) 3 _ _ _ _ (rd_L12 y133 (ji33)) from ge134_0)
                    clear hv134_0 ge134_0
                    have HX134_0 := Az0.mk hx134_0
                    clear hcc134 hce134
                    have HR134_0 := Az0.mk hi134_0
                    have HC134_0 := Az0.mk hl134_0
                    clear hi134_0 hl134_0
                    replace p134 := eq_true p134
                    replace q134 := eq_true q134
                    have p135 : 0 ≤ ((ji27) : Int) := of_decide_eq_true (by first | (with_reducible assumption) | assumption)
                    have q135 : (ji27) < ((rd_L12 y133 (ji33)).length : Int) := of_decide_eq_true (by first | (with_reducible assumption) | assumption)
                    obtain ⟨ad135, e135, hx135_0⟩ := Kd.at_int (by repeat (first | (with_reducible exact HR134_0.out) | (with_reducible refine Kd.C_alloc ?_ _) | (with_reducible refine Kd.C_drewN ?_ _) | (with_reducible refine Kd.C_drew ?_) | exact HR134_0.out)) (ji27) p135 q135
                    cases e135
                    replace p135 := eq_true p135
                    replace q135 := eq_true q135
                    have p37 : 0 ≤ ((ji27) : Int) := of_decide_eq_true (by first | (with_reducible assumption) | assumption)
                    have q37 : ((ji27) : Int) < (((rd_L12 y133 (ji33)).length : Int) : Int) := of_decide_eq_true (by first | (with_reducible assumption) | assumption)
                    obtain ⟨go37, co37, eo37, gb37, gl37, cl37, HG37⟩ := Kd.R_form HL134_0.out (by omega)
                    (first | cases eo37 | (injection eo37 with ea_ en_ ec_; (first | subst ea_ | (injection ea_ with ea_; subst ea_)); subst ec_; clear en_))
                    have GB37 := Az0.mk gb37
                    have GG37 := Az0.mk HG37
                    clear gb37 gl37 HG37
                    (first | simp only [add_plain] at hx135_0 | skip)
                    obtain ⟨hx37_0, hf37_0⟩ := Kd.R_celln 0 HL134_0.out ((ji27) : Int) p37 q37
                    replace p37 := eq_true p37
                    replace q37 := eq_true q37
                    have hq48 : ((ji33) : Int) < (y133.length : Int) := (by have h_ : ((ji33) : Int) < ((x8_2.length : Int) : Int) := of_decide_eq_true (by first | (with_reducible assumption) | assumption); first | exact h_ | (have e_ := (Kd.S_reads' HO_8.out).1; omega) | simpa only [Ny133.out, List.length_set] using h_)
                    obtain ⟨oki48, ce48, hcl48, hM48, hcc48, hok48, hbk48⟩ := Kd.S_borrow HO_8.out [] ((ji33) : Int) (of_decide_eq_true (by first | (with_reducible assumption) | assumption)) (by first | exact hq48 | (have h_ := hq48; simpa only [Ny133.out, List.length_set] using h_))
                    obtain ⟨ve48_0, rfl, ge48_0⟩ := hM48
                    have hv48 := hcc48 0 _ rfl
                    rw [Nat.add_zero, show ((Kd.slice 3 (Kd.int .i64))).sz = 1 from rfl, Nat.mul_one] at hv48
                    replace hv48 := Option.some.inj (hv48.symm.trans HX134_0.out)
                    subst hv48
                    clear hcc48 hcl48
                    replace ge48_0 := (show Kd.R (Kd.int .i64) 3 _ _ _ _ (rd_L12 y133 (ji33)) from ge48_0)
                    have HP48 := Kd.R_putg ge48_0 ((ji27) : Int) (wrap64 ((rd (rd_L12 y133 (ji33)) (ji27)) - 1))
                    rw [← Ny136.out] at HP48
                    have HS48 := hbk48 HP48.2 (fun k_ e_ => by injection e_ with e_; subst e_; exact ge48_0.1 _ rfl) (x' := y136) (Kd.M_row HP48.1)
                    rw [← Ny138.out] at HS48
                    have HQ48 := Az0.mk HS48
                    clear HP48 HS48 hbk48 hok48
                    refine start_ (n := 14) (S := fun w' => w'.cell? ⟨gb128, 0, none⟩ = some (.int .i64 ((rdT l1 x41_2).f0)) ∧ w'.cell? ⟨gb128, 1, none⟩ = some (.int .i64 ((rdT l1 x41_2).f1)) ∧ w'.cell? ⟨gb128, 2, none⟩ = some (.int .i64 ((rdT l1 x41_2).f2)) ∧ w'.cell? (ad129.add ((ji33)).toNat) = some (.slice (some ⟨go37, 0, none⟩) (rd_L12 y133 (ji33)).length c134_0) ∧ w'.cell? ⟨go37, ((ji27)).toNat, none⟩ = some (.int .i64 (rd (rd_L12 y133 (ji33)) (ji27)))) (ds := [13]) #[false, false, false, false, false, false, false, false, false, false, false, false, false, false] (by kernel_rfl) rfl rfl ⟨(bkC BK128.out 0).trans rfl, (bkC BK128.out 1).trans rfl, (bkC BK128.out 2).trans rfl, hx134_0, hx135_0⟩ (fun hHeld => ?_); refine with_tabW branch_Count.tab16 branch_Count.bits16 (fun HT_ HW_ => ?_)
                    generalize w45.drew = w47 at HO_8 BK118 BK128 HB GG37 HL134_0 HQ48 HR134_0 HX134_0 hf37_0 hx134_0 hx135_0 hx37_0 hHeld ⊢
                    refine pure_ (i := 0) (N := some 64) (v := ?_) (a' := ?_) #[true, false, false, false, false, false, false, false, false, false, false, false, false, false] rfl rfl (any_of HT_.out (by kernel_rfl)) (fun _ _ _ h => h) (Or.inl ⟨by rfl, ?_⟩) ?_ ?_
                    rotate_left
                    ·intro w'
                     go_simp
                     with_reducible rfl
                    rotate_left
                    ·simp only [Act.put, List.setIfInBounds_toArray, List.set_cons_zero, List.set_cons_succ, i64_w, i32_w]
                     rfl
                    refine pure_ (i := 1) (N := some 65) (v := ?_) (a' := ?_) #[true, true, false, false, false, false, false, false, false, false, false, false, false, false] rfl rfl (any_of HT_.out (by kernel_rfl)) (fun _ _ _ h => h) (Or.inl ⟨by rfl, ?_⟩) ?_ ?_
                    rotate_left
                    ·intro w'
                     go_simp
                     with_reducible rfl
                    rotate_left
                    ·simp only [Act.put, List.setIfInBounds_toArray, List.set_cons_zero, List.set_cons_succ, i64_w, i32_w]
                     rfl
                    refine pure_ (i := 6) (N := some 70) (v := ?_) (a' := ?_) #[true, true, false, false, false, false, true, false, false, false, false, false, false, false] rfl rfl (any_of HT_.out (by kernel_rfl)) (fun _ _ _ h => h) (Or.inl ⟨by rfl, ?_⟩) ?_ ?_
                    rotate_left
                    ·intro w'
                     go_simp
                     with_reducible rfl
                    rotate_left
                    ·simp only [Act.put, List.setIfInBounds_toArray, List.set_cons_zero, List.set_cons_succ, i64_w, i32_w]
                     rfl
                    refine take_ (i := 2) (N := some 66) (v := ?_) (a' := ?_) #[true, true, true, false, false, false, true, false, false, false, false, false, false, false] rfl rfl (take_ofW HT_.out HW_.out (by kernel_rfl)) (fun _ _ _ h => h) (Or.inl ⟨by rfl, ?_⟩) hHeld ?_ ?_
                    rotate_left
                    ·rintro w' ⟨s0, s1, s2, s3, s4⟩
                     go_simp
                     with_reducible rfl
                    rotate_left
                    ·simp only [Act.put, List.setIfInBounds_toArray, List.set_cons_zero, List.set_cons_succ, i64_w, i32_w]
                     rfl
                    refine pure_ (i := 3) (N := some 67) (v := ?_) (a' := ?_) #[true, true, true, true, false, false, true, false, false, false, false, false, false, false] rfl rfl (any_of HT_.out (by kernel_rfl)) (fun _ _ _ h => h) (Or.inl ⟨by rfl, ?_⟩) ?_ ?_
                    rotate_left
                    ·intro w'
                     go_simp
                     with_reducible rfl
                    rotate_left
                    ·simp only [Act.put, List.setIfInBounds_toArray, List.set_cons_zero, List.set_cons_succ, i64_w, i32_w]
                     rfl
                    refine pure_ (i := 4) (N := some 68) (v := ?_) (a' := ?_) #[true, true, true, true, true, false, true, false, false, false, false, false, false, false] rfl rfl (any_of HT_.out (by kernel_rfl)) (fun _ _ _ h => h) (Or.inl ⟨by rfl, ?_⟩) ?_ ?_
                    rotate_left
                    ·intro w'
                     go_simp
                     with_reducible rfl
                    rotate_left
                    ·simp only [Act.put, List.setIfInBounds_toArray, List.set_cons_zero, List.set_cons_succ, i64_w, i32_w]
                     rfl
                    refine take_ (i := 5) (N := some 69) (v := ?_) (a' := ?_) #[true, true, true, true, true, true, true, false, false, false, false, false, false, false] rfl rfl (take_ofW HT_.out HW_.out (by kernel_rfl)) (fun _ _ _ h => h) (Or.inl ⟨by rfl, ?_⟩) hHeld ?_ ?_
                    rotate_left
                    ·rintro w' ⟨s0, s1, s2, s3, s4⟩
                     go_simp
                     with_reducible rfl
                    rotate_left
                    ·simp only [Act.put, List.setIfInBounds_toArray, List.set_cons_zero, List.set_cons_succ, i64_w, i32_w]
                     rfl
                    refine take_ (i := 7) (N := some 71) (v := ?_) (a' := ?_) #[true, true, true, true, true, true, true, true, false, false, false, false, false, false] rfl rfl (take_ofW HT_.out HW_.out (by kernel_rfl)) (fun _ _ _ h => h) (Or.inl ⟨by rfl, ?_⟩) hHeld ?_ ?_
                    rotate_left
                    ·rintro w' ⟨s0, s1, s2, s3, s4⟩
                     go_simp
                     with_reducible rfl
                    rotate_left
                    ·simp only [Act.put, List.setIfInBounds_toArray, List.set_cons_zero, List.set_cons_succ, i64_w, i32_w]
                     rfl
                    refine pure_ (i := 8) (N := some 72) (v := ?_) (a' := ?_) #[true, true, true, true, true, true, true, true, true, false, false, false, false, false] rfl rfl (any_of HT_.out (by kernel_rfl)) (fun _ _ _ h => h) (Or.inl ⟨by rfl, ?_⟩) ?_ ?_
                    rotate_left
                    ·intro w'
                     go_simp
                     with_reducible rfl
                    rotate_left
                    ·simp only [Act.put, List.setIfInBounds_toArray, List.set_cons_zero, List.set_cons_succ, i64_w, i32_w]
                     rfl
                    refine pure_ (i := 9) (N := some 73) (v := ?_) (a' := ?_) #[true, true, true, true, true, true, true, true, true, true, false, false, false, false] rfl rfl (any_of HT_.out (by kernel_rfl)) (fun _ _ _ h => h) (Or.inl ⟨by rfl, ?_⟩) ?_ ?_
                    rotate_left
                    ·intro w'
                     go_simp
                     with_reducible rfl
                    rotate_left
                    ·simp only [Act.put, List.setIfInBounds_toArray, List.set_cons_zero, List.set_cons_succ, i64_w, i32_w]
                     rfl
                    refine take_ (i := 10) (N := some 74) (v := ?_) (a' := ?_) #[true, true, true, true, true, true, true, true, true, true, true, false, false, false] rfl rfl (take_ofW HT_.out HW_.out (by kernel_rfl)) (fun _ _ _ h => h) (Or.inl ⟨by rfl, ?_⟩) hHeld ?_ ?_
                    rotate_left
                    ·rintro w' ⟨s0, s1, s2, s3, s4⟩
                     go_simp
                     with_reducible rfl
                    rotate_left
                    ·simp only [Act.put, List.setIfInBounds_toArray, List.set_cons_zero, List.set_cons_succ, i64_w, i32_w]
                     rfl
                    refine pure_ (i := 11) (N := some 75) (v := ?_) (a' := ?_) #[true, true, true, true, true, true, true, true, true, true, true, true, false, false] rfl rfl (any_of HT_.out (by kernel_rfl)) (fun _ _ _ h => h) (Or.inl ⟨by rfl, ?_⟩) ?_ ?_
                    rotate_left
                    ·intro w'
                     go_simp
                     with_reducible rfl
                    rotate_left
                    ·simp only [Act.put, List.setIfInBounds_toArray, List.set_cons_zero, List.set_cons_succ, i64_w, i32_w]
                     rfl
                    refine pure_ (i := 12) (N := some 76) (v := ?_) (a' := ?_) #[true, true, true, true, true, true, true, true, true, true, true, true, true, false] rfl rfl (any_of HT_.out (by kernel_rfl)) (fun _ _ _ h => h) (Or.inl ⟨by rfl, ?_⟩) ?_ ?_
                    rotate_left
                    ·intro w'
                     go_simp
                     with_reducible rfl
                    rotate_left
                    ·simp only [Act.put, List.setIfInBounds_toArray, List.set_cons_zero, List.set_cons_succ, i64_w, i32_w]
                     rfl
                    refine last_ (i := 13) (N := none) #[true, true, true, true, true, true, true, true, true, true, true, true, true, true] rfl rfl (one_of HT_.out (by kernel_rfl)) (by decide) (fun K hK => ?_)
                    refine skip_ (w1 := ?_) (by rfl) rfl ?_ ?_
                    rotate_left
                    ·go_simp
                     rfl
                    refine hK.out _ _ ?_
                    clear hK K
                    refine done_ (done_of HT_.out (by kernel_rfl)) ?_
                    have n0_ : Az0 (Kd.S (Kd.slice 3 (Kd.int .i64)) 28 (w47.setCell ⟨go37, ((ji27) : Int).toNat, none⟩ (.int .i64 (wrap64 ((rd (rd_L12 y133 (ji33)) (ji27)) - 1)))) w.heap.size (fun _ => True) (.slice (some ad129) x8_2.length co11) y138) := ⟨by (with_reducible repeat (first | apply Kd.S_alloc | apply Kd.S_drewN | apply Kd.S_drew)); exact HQ48.out⟩
                    have n1_ : Az0 ((w47.setCell ⟨go37, ((ji27) : Int).toNat, none⟩ (.int .i64 (wrap64 ((rd (rd_L12 y133 (ji33)) (ji27)) - 1)))).heap[gb118]? = some (.cells #[.int .i64 a0, .slice (some ad127) l1.length c1, .map mr118] 70 (0, 0))) := ⟨by (with_reducible repeat (first | refine blk_drewN ?_ _ | refine blk_drew ?_ | refine blk_alloc ?_ _)); refine blk_far ?_ (by have h_ := Kd.R_ne HL134_0.out BK118.out (by decide); intro e_; exact h_ (by rw [e_]; rfl)) _; (with_reducible repeat (first | refine blk_drewN ?_ _ | refine blk_drew ?_ | refine blk_alloc ?_ _)); exact BK118.out⟩
                    have n2_ : Az0 ((w47.setCell ⟨go37, ((ji27) : Int).toNat, none⟩ (.int .i64 (wrap64 ((rd (rd_L12 y133 (ji33)) (ji27)) - 1)))).heap[gb128]? = some (.cells #[.int .i64 ((rdT l1 x41_2).f0), .int .i64 ((rdT l1 x41_2).f1), .int .i64 ((rdT l1 x41_2).f2)] 30 (0, 0))) := ⟨by (with_reducible repeat (first | refine blk_drewN ?_ _ | refine blk_drew ?_ | refine blk_alloc ?_ _)); refine blk_far ?_ (by have h_ := Kd.R_ne HL134_0.out BK128.out (by decide); intro e_; exact h_ (by rw [e_]; rfl)) _; (with_reducible repeat (first | refine blk_drewN ?_ _ | refine blk_drew ?_ | refine blk_alloc ?_ _)); exact BK128.out⟩
                    have n3_ : Az0 (Below w.heap.size w (w47.setCell ⟨go37, ((ji27) : Int).toNat, none⟩ (.int .i64 (wrap64 ((rd (rd_L12 y133 (ji33)) (ji27)) - 1))))) := ⟨by repeat (first | (with_reducible first | exact HB.out | apply baA_ | apply pbN_ | apply bD1_ | refine below_set ?_ GB37.out | refine below_set ?_ GE118.out | refine below_set ?_ GE128.out) | exact HB.out)⟩
                    (try clear HO_8)
                    (try clear BK118)
                    (try clear BK128)
                    (try clear HB)
                    generalize (w47.setCell ⟨go37, ((ji27) : Int).toNat, none⟩ (.int .i64 (wrap64 ((rd (rd_L12 y133 (ji33)) (ji27)) - 1)))) = w50 at n0_ n1_ n2_ n3_ ⊢
                    have HO_8 := n0_
                    have BK118 := n1_
                    have BK128 := n2_
                    have HB := n3_
                    clear n0_ n1_ n2_ n3_
                    try go_wp2
                    (try simp only [← hl8_2])
                    go_roundg k2
                    case measure => have := HK1.out; have := HK2.out; omega
                    case rel => exact ⟨(y138), (wrap64 (x41_2 + 1)), (by first | rfl | (simp; done) | (simp [*]; done)), H', ⟨by have := HK1.out; have := HK2.out; omega⟩, ⟨by (try simp only [hl8_1]); (try simp only [hl8_2]); (with_reducible repeat (first | apply Kd.S_alloc | apply Kd.S_drewN | apply Kd.S_drew)); exact HO_8.out⟩, ⟨by (try simp only [hl8_1]); (try simp only [hl8_2]); (with_reducible repeat (first | refine blk_drewN ?_ _ | refine blk_drew ?_ | refine blk_alloc ?_ _)); exact BK118.out⟩, ⟨by repeat (first | (with_reducible first | exact HB.out | apply baA_ | apply pbN_ | apply bD1_ | refine below_set ?_ GE118.out | refine below_set ?_ GE128.out) | exact HB.out)⟩⟩
                   ·rw [if_neg c36] at H
                    exact absurd H (by simp)
                  ·rw [if_neg c35] at H
                   exact absurd H (by simp)
                 ·rw [if_neg c34] at H
                  exact absurd H (by simp)
                ·rw [if_neg c32] at H
                 have c32b0 : decide (0 < ((rdT l1 x41_2).f0)) = false := decide_eq_false c32
                 clear c32
                 have H' := Az0.mk H
                 clear H
                 have p127 : 0 ≤ (x41_2 : Int) := of_decide_eq_true (by first | (with_reducible assumption) | assumption)
                 have q127 : x41_2 < (l1.length : Int) := of_decide_eq_true (by first | (with_reducible assumption) | assumption)
                 obtain ⟨ad127, e127, hx127_0, hx127_1, hx127_2⟩ := at_T30 HR1.out x41_2 p127 q127
                 cases e127
                 replace hx127_0 := (HB.out.cell (World.block_lt_of_cell? w _ hx127_0)).trans hx127_0
                 replace hx127_1 := (HB.out.cell (World.block_lt_of_cell? w _ hx127_1)).trans hx127_1
                 replace hx127_2 := (HB.out.cell (World.block_lt_of_cell? w _ hx127_2)).trans hx127_2
                 replace p127 := eq_true p127
                 replace q127 := eq_true q127
                 try go_wp2_with (first | ((with_reducible refine gate_dst (N := 11) rfl ?_); refine box_event ?hg (N := 11) ?hd (cs := #[.int .i64 0, .int .i64 0, .int .i64 0]) (t := 30) ?hr ?_; (case hd => rfl); (case hg => rfl); (case hr => first | (go_simp; done) | (go_simp; rfl)); intro gb128 hg w51 hbox hb; have n0_ := Az0.mk (Kd.S_below (by (with_reducible repeat (first | apply Kd.S_alloc | apply Kd.S_drewN | apply Kd.S_drew)); exact HO_8.out) hb); have n1_ := Az0.mk (blk_below (g := gb118) (o := .cells #[.int .i64 a0, .slice (some ad127) l1.length c1, .map mr118] 70 (0, 0)) (by (with_reducible repeat (first | refine blk_drewN ?_ _ | refine blk_drew ?_ | refine blk_alloc ?_ _)); exact BK118.out) hb); have n2_ := Az0.mk (below_step (by repeat (first | (with_reducible first | exact HB.out | apply baA_ | apply pbN_ | apply bD1_ | refine below_set ?_ GE118.out) | exact HB.out)) hb); have n3_ := Az0.mk (hbox); have n4_ := Az0.mk ((by rw [hg]; exact (below_size (by repeat (first | (with_reducible first | exact HB.out | apply baA_ | apply pbN_ | apply bD1_ | refine below_set ?_ GE118.out) | exact HB.out))) : w.heap.size ≤ gb128)); have n5_ := Az0.mk ((by rw [hg]; exact (below_size (by repeat (first | (with_reducible first | exact HB.out | apply baA_ | apply pbN_ | apply bD1_ | refine below_set ?_ GE118.out) | exact HB.out))) : w.heap.size ≤ gb128)); have n6_ := Az0.mk ((by rw [hg]; exact Nat.ne_of_lt (blk_lt (g := gb118) (o := .cells #[.int .i64 a0, .slice (some ad127) l1.length c1, .map mr118] 70 (0, 0)) (by (with_reducible repeat (first | refine blk_drewN ?_ _ | refine blk_drew ?_ | refine blk_alloc ?_ _)); exact BK118.out)) : gb118 ≠ gb128)); have n7_ := Az0.mk ((by rw [hg]; exact Nat.ne_of_gt (blk_lt (g := gb118) (o := .cells #[.int .i64 a0, .slice (some ad127) l1.length c1, .map mr118] 70 (0, 0)) (by (with_reducible repeat (first | refine blk_drewN ?_ _ | refine blk_drew ?_ | refine blk_alloc ?_ _)); exact BK118.out)) : gb128 ≠ gb118)); clear HO_8; clear BK118; clear HB; have HO_8 := n0_; have BK118 := n1_; have HB := n2_; have BK128 := n3_; have GW128 := n4_; have GE128 := n5_; have NB118_128 := n6_; have NB128_118 := n7_; clear n0_ n1_ n2_ n3_ n4_ n5_ n6_ n7_; clear hb hbox hg; have hnb52 := NB128_118.out; have hnc52 := NB118_128.out; have hcz53_0 : w51.cell? ⟨gb128, 0, none⟩ = some (.int .i64 0) := (bkC BK128.out 0).trans rfl; have hcz53_1 : w51.cell? ⟨gb128, 1, none⟩ = some (.int .i64 0) := (bkC BK128.out 1).trans rfl; have hcz53_2 : w51.cell? ⟨gb128, 2, none⟩ = some (.int .i64 0) := (bkC BK128.out 2).trans rfl; have hfz53_0 := blk_frozen BK128.out 0; have hfz53_1 := blk_frozen BK128.out 1; have hfz53_2 := blk_frozen BK128.out 2))
                 have n0_ : Az0 (Kd.S (Kd.slice 3 (Kd.int .i64)) 28 (((w51.setCell ⟨gb128, 0, none⟩ (.int .i64 ((rdT l1 x41_2).f0))).setCell ⟨gb128, 1, none⟩ (.int .i64 ((rdT l1 x41_2).f1))).setCell ⟨gb128, 2, none⟩ (.int .i64 ((rdT l1 x41_2).f2))) w.heap.size (fun _ => True) (.slice Ao11 x8_2.length co11) x8_2) := ⟨by (with_reducible repeat (first | apply Kd.S_alloc | apply Kd.S_drewN | apply Kd.S_drew)); exact Kd.S_mono (Kd.S_far (p := ⟨gb128, 2, none⟩) (Kd.S_far (p := ⟨gb128, 1, none⟩) (Kd.S_far (p := ⟨gb128, 0, none⟩) (Kd.S_types HO_8.out BK128.out (by decide)) (fun _ hk => hk.2) (.int .i64 ((rdT l1 x41_2).f0))) (fun _ hk => hk.2) (.int .i64 ((rdT l1 x41_2).f1))) (fun _ hk => hk.2) (.int .i64 ((rdT l1 x41_2).f2))) (fun _ hk => trivial)⟩
                 have n1_ : Az0 ((((w51.setCell ⟨gb128, 0, none⟩ (.int .i64 ((rdT l1 x41_2).f0))).setCell ⟨gb128, 1, none⟩ (.int .i64 ((rdT l1 x41_2).f1))).setCell ⟨gb128, 2, none⟩ (.int .i64 ((rdT l1 x41_2).f2))).heap[gb118]? = some (.cells #[.int .i64 a0, .slice (some ad127) l1.length c1, .map mr118] 70 (0, 0))) := ⟨by (with_reducible repeat (first | refine blk_drewN ?_ _ | refine blk_drew ?_ | refine blk_alloc ?_ _)); refine blk_far ?_ NB118_128.out _; (with_reducible repeat (first | refine blk_drewN ?_ _ | refine blk_drew ?_ | refine blk_alloc ?_ _)); refine blk_far ?_ NB118_128.out _; (with_reducible repeat (first | refine blk_drewN ?_ _ | refine blk_drew ?_ | refine blk_alloc ?_ _)); refine blk_far ?_ NB118_128.out _; (with_reducible repeat (first | refine blk_drewN ?_ _ | refine blk_drew ?_ | refine blk_alloc ?_ _)); exact BK118.out⟩
                 have n2_ : Az0 ((((w51.setCell ⟨gb128, 0, none⟩ (.int .i64 ((rdT l1 x41_2).f0))).setCell ⟨gb128, 1, none⟩ (.int .i64 ((rdT l1 x41_2).f1))).setCell ⟨gb128, 2, none⟩ (.int .i64 ((rdT l1 x41_2).f2))).heap[gb128]? = some (.cells #[.int .i64 ((rdT l1 x41_2).f0), .int .i64 ((rdT l1 x41_2).f1), .int .i64 ((rdT l1 x41_2).f2)] 30 (0, 0))) := ⟨by (with_reducible repeat (first | refine blk_drewN ?_ _ | refine blk_drew ?_ | refine blk_alloc ?_ _)); refine blk_put (cs := #[.int .i64 ((rdT l1 x41_2).f0), .int .i64 ((rdT l1 x41_2).f1), .int .i64 0]) ?_ 2 _ rfl; (with_reducible repeat (first | refine blk_drewN ?_ _ | refine blk_drew ?_ | refine blk_alloc ?_ _)); refine blk_put (cs := #[.int .i64 ((rdT l1 x41_2).f0), .int .i64 0, .int .i64 0]) ?_ 1 _ rfl; (with_reducible repeat (first | refine blk_drewN ?_ _ | refine blk_drew ?_ | refine blk_alloc ?_ _)); refine blk_put (cs := #[.int .i64 0, .int .i64 0, .int .i64 0]) ?_ 0 _ rfl; (with_reducible repeat (first | refine blk_drewN ?_ _ | refine blk_drew ?_ | refine blk_alloc ?_ _)); exact BK128.out⟩
                 have n3_ : Az0 (Below w.heap.size w (((w51.setCell ⟨gb128, 0, none⟩ (.int .i64 ((rdT l1 x41_2).f0))).setCell ⟨gb128, 1, none⟩ (.int .i64 ((rdT l1 x41_2).f1))).setCell ⟨gb128, 2, none⟩ (.int .i64 ((rdT l1 x41_2).f2)))) := ⟨by repeat (first | (with_reducible first | exact HB.out | apply baA_ | apply pbN_ | apply bD1_ | refine below_set ?_ GE118.out | refine below_set ?_ GE128.out) | exact HB.out)⟩
                 (try clear HO_8)
                 (try clear BK118)
                 (try clear BK128)
                 (try clear HB)
                 generalize (((w51.setCell ⟨gb128, 0, none⟩ (.int .i64 ((rdT l1 x41_2).f0))).setCell ⟨gb128, 1, none⟩ (.int .i64 ((rdT l1 x41_2).f1))).setCell ⟨gb128, 2, none⟩ (.int .i64 ((rdT l1 x41_2).f2))) = w54 at n0_ n1_ n2_ n3_ ⊢
                 have HO_8 := n0_
                 have BK118 := n1_
                 have BK128 := n2_
                 have HB := n3_
                 clear n0_ n1_ n2_ n3_
                 have n0_ := Az0.mk (Kd.S_drew HO_8.out)
                 have n1_ := Az0.mk (blk_drew BK118.out)
                 have n2_ := Az0.mk (blk_drew BK128.out)
                 have n3_ := Az0.mk (bD1_ HB.out)
                 clear HO_8
                 clear BK118
                 clear BK128
                 clear HB
                 have HO_8 := n0_
                 have BK118 := n1_
                 have BK128 := n2_
                 have HB := n3_
                 clear n0_ n1_ n2_ n3_
                 have p129 : 0 ≤ ((ji27) : Int) := of_decide_eq_true (by first | (with_reducible assumption) | assumption)
                 have q129 : (ji27) < (x8_2.length : Int) := of_decide_eq_true (by first | (with_reducible assumption) | assumption)
                 obtain ⟨ad129, A129_0, c129_0, e129, hx129_0, hl129_0, hi129_0⟩ := at_L12 (Kd.S_reads' HO_8.out).2.2 (ji27) p129 q129
                 cases e129
                 obtain ⟨ce129, hce129, hMe129, hcc129⟩ := Kd.S_get HO_8.out [] (ji27) p129 (by first | exact q129 | exact of_decide_eq_true (by first | (with_reducible assumption) | assumption) | (have e_ := (Kd.S_reads' HO_8.out).1; omega))
                 obtain ⟨ve129_0, rfl, ge129_0⟩ := hMe129
                 have hv129_0 := hcc129 0 _ rfl
                 rw [Nat.add_zero, show ((Kd.slice 3 (Kd.int .i64))).sz = 1 from rfl, Nat.mul_one] at hv129_0
                 replace hv129_0 := Option.some.inj (hv129_0.symm.trans hx129_0)
                 rw [hv129_0] at ge129_0
                 have HL129_0 := Az0.mk (show Kd.R (Kd.int .i64) 3 _ _ _ _ (rd_L12 x8_2 (ji27)) from ge129_0)
                 clear hv129_0 ge129_0
                 have HX129_0 := Az0.mk hx129_0
                 clear hcc129 hce129
                 have HR129_0 := Az0.mk hi129_0
                 have HC129_0 := Az0.mk hl129_0
                 clear hi129_0 hl129_0
                 replace p129 := eq_true p129
                 replace q129 := eq_true q129
                 have p130 : 0 ≤ ((ji27) : Int) := of_decide_eq_true (by first | (with_reducible assumption) | assumption)
                 have q130 : (ji27) < ((rd_L12 x8_2 (ji27)).length : Int) := of_decide_eq_true (by first | (with_reducible assumption) | assumption)
                 obtain ⟨ad130, e130, hx130_0⟩ := Kd.at_int (by repeat (first | (with_reducible exact HR129_0.out) | (with_reducible refine Kd.C_alloc ?_ _) | (with_reducible refine Kd.C_drewN ?_ _) | (with_reducible refine Kd.C_drew ?_) | exact HR129_0.out)) (ji27) p130 q130
                 cases e130
                 replace p130 := eq_true p130
                 replace q130 := eq_true q130
                 have p31 : 0 ≤ ((ji27) : Int) := of_decide_eq_true (by first | (with_reducible assumption) | assumption)
                 have q31 : ((ji27) : Int) < (((rd_L12 x8_2 (ji27)).length : Int) : Int) := of_decide_eq_true (by first | (with_reducible assumption) | assumption)
                 obtain ⟨go31, co31, eo31, gb31, gl31, cl31, HG31⟩ := Kd.R_form HL129_0.out (by omega)
                 (first | cases eo31 | (injection eo31 with ea_ en_ ec_; (first | subst ea_ | (injection ea_ with ea_; subst ea_)); subst ec_; clear en_))
                 have GB31 := Az0.mk gb31
                 have GG31 := Az0.mk HG31
                 clear gb31 gl31 HG31
                 (first | simp only [add_plain] at hx130_0 | skip)
                 obtain ⟨hx31_0, hf31_0⟩ := Kd.R_celln 0 HL129_0.out ((ji27) : Int) p31 q31
                 replace p31 := eq_true p31
                 replace q31 := eq_true q31
                 have hq56 : ((ji27) : Int) < (x8_2.length : Int) := (by have h_ : ((ji27) : Int) < ((x8_2.length : Int) : Int) := of_decide_eq_true (by first | (with_reducible assumption) | assumption); first | exact h_ | (have e_ := (Kd.S_reads' HO_8.out).1; omega) | simpa only [List.length_set, List.length_set] using h_)
                 obtain ⟨oki56, ce56, hcl56, hM56, hcc56, hok56, hbk56⟩ := Kd.S_borrow HO_8.out [] ((ji27) : Int) (of_decide_eq_true (by first | (with_reducible assumption) | assumption)) (by first | exact hq56 | (have h_ := hq56; simpa only [List.length_set, List.length_set] using h_))
                 obtain ⟨ve56_0, rfl, ge56_0⟩ := hM56
                 have hv56 := hcc56 0 _ rfl
                 rw [Nat.add_zero, show ((Kd.slice 3 (Kd.int .i64))).sz = 1 from rfl, Nat.mul_one] at hv56
                 replace hv56 := Option.some.inj (hv56.symm.trans HX129_0.out)
                 subst hv56
                 clear hcc56 hcl56
                 replace ge56_0 := (show Kd.R (Kd.int .i64) 3 _ _ _ _ (rd_L12 x8_2 (ji27)) from ge56_0)
                 have HP56 := Kd.R_putg ge56_0 ((ji27) : Int) (wrap64 ((rd (rd_L12 x8_2 (ji27)) (ji27)) + 1))
                 rw [← Ny131.out] at HP56
                 have HS56 := hbk56 HP56.2 (fun k_ e_ => by injection e_ with e_; subst e_; exact ge56_0.1 _ rfl) (x' := y131) (Kd.M_row HP56.1)
                 rw [← Ny133.out] at HS56
                 have HQ56 := Az0.mk HS56
                 clear HP56 HS56 hbk56 hok56
                 refine start_ (n := 14) (S := fun w' => w'.cell? ⟨gb128, 0, none⟩ = some (.int .i64 ((rdT l1 x41_2).f0)) ∧ w'.cell? ⟨gb128, 1, none⟩ = some (.int .i64 ((rdT l1 x41_2).f1)) ∧ w'.cell? ⟨gb128, 2, none⟩ = some (.int .i64 ((rdT l1 x41_2).f2)) ∧ w'.cell? (ad129.add ((ji27)).toNat) = some (.slice (some ⟨go31, 0, none⟩) (rd_L12 x8_2 (ji27)).length c129_0) ∧ w'.cell? ⟨go31, ((ji27)).toNat, none⟩ = some (.int .i64 (rd (rd_L12 x8_2 (ji27)) (ji27)))) (ds := [13]) #[false, false, false, false, false, false, false, false, false, false, false, false, false, false] (by kernel_rfl) rfl rfl ⟨(bkC BK128.out 0).trans rfl, (bkC BK128.out 1).trans rfl, (bkC BK128.out 2).trans rfl, hx129_0, hx130_0⟩ (fun hHeld => ?_); refine with_tabW branch_Count.tab14 branch_Count.bits14 (fun HT_ HW_ => ?_)
                 generalize w54.drew = w55 at HO_8 BK118 BK128 HB GG31 HL129_0 HQ56 HR129_0 HX129_0 hf31_0 hx129_0 hx130_0 hx31_0 hHeld ⊢
                 refine pure_ (i := 0) (N := some 48) (v := ?_) (a' := ?_) #[true, false, false, false, false, false, false, false, false, false, false, false, false, false] rfl rfl (any_of HT_.out (by kernel_rfl)) (fun _ _ _ h => h) (Or.inl ⟨by rfl, ?_⟩) ?_ ?_
                 rotate_left
                 ·intro w'
                  go_simp
                  with_reducible rfl
                 rotate_left
                 ·simp only [Act.put, List.setIfInBounds_toArray, List.set_cons_zero, List.set_cons_succ, i64_w, i32_w]
                  rfl
                 refine pure_ (i := 1) (N := some 49) (v := ?_) (a' := ?_) #[true, true, false, false, false, false, false, false, false, false, false, false, false, false] rfl rfl (any_of HT_.out (by kernel_rfl)) (fun _ _ _ h => h) (Or.inl ⟨by rfl, ?_⟩) ?_ ?_
                 rotate_left
                 ·intro w'
                  go_simp
                  with_reducible rfl
                 rotate_left
                 ·simp only [Act.put, List.setIfInBounds_toArray, List.set_cons_zero, List.set_cons_succ, i64_w, i32_w]
                  rfl
                 refine pure_ (i := 6) (N := some 54) (v := ?_) (a' := ?_) #[true, true, false, false, false, false, true, false, false, false, false, false, false, false] rfl rfl (any_of HT_.out (by kernel_rfl)) (fun _ _ _ h => h) (Or.inl ⟨by rfl, ?_⟩) ?_ ?_
                 rotate_left
                 ·intro w'
                  go_simp
                  with_reducible rfl
                 rotate_left
                 ·simp only [Act.put, List.setIfInBounds_toArray, List.set_cons_zero, List.set_cons_succ, i64_w, i32_w]
                  rfl
                 refine take_ (i := 2) (N := some 50) (v := ?_) (a' := ?_) #[true, true, true, false, false, false, true, false, false, false, false, false, false, false] rfl rfl (take_ofW HT_.out HW_.out (by kernel_rfl)) (fun _ _ _ h => h) (Or.inl ⟨by rfl, ?_⟩) hHeld ?_ ?_
                 rotate_left
                 ·rintro w' ⟨s0, s1, s2, s3, s4⟩
                  go_simp
                  with_reducible rfl
                 rotate_left
                 ·simp only [Act.put, List.setIfInBounds_toArray, List.set_cons_zero, List.set_cons_succ, i64_w, i32_w]
                  rfl
                 refine pure_ (i := 3) (N := some 51) (v := ?_) (a' := ?_) #[true, true, true, true, false, false, true, false, false, false, false, false, false, false] rfl rfl (any_of HT_.out (by kernel_rfl)) (fun _ _ _ h => h) (Or.inl ⟨by rfl, ?_⟩) ?_ ?_
                 rotate_left
                 ·intro w'
                  go_simp
                  with_reducible rfl
                 rotate_left
                 ·simp only [Act.put, List.setIfInBounds_toArray, List.set_cons_zero, List.set_cons_succ, i64_w, i32_w]
                  rfl
                 refine pure_ (i := 4) (N := some 52) (v := ?_) (a' := ?_) #[true, true, true, true, true, false, true, false, false, false, false, false, false, false] rfl rfl (any_of HT_.out (by kernel_rfl)) (fun _ _ _ h => h) (Or.inl ⟨by rfl, ?_⟩) ?_ ?_
                 rotate_left
                 ·intro w'
                  go_simp
                  with_reducible rfl
                 rotate_left
                 ·simp only [Act.put, List.setIfInBounds_toArray, List.set_cons_zero, List.set_cons_succ, i64_w, i32_w]
                  rfl
                 refine take_ (i := 5) (N := some 53) (v := ?_) (a' := ?_) #[true, true, true, true, true, true, true, false, false, false, false, false, false, false] rfl rfl (take_ofW HT_.out HW_.out (by kernel_rfl)) (fun _ _ _ h => h) (Or.inl ⟨by rfl, ?_⟩) hHeld ?_ ?_
                 rotate_left
                 ·rintro w' ⟨s0, s1, s2, s3, s4⟩
                  go_simp
                  with_reducible rfl
                 rotate_left
                 ·simp only [Act.put, List.setIfInBounds_toArray, List.set_cons_zero, List.set_cons_succ, i64_w, i32_w]
                  rfl
                 refine take_ (i := 7) (N := some 55) (v := ?_) (a' := ?_) #[true, true, true, true, true, true, true, true, false, false, false, false, false, false] rfl rfl (take_ofW HT_.out HW_.out (by kernel_rfl)) (fun _ _ _ h => h) (Or.inl ⟨by rfl, ?_⟩) hHeld ?_ ?_
                 rotate_left
                 ·rintro w' ⟨s0, s1, s2, s3, s4⟩
                  go_simp
                  with_reducible rfl
                 rotate_left
                 ·simp only [Act.put, List.setIfInBounds_toArray, List.set_cons_zero, List.set_cons_succ, i64_w, i32_w]
                  rfl
                 refine pure_ (i := 8) (N := some 56) (v := ?_) (a' := ?_) #[true, true, true, true, true, true, true, true, true, false, false, false, false, false] rfl rfl (any_of HT_.out (by kernel_rfl)) (fun _ _ _ h => h) (Or.inl ⟨by rfl, ?_⟩) ?_ ?_
                 rotate_left
                 ·intro w'
                  go_simp
                  with_reducible rfl
                 rotate_left
                 ·simp only [Act.put, List.setIfInBounds_toArray, List.set_cons_zero, List.set_cons_succ, i64_w, i32_w]
                  rfl
                 refine pure_ (i := 9) (N := some 57) (v := ?_) (a' := ?_) #[true, true, true, true, true, true, true, true, true, true, false, false, false, false] rfl rfl (any_of HT_.out (by kernel_rfl)) (fun _ _ _ h => h) (Or.inl ⟨by rfl, ?_⟩) ?_ ?_
                 rotate_left
                 ·intro w'
                  go_simp
                  with_reducible rfl
                 rotate_left
                 ·simp only [Act.put, List.setIfInBounds_toArray, List.set_cons_zero, List.set_cons_succ, i64_w, i32_w]
                  rfl
                 refine take_ (i := 10) (N := some 58) (v := ?_) (a' := ?_) #[true, true, true, true, true, true, true, true, true, true, true, false, false, false] rfl rfl (take_ofW HT_.out HW_.out (by kernel_rfl)) (fun _ _ _ h => h) (Or.inl ⟨by rfl, ?_⟩) hHeld ?_ ?_
                 rotate_left
                 ·rintro w' ⟨s0, s1, s2, s3, s4⟩
                  go_simp
                  with_reducible rfl
                 rotate_left
                 ·simp only [Act.put, List.setIfInBounds_toArray, List.set_cons_zero, List.set_cons_succ, i64_w, i32_w]
                  rfl
                 refine pure_ (i := 11) (N := some 59) (v := ?_) (a' := ?_) #[true, true, true, true, true, true, true, true, true, true, true, true, false, false] rfl rfl (any_of HT_.out (by kernel_rfl)) (fun _ _ _ h => h) (Or.inl ⟨by rfl, ?_⟩) ?_ ?_
                 rotate_left
                 ·intro w'
                  go_simp
                  with_reducible rfl
                 rotate_left
                 ·simp only [Act.put, List.setIfInBounds_toArray, List.set_cons_zero, List.set_cons_succ, i64_w, i32_w]
                  rfl
                 refine pure_ (i := 12) (N := some 60) (v := ?_) (a' := ?_) #[true, true, true, true, true, true, true, true, true, true, true, true, true, false] rfl rfl (any_of HT_.out (by kernel_rfl)) (fun _ _ _ h => h) (Or.inl ⟨by rfl, ?_⟩) ?_ ?_
                 rotate_left
                 ·intro w'
                  go_simp
                  with_reducible rfl
                 rotate_left
                 ·simp only [Act.put, List.setIfInBounds_toArray, List.set_cons_zero, List.set_cons_succ, i64_w, i32_w]
                  rfl
                 refine last_ (i := 13) (N := none) #[true, true, true, true, true, true, true, true, true, true, true, true, true, true] rfl rfl (one_of HT_.out (by kernel_rfl)) (by decide) (fun K hK => ?_)
                 refine skip_ (w1 := ?_) (by rfl) rfl ?_ ?_
                 rotate_left
                 ·go_simp
                  rfl
                 refine hK.out _ _ ?_
                 clear hK K
                 refine done_ (done_of HT_.out (by kernel_rfl)) ?_
                 have n0_ : Az0 (Kd.S (Kd.slice 3 (Kd.int .i64)) 28 (w55.setCell ⟨go31, ((ji27) : Int).toNat, none⟩ (.int .i64 (wrap64 ((rd (rd_L12 x8_2 (ji27)) (ji27)) + 1)))) w.heap.size (fun _ => True) (.slice (some ad129) x8_2.length co11) y133) := ⟨by (with_reducible repeat (first | apply Kd.S_alloc | apply Kd.S_drewN | apply Kd.S_drew)); exact HQ56.out⟩
                 have n1_ : Az0 ((w55.setCell ⟨go31, ((ji27) : Int).toNat, none⟩ (.int .i64 (wrap64 ((rd (rd_L12 x8_2 (ji27)) (ji27)) + 1)))).heap[gb118]? = some (.cells #[.int .i64 a0, .slice (some ad127) l1.length c1, .map mr118] 70 (0, 0))) := ⟨by (with_reducible repeat (first | refine blk_drewN ?_ _ | refine blk_drew ?_ | refine blk_alloc ?_ _)); refine blk_far ?_ (by have h_ := Kd.R_ne HL129_0.out BK118.out (by decide); intro e_; exact h_ (by rw [e_]; rfl)) _; (with_reducible repeat (first | refine blk_drewN ?_ _ | refine blk_drew ?_ | refine blk_alloc ?_ _)); exact BK118.out⟩
                 have n2_ : Az0 ((w55.setCell ⟨go31, ((ji27) : Int).toNat, none⟩ (.int .i64 (wrap64 ((rd (rd_L12 x8_2 (ji27)) (ji27)) + 1)))).heap[gb128]? = some (.cells #[.int .i64 ((rdT l1 x41_2).f0), .int .i64 ((rdT l1 x41_2).f1), .int .i64 ((rdT l1 x41_2).f2)] 30 (0, 0))) := ⟨by (with_reducible repeat (first | refine blk_drewN ?_ _ | refine blk_drew ?_ | refine blk_alloc ?_ _)); refine blk_far ?_ (by have h_ := Kd.R_ne HL129_0.out BK128.out (by decide); intro e_; exact h_ (by rw [e_]; rfl)) _; (with_reducible repeat (first | refine blk_drewN ?_ _ | refine blk_drew ?_ | refine blk_alloc ?_ _)); exact BK128.out⟩
                 have n3_ : Az0 (Below w.heap.size w (w55.setCell ⟨go31, ((ji27) : Int).toNat, none⟩ (.int .i64 (wrap64 ((rd (rd_L12 x8_2 (ji27)) (ji27)) + 1))))) := ⟨by repeat (first | (with_reducible first | exact HB.out | apply baA_ | apply pbN_ | apply bD1_ | refine below_set ?_ GB31.out | refine below_set ?_ GE118.out | refine below_set ?_ GE128.out) | exact HB.out)⟩
                 (try clear HO_8)
                 (try clear BK118)
                 (try clear BK128)
                 (try clear HB)
                 generalize (w55.setCell ⟨go31, ((ji27) : Int).toNat, none⟩ (.int .i64 (wrap64 ((rd (rd_L12 x8_2 (ji27)) (ji27)) + 1)))) = w58 at n0_ n1_ n2_ n3_ ⊢
                 have HO_8 := n0_
                 have BK118 := n1_
                 have BK128 := n2_
                 have HB := n3_
                 clear n0_ n1_ n2_ n3_
                 have hcz59_0 : w58.cell? ⟨gb128, 0, none⟩ = some (.int .i64 ((rdT l1 x41_2).f0)) := (bkC BK128.out 0).trans rfl
                 have hcz59_1 : w58.cell? ⟨gb128, 1, none⟩ = some (.int .i64 ((rdT l1 x41_2).f1)) := (bkC BK128.out 1).trans rfl
                 have hcz59_2 : w58.cell? ⟨gb128, 2, none⟩ = some (.int .i64 ((rdT l1 x41_2).f2)) := (bkC BK128.out 2).trans rfl
                 have hfz59_0 := blk_frozen BK128.out 0
                 have hfz59_1 := blk_frozen BK128.out 1
                 have hfz59_2 := blk_frozen BK128.out 2
                 try go_wp2
                 (try simp only [← hl8_2])
                 go_roundg k2
                 case measure => have := HK1.out; have := HK2.out; omega
                 case rel => exact ⟨(y133), (wrap64 (x41_2 + 1)), (by first | rfl | (simp; done) | (simp [*]; done)), H', ⟨by have := HK1.out; have := HK2.out; omega⟩, ⟨by (try simp only [hl8_1]); (try simp only [hl8_2]); (with_reducible repeat (first | apply Kd.S_alloc | apply Kd.S_drewN | apply Kd.S_drew)); exact HO_8.out⟩, ⟨by (try simp only [hl8_1]); (try simp only [hl8_2]); (with_reducible repeat (first | refine blk_drewN ?_ _ | refine blk_drew ?_ | refine blk_alloc ?_ _)); exact BK118.out⟩, ⟨by repeat (first | (with_reducible first | exact HB.out | apply baA_ | apply pbN_ | apply bD1_ | refine below_set ?_ GE118.out | refine below_set ?_ GE128.out) | exact HB.out)⟩⟩
               ·rw [if_neg c30] at H
                exact absurd H (by simp)
              ·rw [if_neg c29] at H
               exact absurd H (by simp)
             ·rw [if_neg c28] at H
              exact absurd H (by simp)
            ·rw [if_neg c26] at H
             have c26b0 : decide (0 < ((rdT l1 x41_2).f1)) = false := decide_eq_false c26
             clear c26
             have H' := Az0.mk H
             clear H
             have p127 : 0 ≤ (x41_2 : Int) := of_decide_eq_true (by first | (with_reducible assumption) | assumption)
             have q127 : x41_2 < (l1.length : Int) := of_decide_eq_true (by first | (with_reducible assumption) | assumption)
             obtain ⟨ad127, e127, hx127_0, hx127_1, hx127_2⟩ := at_T30 HR1.out x41_2 p127 q127
             cases e127
             replace hx127_0 := (HB.out.cell (World.block_lt_of_cell? w _ hx127_0)).trans hx127_0
             replace hx127_1 := (HB.out.cell (World.block_lt_of_cell? w _ hx127_1)).trans hx127_1
             replace hx127_2 := (HB.out.cell (World.block_lt_of_cell? w _ hx127_2)).trans hx127_2
             replace p127 := eq_true p127
             replace q127 := eq_true q127
             go_wp2_with (first | ((with_reducible refine gate_dst (N := 11) rfl ?_); refine box_event ?hg (N := 11) ?hd (cs := #[.int .i64 0, .int .i64 0, .int .i64 0]) (t := 30) ?hr ?_; (case hd => rfl); (case hg => rfl); (case hr => first | (go_simp; done) | (go_simp; rfl)); intro gb128 hg w60 hbox hb; have n0_ := Az0.mk (Kd.S_below (by (with_reducible repeat (first | apply Kd.S_alloc | apply Kd.S_drewN | apply Kd.S_drew)); exact HO_8.out) hb); have n1_ := Az0.mk (blk_below (g := gb118) (o := .cells #[.int .i64 a0, .slice (some ad127) l1.length c1, .map mr118] 70 (0, 0)) (by (with_reducible repeat (first | refine blk_drewN ?_ _ | refine blk_drew ?_ | refine blk_alloc ?_ _)); exact BK118.out) hb); have n2_ := Az0.mk (below_step (by repeat (first | (with_reducible first | exact HB.out | apply baA_ | apply pbN_ | apply bD1_ | refine below_set ?_ GE118.out) | exact HB.out)) hb); have n3_ := Az0.mk (hbox); have n4_ := Az0.mk ((by rw [hg]; exact (below_size (by repeat (first | (with_reducible first | exact HB.out | apply baA_ | apply pbN_ | apply bD1_ | refine below_set ?_ GE118.out) | exact HB.out))) : w.heap.size ≤ gb128)); have n5_ := Az0.mk ((by rw [hg]; exact (below_size (by repeat (first | (with_reducible first | exact HB.out | apply baA_ | apply pbN_ | apply bD1_ | refine below_set ?_ GE118.out) | exact HB.out))) : w.heap.size ≤ gb128)); have n6_ := Az0.mk ((by rw [hg]; exact Nat.ne_of_lt (blk_lt (g := gb118) (o := .cells #[.int .i64 a0, .slice (some ad127) l1.length c1, .map mr118] 70 (0, 0)) (by (with_reducible repeat (first | refine blk_drewN ?_ _ | refine blk_drew ?_ | refine blk_alloc ?_ _)); exact BK118.out)) : gb118 ≠ gb128)); have n7_ := Az0.mk ((by rw [hg]; exact Nat.ne_of_gt (blk_lt (g := gb118) (o := .cells #[.int .i64 a0, .slice (some ad127) l1.length c1, .map mr118] 70 (0, 0)) (by (with_reducible repeat (first | refine blk_drewN ?_ _ | refine blk_drew ?_ | refine blk_alloc ?_ _)); exact BK118.out)) : gb128 ≠ gb118)); clear HO_8; clear BK118; clear HB; have HO_8 := n0_; have BK118 := n1_; have HB := n2_; have BK128 := n3_; have GW128 := n4_; have GE128 := n5_; have NB118_128 := n6_; have NB128_118 := n7_; clear n0_ n1_ n2_ n3_ n4_ n5_ n6_ n7_; clear hb hbox hg; have hnb61 := NB128_118.out; have hnc61 := NB118_128.out; have hcz62_0 : w60.cell? ⟨gb128, 0, none⟩ = some (.int .i64 0) := (bkC BK128.out 0).trans rfl; have hcz62_1 : w60.cell? ⟨gb128, 1, none⟩ = some (.int .i64 0) := (bkC BK128.out 1).trans rfl; have hcz62_2 : w60.cell? ⟨gb128, 2, none⟩ = some (.int .i64 0) := (bkC BK128.out 2).trans rfl; have hfz62_0 := blk_frozen BK128.out 0; have hfz62_1 := blk_frozen BK128.out 1; have hfz62_2 := blk_frozen BK128.out 2))
             (try simp only [← hl8_2])
             go_roundg k2
             case measure => have := HK1.out; have := HK2.out; omega
             case rel => exact ⟨(x8_2), (wrap64 (x41_2 + 1)), (by first | rfl | (simp; done) | (simp [*]; done)), H', ⟨by have := HK1.out; have := HK2.out; omega⟩, ⟨by (try simp only [hl8_1]); (try simp only [hl8_2]); (with_reducible repeat (first | apply Kd.S_alloc | apply Kd.S_drewN | apply Kd.S_drew)); exact Kd.S_mono (Kd.S_far (p := ⟨gb128, 2, none⟩) (Kd.S_far (p := ⟨gb128, 1, none⟩) (Kd.S_far (p := ⟨gb128, 0, none⟩) (Kd.S_types HO_8.out BK128.out (by decide)) (fun _ hk => hk.2) (.int .i64 ((rdT l1 x41_2).f0))) (fun _ hk => hk.2) (.int .i64 ((rdT l1 x41_2).f1))) (fun _ hk => hk.2) (.int .i64 ((rdT l1 x41_2).f2))) (fun _ hk => trivial)⟩, ⟨by (try simp only [hl8_1]); (try simp only [hl8_2]); (with_reducible repeat (first | refine blk_drewN ?_ _ | refine blk_drew ?_ | refine blk_alloc ?_ _)); refine blk_far ?_ NB118_128.out _; (with_reducible repeat (first | refine blk_drewN ?_ _ | refine blk_drew ?_ | refine blk_alloc ?_ _)); refine blk_far ?_ NB118_128.out _; (with_reducible repeat (first | refine blk_drewN ?_ _ | refine blk_drew ?_ | refine blk_alloc ?_ _)); refine blk_far ?_ NB118_128.out _; (with_reducible repeat (first | refine blk_drewN ?_ _ | refine blk_drew ?_ | refine blk_alloc ?_ _)); exact BK118.out⟩, ⟨by repeat (first | (with_reducible first | exact HB.out | apply baA_ | apply pbN_ | apply bD1_ | refine below_set ?_ GE118.out | refine below_set ?_ GE128.out) | exact HB.out)⟩⟩
           ·rw [if_neg c25] at H
            exact absurd H (by simp)
          ·rw [if_neg c24] at H
           exact absurd H (by simp)
         ·rw [if_neg c23] at H
          have c23b0 : decide (x41_2 < (l1.length : Int)) = false := decide_eq_false c23
          (try (have c23b0l := c23b0; simp only [hl8_1] at c23b0l))
          (try (have c23b0l := c23b0; simp only [hl8_2] at c23b0l))
          clear c23
          replace H := Option.bind_eq_some_iff.mp H
          obtain ⟨t126, A630, H⟩ := H
          replace H : (some (t126, 0)) = some (r1, r2) := H
          have A63 := Az0.mk A630
          clear A630
          simp only [Option.some.injEq, Prod.mk.injEq] at H
          obtain ⟨rfl, rfl⟩ := H
          go_wp2_with (first | ((with_reducible refine gate_callee (f := 45) rfl ?_); refine goesL_ (some 79) rfl rfl Try.func45 (by kernel_rfl) rfl #[.slice Ao11 x8_2.length co11] rfl (by (try simp only [List.map_toArray, List.map_cons, List.map_nil]); first | done | rfl | (simp only [List.length_drop, List.length_take]; rfl)) ?_; (with_reducible refine (bDtm_.calls k2 _ _ x8_2 t126 _ ?side1 ?side2 A63.out).mono ?_); (case side1 => repeat (first | exact (Kd.S_reads' HO_8.out).2.2 | (with_reducible refine Kd.C_alloc ?_ _) | (with_reducible refine Kd.C_drewN ?_ _) | (with_reducible refine Kd.C_drew ?_))); (case side2 => exact (Kd.S_reads' HO_8.out).2.1); rintro e w64 ⟨rfl, hb⟩; refine ⟨_, rfl, ?_⟩; have n0_ := Az0.mk (Kd.S_below (by (with_reducible repeat (first | apply Kd.S_alloc | apply Kd.S_drewN | apply Kd.S_drew)); exact HO_8.out) hb); have n1_ := Az0.mk (blk_below (g := gb118) (o := .cells #[.int .i64 a0, .slice A1 l1.length c1, .map mr118] 70 (0, 0)) (by (with_reducible repeat (first | refine blk_drewN ?_ _ | refine blk_drew ?_ | refine blk_alloc ?_ _)); exact BK118.out) hb); have n2_ := Az0.mk (below_step (by repeat (first | (with_reducible first | exact HB.out | apply baA_ | apply pbN_ | apply bD1_ | refine below_set ?_ GE118.out) | exact HB.out)) hb); clear HO_8; clear BK118; clear HB; have HO_8 := n0_; have BK118 := n1_; have HB := n2_; clear n0_ n1_ n2_; (try clear hb); (try clear hb2); (try clear hk); (try clear hi)))
          go_ret2
          exact ⟨by first | rfl | (simp [errW_none, errW_some] <;> rfl) | (simp only [← hji5]; first | rfl | (simp [errW_none, errW_some] <;> rfl)) | (simp [*, errW_none, errW_some] <;> rfl), by repeat (first | (with_reducible first | exact HB.out | apply baA_ | apply pbN_ | apply bD1_ | refine below_set ?_ GE118.out) | exact HB.out)⟩
   ·rw [if_neg c7] at H
    exact absurd H (by simp)
  ·rw [if_neg c6] at H
   exact absurd H (by simp)
 ·rw [if_neg c4] at H
  have c4b0 : (t117 == 0) = false := beq_eq_false_iff_ne.mpr c4
  have c4b1 : (t117 != 0) = true := bne_iff_ne.mpr c4
  simp only [Option.some.injEq, Prod.mk.injEq] at H
  obtain ⟨rfl, rfl⟩ := H
  go_enter Try.func18, Try.ntmps18
  go_wp2_with (first | (go_at_call 44; (with_reducible refine (branch_read.calls_err a0 A1 c1 l1 t117 _ ?side1 ?side2 A3.out (by first | (with_reducible assumption) | assumption)).mono ?_); (case side1 => repeat (first | exact HR1.out | (with_reducible refine Kd.C_alloc ?_ _) | (with_reducible refine Kd.C_drewN ?_ _) | (with_reducible refine Kd.C_drew ?_))); (case side2 => exact HC1.out); rintro e w65 ⟨rfl, hb⟩; have n0_ := Az0.mk (below_step (by repeat (first | (with_reducible first | exact HB.out | apply baA_ | apply pbN_ | apply bD1_) | exact HB.out)) hb); clear HB; have HB := n0_; clear n0_; (try clear hb)))
  go_ret2
  exact ⟨by first | rfl | (simp [errW_none, errW_some] <;> rfl) | (simp [*, errW_none, errW_some] <;> rfl), by repeat (first | (with_reducible first | exact HB.out | apply baA_ | apply pbN_ | apply bD1_) | exact HB.out)⟩
end Go.Proofs.Ytpmadffgdfholaa.B
namespace Go.Proofs.Ytpmadffgdfholaa.B
open Go.RowKit Go.MapKept Go.Proofs.YtpmadffgdfholaaW.PrintWords Go.Proofs.YtpmadffgdfholaaW.PrintLast Go.Proofs.YtpmadffgdfholaaW.PrintMore
set_option linter.unusedVariables false
set_option linter.unusedSimpArgs false
attribute [local go_sem ↓] Go.wp_at_zero Go.wp_at_succ
def branch_Branching.f (k : Nat) (a0 : Int) (l1 : List S30) : Option (List Int × Int × Int) :=
  (branch_read.f a0 l1).bind fun t => if t = 0 then (branch_town_costs.f k a0 l1).bind fun p => branch_town_first.f k a0 l1 p else some ([], 0, t)
theorem branch_Branching.mono : ∀ a0 a1 k, LeO (branch_Branching.f k a0 a1) (branch_Branching.f (k + 1) a0 a1) := by
  intro a0 a1 k
  unfold branch_Branching.f
  refine LeO.bind (LeO.refl _) fun t => LeO.ite ?_ (LeO.refl _)
  exact LeO.bind (branch_town_costs.mono _ _ k) fun p => branch_town_first.mono _ _ _ k
set_option maxHeartbeats 8000000 in
set_option maxRecDepth 100000 in
theorem branch_Branching.calls (k : Nat) (a0 : Int) (A1 : Option Addr) (c1 : Nat) (l1 : List S30) (r1 : List Int) (r2 r3 : Int) (w : World) (hr1 : Kd.C k30 w A1 l1.length l1) (hc1 : l1.length ≤ c1) (h : branch_Branching.f k a0 l1 = some (r1, r2, r3)) :
  Calls Try.prog 24 #[.int .i64 a0, .slice A1 l1.length c1] w fun e w' => ∃ v0_ : Value, e = .returned (.tuple #[v0_, .int .i64 r2, .int .i64 r3]) ∧ Kd.R (Kd.int .i64) 3 w' w.heap.size (fun _ => True) v0_ r1 ∧ Below w.heap.size w w' := by
 have HR1 := Az0.mk hr1
 have HC1 := Az0.mk hc1
 clear hr1 hc1
 have HB := Az0.mk (Below.refl w.heap.size w)
 unfold branch_Branching.f at h
 obtain ⟨t, ht, h⟩ := Option.bind_eq_some_iff.1 h
 have HT0 := Az0.mk ht
 clear ht
 by_cases c3 : t = 0
 case neg =>
  rw [if_neg c3] at h
  have c3b : (t == 0) = false := beq_eq_false_iff_ne.mpr c3
  have c3c : (t != 0) = true := bne_iff_ne.mpr c3
  simp only [Option.some.injEq, Prod.mk.injEq] at h
  obtain ⟨rfl, rfl, rfl⟩ := h
  clear c3
  go_enter Try.func24, Try.ntmps24
  go_wp2_with (first | (go_at_call 44; (refine (branch_read.calls_err a0 A1 c1 l1 t _ HR1.out HC1.out HT0.out (by assumption)).mono ?_); rintro e w1 ⟨rfl, hb⟩; clear HB; have HB := Az0.mk hb; clear hb))
  go_ret3
  exact ⟨_, by first | rfl | (simp; done), Kd.R_nil _ _ _ _ _, HB.out⟩
 rw [if_pos c3] at h
 have c3b : (t == 0) = true := beq_iff_eq.mpr c3
 have c3c : (t != 0) = false := bne_eq_false_iff_eq.mpr c3
 clear c3
 obtain ⟨p, hp, h⟩ := Option.bind_eq_some_iff.1 h
 have HPR := Az0.mk hp
 clear hp
 have HF := Az0.mk h
 clear h
 go_enter Try.func24, Try.ntmps24
 go_wp2_with (first | (go_at_call 44; (refine (branch_read.calls_map a0 A1 c1 l1 t _ HR1.out HC1.out HT0.out (by assumption)).mono ?_); rintro e w1 ⟨gt, mm, rfl, hg, hbox, hgm, hb⟩; have GT := Az0.mk hg; have HT := Az0.mk hbox; have HG := Az0.mk hgm; clear HB; have HB := Az0.mk hb; clear hg hbox hgm hb) | (go_at_call 47; (refine (branch_town_costs.calls k gt a0 A1 c1 l1 (some mm) p _ HT.out (Kd.C_below HR1.out HB.out) HC1.out HPR.out).mono ?_); rintro e w2 ⟨vl, rfl, ho, hb⟩; obtain ⟨Al, cl, hvl⟩ := Kd.R_slice ho; subst hvl; have HO := Az0.mk (Kd.R_lower ho (below_size HB.out)); have n0_ := Az0.mk (blk_below HT.out hb); have n1_ := Az0.mk (below_step HB.out hb); have n2_ := Az0.mk (HG.out.below hb); clear HT HB HG; have HT := n0_; have HB := n1_; have HG := n2_; clear n0_ n1_ n2_ ho hb) | (go_at_call 51; (refine (branch_town_first.calls k gt a0 A1 c1 l1 mm w.heap.size Al cl p r1 r2 r3 _ HT.out (Kd.C_below HR1.out HB.out) HC1.out (Kd.R_reads' HO.out).2.2 (Kd.R_reads' HO.out).2.1 HG.out HF.out).mono ?_); rintro e w3 ⟨vf, rfl, ho, hb⟩; have HV := Az0.mk (Kd.R_lower ho (below_size HB.out)); have n0_ := Az0.mk (below_step HB.out hb); clear HB; have HB := n0_; clear n0_ ho hb))
 go_ret3
 exact ⟨_, by first | rfl | (simp; done), by (with_reducible repeat (first | apply Kd.R_alloc | apply Kd.R_drewN | apply Kd.R_drew)); exact HV.out, by repeat (first | (with_reducible first | exact HB.out | apply baA_ | apply pbN_ | apply bD1_) | exact HB.out)⟩
end Go.Proofs.Ytpmadffgdfholaa.B
namespace Go.Proofs.Ytpmadffgdfholaa.B
open Go.RowKit Go.Proofs.YtpmadffgdfholaaW.PrintWords Go.Proofs.YtpmadffgdfholaaW.PrintLast Go.Proofs.YtpmadffgdfholaaW.PrintMore
attribute [local go_sem] max2_int min2_int max_two min_two max_three min_three max_four min_four   -- for this text's walks alone
set_option linter.unusedVariables false
set_option linter.unusedSimpArgs false
def trishawlaw03_alive.f (k : Nat)  : Option (Bool) := (trishawlaw03_three.f).bind fun t101 => ((branch_Branching.f k 3 t101).bind fun bt104 => ((trishawlaw03_three.f).bind fun t109 => ((branch_Proves.f k 3 t109 (([(⟨4, 1⟩ : S41), (⟨2, 2⟩ : S41)] : List (S41)))).bind fun bt115 => ((trishawlaw03_three.f).bind fun t118 => ((branch_Count.f k 3 t118).bind fun bt121 => ((trishawlaw03_three.f).bind fun t123 => ((branch_Narrow.f k 3 t123).bind fun bt126 => (if bt104.2.2 = 0 then ((trishawlaw03_same.f k bt104.1 (([1, 2] : List Int))).bind fun t132 => (if t132 = true then (if bt104.2.1 = 3 then (if bt115.2.2 = 0 then (if bt115.2.1 = true then (if bt115.1 = 3 then (if bt121.2 = 0 then (if bt121.1 = 2 then (if bt126.2.2 = 0 then (if bt126.1 = 1 then (some (bt126.2.1 == 4)) else (some false)) else (some false)) else (some false)) else (some false)) else (some false)) else (some false)) else (some false)) else (some false)) else (some false))) else (some false)))))))))
theorem trishawlaw03_alive.mono : ∀ k, LeO (trishawlaw03_alive.f k ) (trishawlaw03_alive.f (k + 1) ) := by
  intro  k
  unfold trishawlaw03_alive.f
  repeat' first
      | (with_reducible exact branch_Branching.mono _ _ _)
      | (with_reducible exact branch_Count.mono _ _ _)
      | (with_reducible exact branch_Narrow.mono _ _ _)
      | (with_reducible exact branch_Proves.mono _ _ _ _)
      | (with_reducible exact trishawlaw03_same.mono _ _ _)
      | (with_reducible exact LeO.refl _)
      | (with_reducible exact LeO.none _)
      | (with_reducible refine LeO.ite ?_ ?_)
      | (with_reducible refine LeO.bind ?_ (fun _ => ?_))
      | exact branch_Branching.mono _ _ _
      | exact branch_Count.mono _ _ _
      | exact branch_Narrow.mono _ _ _
      | exact branch_Proves.mono _ _ _ _
      | exact trishawlaw03_same.mono _ _ _
      | exact LeO.none _
      | refine LeO.ite ?_ ?_
      | refine LeO.bind ?_ (fun _ => ?_)
theorem alive_true : trishawlaw03_alive.f 60 = some true := by kernel_rfl
theorem alive_from (k : Nat) (h : 60 ≤ k) : trishawlaw03_alive.f k = some true := by
  obtain ⟨d, rfl⟩ : ∃ d, k = 60 + d := ⟨k - 60, by omega⟩
  induction d with
  | zero => exact alive_true
  | succ d ih => exact trishawlaw03_alive.mono (60 + d) true (ih (by omega))
theorem alive_up (k : Nat) (r : Bool) (h : trishawlaw03_alive.f k = some r) (d : Nat) : trishawlaw03_alive.f (k + d) = some r := by
  induction d with
  | zero => exact h
  | succ d ih => exact trishawlaw03_alive.mono (k + d) r ih
theorem alive_only (k : Nat) (r : Bool) (h : trishawlaw03_alive.f k = some r) : r = true := by
  have h1 := alive_up k r h 60
  rw [alive_from (k + 60) (by omega)] at h1
  exact (Option.some.inj h1).symm
set_option maxHeartbeats 8000000 in
set_option maxRecDepth 100000 in
theorem trishawlaw03_alive.calls (k : Nat)  (r : Bool) (w : World) (h : trishawlaw03_alive.f k  = some r) :
  Calls Try.prog 17 #[] w fun e w' => e = .returned (.bool r) ∧ Below w.heap.size w w' := by
 have hu41 := Try.underlying41
 have HB := Az0.mk (Below.refl w.heap.size w)
 have H : ((trishawlaw03_three.f).bind fun t101 => ((branch_Branching.f k 3 t101).bind fun bt104 => ((trishawlaw03_three.f).bind fun t109 => ((branch_Proves.f k 3 t109 (([(⟨4, 1⟩ : S41), (⟨2, 2⟩ : S41)] : List (S41)))).bind fun bt115 => ((trishawlaw03_three.f).bind fun t118 => ((branch_Count.f k 3 t118).bind fun bt121 => ((trishawlaw03_three.f).bind fun t123 => ((branch_Narrow.f k 3 t123).bind fun bt126 => (if bt104.2.2 = 0 then ((trishawlaw03_same.f k bt104.1 (([1, 2] : List Int))).bind fun t132 => (if t132 = true then (if bt104.2.1 = 3 then (if bt115.2.2 = 0 then (if bt115.2.1 = true then (if bt115.1 = 3 then (if bt121.2 = 0 then (if bt121.1 = 2 then (if bt126.2.2 = 0 then (if bt126.1 = 1 then (some (bt126.2.1 == 4)) else (some false)) else (some false)) else (some false)) else (some false)) else (some false)) else (some false)) else (some false)) else (some false)) else (some false))) else (some false)))))))))) = some r := h
 have HRT := Az0.mk (alive_only k r h)
 clear h
 replace H := Option.bind_eq_some_iff.mp H
 obtain ⟨t101, A10, H⟩ := H
 replace H : ((branch_Branching.f k 3 t101).bind fun bt104 => ((trishawlaw03_three.f).bind fun t109 => ((branch_Proves.f k 3 t109 (([(⟨4, 1⟩ : S41), (⟨2, 2⟩ : S41)] : List (S41)))).bind fun bt115 => ((trishawlaw03_three.f).bind fun t118 => ((branch_Count.f k 3 t118).bind fun bt121 => ((trishawlaw03_three.f).bind fun t123 => ((branch_Narrow.f k 3 t123).bind fun bt126 => (if bt104.2.2 = 0 then ((trishawlaw03_same.f k bt104.1 (([1, 2] : List Int))).bind fun t132 => (if t132 = true then (if bt104.2.1 = 3 then (if bt115.2.2 = 0 then (if bt115.2.1 = true then (if bt115.1 = 3 then (if bt121.2 = 0 then (if bt121.1 = 2 then (if bt126.2.2 = 0 then (if bt126.1 = 1 then (some (bt126.2.1 == 4)) else (some false)) else (some false)) else (some false)) else (some false)) else (some false)) else (some false)) else (some false)) else (some false)) else (some false))) else (some false))))))))) = some r := H
 have A1 := Az0.mk A10
 clear A10
 replace H := Option.bind_eq_some_iff.mp H
 obtain ⟨⟨t104, t105, t106⟩, A20, H⟩ := H
 replace H : ((trishawlaw03_three.f).bind fun t109 => ((branch_Proves.f k 3 t109 (([(⟨4, 1⟩ : S41), (⟨2, 2⟩ : S41)] : List (S41)))).bind fun bt115 => ((trishawlaw03_three.f).bind fun t118 => ((branch_Count.f k 3 t118).bind fun bt121 => ((trishawlaw03_three.f).bind fun t123 => ((branch_Narrow.f k 3 t123).bind fun bt126 => (if t106 = 0 then ((trishawlaw03_same.f k t104 (([1, 2] : List Int))).bind fun t132 => (if t132 = true then (if t105 = 3 then (if bt115.2.2 = 0 then (if bt115.2.1 = true then (if bt115.1 = 3 then (if bt121.2 = 0 then (if bt121.1 = 2 then (if bt126.2.2 = 0 then (if bt126.1 = 1 then (some (bt126.2.1 == 4)) else (some false)) else (some false)) else (some false)) else (some false)) else (some false)) else (some false)) else (some false)) else (some false)) else (some false))) else (some false)))))))) = some r := H
 have A2 := Az0.mk A20
 clear A20
 replace H := Option.bind_eq_some_iff.mp H
 obtain ⟨t109, A30, H⟩ := H
 replace H : ((branch_Proves.f k 3 t109 (([(⟨4, 1⟩ : S41), (⟨2, 2⟩ : S41)] : List (S41)))).bind fun bt115 => ((trishawlaw03_three.f).bind fun t118 => ((branch_Count.f k 3 t118).bind fun bt121 => ((trishawlaw03_three.f).bind fun t123 => ((branch_Narrow.f k 3 t123).bind fun bt126 => (if t106 = 0 then ((trishawlaw03_same.f k t104 (([1, 2] : List Int))).bind fun t132 => (if t132 = true then (if t105 = 3 then (if bt115.2.2 = 0 then (if bt115.2.1 = true then (if bt115.1 = 3 then (if bt121.2 = 0 then (if bt121.1 = 2 then (if bt126.2.2 = 0 then (if bt126.1 = 1 then (some (bt126.2.1 == 4)) else (some false)) else (some false)) else (some false)) else (some false)) else (some false)) else (some false)) else (some false)) else (some false)) else (some false))) else (some false))))))) = some r := H
 have A3 := Az0.mk A30
 clear A30
 obtain ⟨y112, hy112⟩ : ∃ y_ : List (S41), y_ = (([(⟨4, 1⟩ : S41), (⟨2, 2⟩ : S41)] : List (S41))) := ⟨_, rfl⟩
 replace H : ((branch_Proves.f k 3 t109 y112).bind fun bt115 => ((trishawlaw03_three.f).bind fun t118 => ((branch_Count.f k 3 t118).bind fun bt121 => ((trishawlaw03_three.f).bind fun t123 => ((branch_Narrow.f k 3 t123).bind fun bt126 => (if t106 = 0 then ((trishawlaw03_same.f k t104 (([1, 2] : List Int))).bind fun t132 => (if t132 = true then (if t105 = 3 then (if bt115.2.2 = 0 then (if bt115.2.1 = true then (if bt115.1 = 3 then (if bt121.2 = 0 then (if bt121.1 = 2 then (if bt126.2.2 = 0 then (if bt126.1 = 1 then (some (bt126.2.1 == 4)) else (some false)) else (some false)) else (some false)) else (some false)) else (some false)) else (some false)) else (some false)) else (some false)) else (some false))) else (some false))))))) = some r := by first | (rw [hy112]; with_reducible exact H) | (have H2_ := (Option.bind_some _ _).symm.trans H; rw [hy112]; with_reducible exact H2_) | (have H2_ := (Option.bind_some _ _).symm.trans H; with_reducible exact H2_) | with_reducible exact H | (rw [hy112]; exact H) | exact H
 have Ny112 := Az0.mk hy112
 clear hy112
 replace H := Option.bind_eq_some_iff.mp H
 obtain ⟨⟨t115, t116, t117⟩, A40, H⟩ := H
 replace H : ((trishawlaw03_three.f).bind fun t118 => ((branch_Count.f k 3 t118).bind fun bt121 => ((trishawlaw03_three.f).bind fun t123 => ((branch_Narrow.f k 3 t123).bind fun bt126 => (if t106 = 0 then ((trishawlaw03_same.f k t104 (([1, 2] : List Int))).bind fun t132 => (if t132 = true then (if t105 = 3 then (if t117 = 0 then (if t116 = true then (if t115 = 3 then (if bt121.2 = 0 then (if bt121.1 = 2 then (if bt126.2.2 = 0 then (if bt126.1 = 1 then (some (bt126.2.1 == 4)) else (some false)) else (some false)) else (some false)) else (some false)) else (some false)) else (some false)) else (some false)) else (some false)) else (some false))) else (some false)))))) = some r := H
 have A4 := Az0.mk A40
 clear A40
 replace H := Option.bind_eq_some_iff.mp H
 obtain ⟨t118, A50, H⟩ := H
 replace H : ((branch_Count.f k 3 t118).bind fun bt121 => ((trishawlaw03_three.f).bind fun t123 => ((branch_Narrow.f k 3 t123).bind fun bt126 => (if t106 = 0 then ((trishawlaw03_same.f k t104 (([1, 2] : List Int))).bind fun t132 => (if t132 = true then (if t105 = 3 then (if t117 = 0 then (if t116 = true then (if t115 = 3 then (if bt121.2 = 0 then (if bt121.1 = 2 then (if bt126.2.2 = 0 then (if bt126.1 = 1 then (some (bt126.2.1 == 4)) else (some false)) else (some false)) else (some false)) else (some false)) else (some false)) else (some false)) else (some false)) else (some false)) else (some false))) else (some false))))) = some r := H
 have A5 := Az0.mk A50
 clear A50
 replace H := Option.bind_eq_some_iff.mp H
 obtain ⟨⟨t121, t122⟩, A60, H⟩ := H
 replace H : ((trishawlaw03_three.f).bind fun t123 => ((branch_Narrow.f k 3 t123).bind fun bt126 => (if t106 = 0 then ((trishawlaw03_same.f k t104 (([1, 2] : List Int))).bind fun t132 => (if t132 = true then (if t105 = 3 then (if t117 = 0 then (if t116 = true then (if t115 = 3 then (if t122 = 0 then (if t121 = 2 then (if bt126.2.2 = 0 then (if bt126.1 = 1 then (some (bt126.2.1 == 4)) else (some false)) else (some false)) else (some false)) else (some false)) else (some false)) else (some false)) else (some false)) else (some false)) else (some false))) else (some false)))) = some r := H
 have A6 := Az0.mk A60
 clear A60
 replace H := Option.bind_eq_some_iff.mp H
 obtain ⟨t123, A70, H⟩ := H
 replace H : ((branch_Narrow.f k 3 t123).bind fun bt126 => (if t106 = 0 then ((trishawlaw03_same.f k t104 (([1, 2] : List Int))).bind fun t132 => (if t132 = true then (if t105 = 3 then (if t117 = 0 then (if t116 = true then (if t115 = 3 then (if t122 = 0 then (if t121 = 2 then (if bt126.2.2 = 0 then (if bt126.1 = 1 then (some (bt126.2.1 == 4)) else (some false)) else (some false)) else (some false)) else (some false)) else (some false)) else (some false)) else (some false)) else (some false)) else (some false))) else (some false))) = some r := H
 have A7 := Az0.mk A70
 clear A70
 replace H := Option.bind_eq_some_iff.mp H
 obtain ⟨⟨t126, t127, t128⟩, A80, H⟩ := H
 replace H : (if t106 = 0 then ((trishawlaw03_same.f k t104 (([1, 2] : List Int))).bind fun t132 => (if t132 = true then (if t105 = 3 then (if t117 = 0 then (if t116 = true then (if t115 = 3 then (if t122 = 0 then (if t121 = 2 then (if t128 = 0 then (if t126 = 1 then (some (t127 == 4)) else (some false)) else (some false)) else (some false)) else (some false)) else (some false)) else (some false)) else (some false)) else (some false)) else (some false))) else (some false)) = some r := H
 have A8 := Az0.mk A80
 clear A80
 by_cases c9 : t106 = 0
 ·rw [if_pos c9] at H
  have c9b0 : (t106 == 0) = true := beq_iff_eq.mpr c9
  have c9b1 : (t106 != 0) = false := bne_eq_false_iff_eq.mpr c9
  clear c9
  obtain ⟨y129, hy129⟩ : ∃ y_ : List Int, y_ = (([1, 2] : List Int)) := ⟨_, rfl⟩
  replace H : ((trishawlaw03_same.f k t104 y129).bind fun t132 => (if t132 = true then (if t105 = 3 then (if t117 = 0 then (if t116 = true then (if t115 = 3 then (if t122 = 0 then (if t121 = 2 then (if t128 = 0 then (if t126 = 1 then (some (t127 == 4)) else (some false)) else (some false)) else (some false)) else (some false)) else (some false)) else (some false)) else (some false)) else (some false)) else (some false))) = some r := by first | (rw [hy129]; with_reducible exact H) | (have H2_ := (Option.bind_some _ _).symm.trans H; rw [hy129]; with_reducible exact H2_) | (have H2_ := (Option.bind_some _ _).symm.trans H; with_reducible exact H2_) | with_reducible exact H | (rw [hy129]; exact H) | exact H
  have Ny129 := Az0.mk hy129
  clear hy129
  replace H := Option.bind_eq_some_iff.mp H
  obtain ⟨t132, A100, H⟩ := H
  replace H : (if t132 = true then (if t105 = 3 then (if t117 = 0 then (if t116 = true then (if t115 = 3 then (if t122 = 0 then (if t121 = 2 then (if t128 = 0 then (if t126 = 1 then (some (t127 == 4)) else (some false)) else (some false)) else (some false)) else (some false)) else (some false)) else (some false)) else (some false)) else (some false)) else (some false)) = some r := H
  have A10 := Az0.mk A100
  clear A100
  by_cases c11 : t132 = true
  ·subst c11
   have H1 : (if t105 = 3 then (if t117 = 0 then (if t116 = true then (if t115 = 3 then (if t122 = 0 then (if t121 = 2 then (if t128 = 0 then (if t126 = 1 then (some (t127 == 4)) else (some false)) else (some false)) else (some false)) else (some false)) else (some false)) else (some false)) else (some false)) else (some false)) = some r := by rw [if_pos rfl] at H; exact H
   clear H
   have H := H1
   clear H1
   by_cases c12 : t105 = 3
   ·rw [if_pos c12] at H
    have c12b0 : (t105 == 3) = true := beq_iff_eq.mpr c12
    have c12b1 : (t105 != 3) = false := bne_eq_false_iff_eq.mpr c12
    clear c12
    by_cases c13 : t117 = 0
    ·rw [if_pos c13] at H
     have c13b0 : (t117 == 0) = true := beq_iff_eq.mpr c13
     have c13b1 : (t117 != 0) = false := bne_eq_false_iff_eq.mpr c13
     clear c13
     by_cases c14 : t116 = true
     ·subst c14
      have H1 : (if t115 = 3 then (if t122 = 0 then (if t121 = 2 then (if t128 = 0 then (if t126 = 1 then (some (t127 == 4)) else (some false)) else (some false)) else (some false)) else (some false)) else (some false)) = some r := by rw [if_pos rfl] at H; exact H
      clear H
      have H := H1
      clear H1
      by_cases c15 : t115 = 3
      ·rw [if_pos c15] at H
       have c15b0 : (t115 == 3) = true := beq_iff_eq.mpr c15
       have c15b1 : (t115 != 3) = false := bne_eq_false_iff_eq.mpr c15
       clear c15
       by_cases c16 : t122 = 0
       ·rw [if_pos c16] at H
        have c16b0 : (t122 == 0) = true := beq_iff_eq.mpr c16
        have c16b1 : (t122 != 0) = false := bne_eq_false_iff_eq.mpr c16
        clear c16
        by_cases c17 : t121 = 2
        ·rw [if_pos c17] at H
         have c17b0 : (t121 == 2) = true := beq_iff_eq.mpr c17
         have c17b1 : (t121 != 2) = false := bne_eq_false_iff_eq.mpr c17
         clear c17
         by_cases c18 : t128 = 0
         ·rw [if_pos c18] at H
          have c18b0 : (t128 == 0) = true := beq_iff_eq.mpr c18
          have c18b1 : (t128 != 0) = false := bne_eq_false_iff_eq.mpr c18
          clear c18
          by_cases c19 : t126 = 1
          ·rw [if_pos c19] at H
           have c19b0 : (t126 == 1) = true := beq_iff_eq.mpr c19
           have c19b1 : (t126 != 1) = false := bne_eq_false_iff_eq.mpr c19
           clear c19
           obtain rfl := Option.some.inj H
           go_enter Try.func17, Try.ntmps17
           go_wp2_with (first | ((with_reducible refine gate_callee (f := 43) rfl ?_); refine goesL_ (some 13) rfl rfl Try.func43 (by kernel_rfl) rfl #[] rfl (by (try simp only [List.map_toArray, List.map_cons, List.map_nil]); first | done | rfl | (simp only [List.length_drop, List.length_take]; rfl)) ?_; (with_reducible refine (trishawlaw03_three.calls  t101 _ A1.out).mono ?_); rintro e w20 ⟨v102, rfl, ho0, hb⟩; refine ⟨_, rfl, ?_⟩; have n0_ := Az0.mk (Kd.R_lower ho0 (below_size (by repeat (first | (with_reducible first | exact HB.out | apply baA_ | apply pbN_ | apply bD1_) | exact HB.out)))); have n1_ := Az0.mk (below_step (by repeat (first | (with_reducible first | exact HB.out | apply baA_ | apply pbN_ | apply bD1_) | exact HB.out)) hb); clear HB; have HO103 := n0_; have HB := n1_; clear n0_ n1_; (try clear hb); (try clear hb2); (try clear hk); (try clear hi); (try clear ho0); obtain ⟨Ao21, co21, eo21⟩ := Kd.R_slice HO103.out; subst eo21) | ((with_reducible refine gate_callee (f := 24) rfl ?_); refine goesL_ (some 14) rfl rfl Try.func24 (by kernel_rfl) rfl #[.int .i64 3, .slice Ao21 t101.length co21] rfl (by (try simp only [List.map_toArray, List.map_cons, List.map_nil]); first | done | rfl | (simp only [List.length_drop, List.length_take]; rfl)) ?_; (with_reducible refine (branch_Branching.calls k 3 _ _ t101 t104 t105 t106 _ ?side1 ?side2 A2.out).mono ?_); (case side1 => repeat (first | exact (Kd.R_reads' HO103.out).2.2 | (with_reducible refine Kd.C_alloc ?_ _) | (with_reducible refine Kd.C_drewN ?_ _) | (with_reducible refine Kd.C_drew ?_))); (case side2 => exact (Kd.R_reads' HO103.out).2.1); rintro e w22 ⟨v107, rfl, ho0, hb⟩; refine ⟨_, rfl, ?_⟩; have n0_ := Az0.mk (Kd.R_below (by (with_reducible repeat (first | apply Kd.R_alloc | apply Kd.R_drewN | apply Kd.R_drew)); exact HO103.out) hb); have n1_ := Az0.mk (Kd.R_lower ho0 (below_size (by repeat (first | (with_reducible first | exact HB.out | apply baA_ | apply pbN_ | apply bD1_) | exact HB.out)))); have n2_ := Az0.mk (below_step (by repeat (first | (with_reducible first | exact HB.out | apply baA_ | apply pbN_ | apply bD1_) | exact HB.out)) hb); clear HO103; clear HB; have HO103 := n0_; have HO108 := n1_; have HB := n2_; clear n0_ n1_ n2_; (try clear hb); (try clear hb2); (try clear hk); (try clear hi); (try clear ho0)) | ((with_reducible refine gate_callee (f := 43) rfl ?_); refine goesL_ (some 19) rfl rfl Try.func43 (by kernel_rfl) rfl #[] rfl (by (try simp only [List.map_toArray, List.map_cons, List.map_nil]); first | done | rfl | (simp only [List.length_drop, List.length_take]; rfl)) ?_; (with_reducible refine (trishawlaw03_three.calls  t109 _ A3.out).mono ?_); rintro e w23 ⟨v110, rfl, ho0, hb⟩; refine ⟨_, rfl, ?_⟩; have n0_ := Az0.mk (Kd.R_elder' (by (with_reducible repeat (first | apply Kd.R_alloc | apply Kd.R_drewN | apply Kd.R_drew)); exact HO103.out) (Kd.R_base ho0) hb); have n1_ := Az0.mk (Kd.R_below (by (with_reducible repeat (first | apply Kd.R_alloc | apply Kd.R_drewN | apply Kd.R_drew)); exact HO108.out) hb); have n2_ := Az0.mk (Kd.R_lower (Kd.R_new' ho0 (Kd.R_lt (by (with_reducible repeat (first | apply Kd.R_alloc | apply Kd.R_drewN | apply Kd.R_drew)); exact HO103.out))) (below_size (by repeat (first | (with_reducible first | exact HB.out | apply baA_ | apply pbN_ | apply bD1_) | exact HB.out)))); have n3_ := Az0.mk (below_step (by repeat (first | (with_reducible first | exact HB.out | apply baA_ | apply pbN_ | apply bD1_) | exact HB.out)) hb); clear HO103; clear HO108; clear HB; have HO103 := n0_; have HO108 := n1_; have HO111 := n2_; have HB := n3_; clear n0_ n1_ n2_ n3_; (try clear hb); (try clear hb2); (try clear hk); (try clear hi); (try clear ho0)) | ((with_reducible refine gate_dst (N := 22) rfl ?_); (try (refine gate_guard (by rfl) ?_; dsimp only)); refine Kd.R_lit k41 _ 41 ?hg (N := 22) ?hd (xs := ([(⟨4, 1⟩ : S41), (⟨2, 2⟩ : S41)] : List (S41))) (inner := [.int .i64 4, .int .i64 1, .int .i64 2, .int .i64 2]) (ok := fun _ => True) (okp := fun _ => True) ?hr ?hp (fun _ hk => hk) trivial (Below.refl _ _) (Nat.le_refl _) (by simp) ?_; (case hd => rfl); (case hg => rfl); (case hr => first | (go_simp; done) | (go_simp; rfl)); (case hp => exact (Reps.c2 (show Kd.M k41 _ _ _ (⟨4, 1⟩ : S41) [.int .i64 4, .int .i64 1] from (k41_mkM _ _ _ (⟨4, 1⟩ : S41) )) (Reps.c2 (show Kd.M k41 _ _ _ (⟨2, 2⟩ : S41) [.int .i64 2, .int .i64 2] from (k41_mkM _ _ _ (⟨2, 2⟩ : S41) )) (Reps.none _ _)))); intro v113 w24 ho25 hb hg_ hnew_; clear hg_ hnew_; (first | rw [← Ny112.out] at ho25 | (simp only [Int.reduceToNat] at ho25; rw [← Ny112.out] at ho25)); have n0_ := Az0.mk (Kd.R_below (by (with_reducible repeat (first | apply Kd.R_alloc | apply Kd.R_drewN | apply Kd.R_drew)); exact HO103.out) hb); have n1_ := Az0.mk (Kd.R_below (by (with_reducible repeat (first | apply Kd.R_alloc | apply Kd.R_drewN | apply Kd.R_drew)); exact HO108.out) hb); have n2_ := Az0.mk (Kd.R_below (by (with_reducible repeat (first | apply Kd.R_alloc | apply Kd.R_drewN | apply Kd.R_drew)); exact HO111.out) hb); have n3_ := Az0.mk (Kd.R_lower ho25 (below_size (by repeat (first | (with_reducible first | exact HB.out | apply baA_ | apply pbN_ | apply bD1_) | exact HB.out)))); have n4_ := Az0.mk (below_step (by repeat (first | (with_reducible first | exact HB.out | apply baA_ | apply pbN_ | apply bD1_) | exact HB.out)) hb); clear HO103; clear HO108; clear HO111; clear HB; have HO103 := n0_; have HO108 := n1_; have HO111 := n2_; have HO114 := n3_; have HB := n4_; clear n0_ n1_ n2_ n3_ n4_; clear hb ho25; obtain ⟨Ao26, co26, eo26⟩ := Kd.R_slice HO111.out; subst eo26; obtain ⟨Ao27, co27, eo27⟩ := Kd.R_slice HO114.out; subst eo27) | ((with_reducible refine gate_callee (f := 37) rfl ?_); refine goesL_ (some 23) rfl rfl Try.func37 (by kernel_rfl) rfl #[.int .i64 3, .slice Ao26 t109.length co26, .slice Ao27 y112.length co27] rfl (by (try simp only [List.map_toArray, List.map_cons, List.map_nil]); first | done | rfl | (simp only [List.length_drop, List.length_take]; rfl)) ?_; (with_reducible refine (branch_Proves.calls k 3 _ _ t109 _ _ y112 t115 true t117 _ ?side1 ?side2 ?side3 ?side4 A4.out).mono ?_); (case side1 => repeat (first | exact (Kd.R_reads' HO111.out).2.2 | (with_reducible refine Kd.C_alloc ?_ _) | (with_reducible refine Kd.C_drewN ?_ _) | (with_reducible refine Kd.C_drew ?_))); (case side2 => exact (Kd.R_reads' HO111.out).2.1); (case side3 => repeat (first | exact (Kd.R_reads' HO114.out).2.2 | (with_reducible refine Kd.C_alloc ?_ _) | (with_reducible refine Kd.C_drewN ?_ _) | (with_reducible refine Kd.C_drew ?_))); (case side4 => exact (Kd.R_reads' HO114.out).2.1); rintro e w28 ⟨rfl, hb⟩; refine ⟨_, rfl, ?_⟩; have n0_ := Az0.mk (Kd.R_below (by (with_reducible repeat (first | apply Kd.R_alloc | apply Kd.R_drewN | apply Kd.R_drew)); exact HO103.out) hb); have n1_ := Az0.mk (Kd.R_below (by (with_reducible repeat (first | apply Kd.R_alloc | apply Kd.R_drewN | apply Kd.R_drew)); exact HO108.out) hb); have n2_ := Az0.mk (Kd.R_below (by (with_reducible repeat (first | apply Kd.R_alloc | apply Kd.R_drewN | apply Kd.R_drew)); exact HO111.out) hb); have n3_ := Az0.mk (Kd.R_below (by (with_reducible repeat (first | apply Kd.R_alloc | apply Kd.R_drewN | apply Kd.R_drew)); exact HO114.out) hb); have n4_ := Az0.mk (below_step (by repeat (first | (with_reducible first | exact HB.out | apply baA_ | apply pbN_ | apply bD1_) | exact HB.out)) hb); clear HO103; clear HO108; clear HO111; clear HO114; clear HB; have HO103 := n0_; have HO108 := n1_; have HO111 := n2_; have HO114 := n3_; have HB := n4_; clear n0_ n1_ n2_ n3_ n4_; (try clear hb); (try clear hb2); (try clear hk); (try clear hi)) | ((with_reducible refine gate_callee (f := 43) rfl ?_); refine goesL_ (some 28) rfl rfl Try.func43 (by kernel_rfl) rfl #[] rfl (by (try simp only [List.map_toArray, List.map_cons, List.map_nil]); first | done | rfl | (simp only [List.length_drop, List.length_take]; rfl)) ?_; (with_reducible refine (trishawlaw03_three.calls  t118 _ A5.out).mono ?_); rintro e w29 ⟨v119, rfl, ho0, hb⟩; refine ⟨_, rfl, ?_⟩; have n0_ := Az0.mk (Kd.R_elder' (by (with_reducible repeat (first | apply Kd.R_alloc | apply Kd.R_drewN | apply Kd.R_drew)); exact HO103.out) (Kd.R_base ho0) hb); have n1_ := Az0.mk (Kd.R_below (by (with_reducible repeat (first | apply Kd.R_alloc | apply Kd.R_drewN | apply Kd.R_drew)); exact HO108.out) hb); have n2_ := Az0.mk (Kd.R_elder' (by (with_reducible repeat (first | apply Kd.R_alloc | apply Kd.R_drewN | apply Kd.R_drew)); exact HO111.out) (Kd.R_base ho0) hb); have n3_ := Az0.mk (Kd.R_below (by (with_reducible repeat (first | apply Kd.R_alloc | apply Kd.R_drewN | apply Kd.R_drew)); exact HO114.out) hb); have n4_ := Az0.mk (Kd.R_lower (Kd.R_new' (Kd.R_new' ho0 (Kd.R_lt (by (with_reducible repeat (first | apply Kd.R_alloc | apply Kd.R_drewN | apply Kd.R_drew)); exact HO103.out))) (Kd.R_lt (by (with_reducible repeat (first | apply Kd.R_alloc | apply Kd.R_drewN | apply Kd.R_drew)); exact HO111.out))) (below_size (by repeat (first | (with_reducible first | exact HB.out | apply baA_ | apply pbN_ | apply bD1_) | exact HB.out)))); have n5_ := Az0.mk (below_step (by repeat (first | (with_reducible first | exact HB.out | apply baA_ | apply pbN_ | apply bD1_) | exact HB.out)) hb); clear HO103; clear HO108; clear HO111; clear HO114; clear HB; have HO103 := n0_; have HO108 := n1_; have HO111 := n2_; have HO114 := n3_; have HO120 := n4_; have HB := n5_; clear n0_ n1_ n2_ n3_ n4_ n5_; (try clear hb); (try clear hb2); (try clear hk); (try clear hi); (try clear ho0); obtain ⟨Ao30, co30, eo30⟩ := Kd.R_slice HO120.out; subst eo30) | ((with_reducible refine gate_callee (f := 18) rfl ?_); refine goesL_ (some 29) rfl rfl Try.func18 (by kernel_rfl) rfl #[.int .i64 3, .slice Ao30 t118.length co30] rfl (by (try simp only [List.map_toArray, List.map_cons, List.map_nil]); first | done | rfl | (simp only [List.length_drop, List.length_take]; rfl)) ?_; (with_reducible refine (branch_Count.calls k 3 _ _ t118 t121 t122 _ ?side1 ?side2 A6.out).mono ?_); (case side1 => repeat (first | exact (Kd.R_reads' HO120.out).2.2 | (with_reducible refine Kd.C_alloc ?_ _) | (with_reducible refine Kd.C_drewN ?_ _) | (with_reducible refine Kd.C_drew ?_))); (case side2 => exact (Kd.R_reads' HO120.out).2.1); rintro e w31 ⟨rfl, hb⟩; refine ⟨_, rfl, ?_⟩; have n0_ := Az0.mk (Kd.R_below (by (with_reducible repeat (first | apply Kd.R_alloc | apply Kd.R_drewN | apply Kd.R_drew)); exact HO103.out) hb); have n1_ := Az0.mk (Kd.R_below (by (with_reducible repeat (first | apply Kd.R_alloc | apply Kd.R_drewN | apply Kd.R_drew)); exact HO108.out) hb); have n2_ := Az0.mk (Kd.R_below (by (with_reducible repeat (first | apply Kd.R_alloc | apply Kd.R_drewN | apply Kd.R_drew)); exact HO111.out) hb); have n3_ := Az0.mk (Kd.R_below (by (with_reducible repeat (first | apply Kd.R_alloc | apply Kd.R_drewN | apply Kd.R_drew)); exact HO114.out) hb); have n4_ := Az0.mk (Kd.R_below (by (with_reducible repeat (first | apply Kd.R_alloc | apply Kd.R_drewN | apply Kd.R_drew)); exact HO120.out) hb); have n5_ := Az0.mk (below_step (by repeat (first | (with_reducible first | exact HB.out | apply baA_ | apply pbN_ | apply bD1_) | exact HB.out)) hb); clear HO103; clear HO108; clear HO111; clear HO114; clear HO120; clear HB; have HO103 := n0_; have HO108 := n1_; have HO111 := n2_; have HO114 := n3_; have HO120 := n4_; have HB := n5_; clear n0_ n1_ n2_ n3_ n4_ n5_; (try clear hb); (try clear hb2); (try clear hk); (try clear hi)) | ((with_reducible refine gate_callee (f := 43) rfl ?_); refine goesL_ (some 33) rfl rfl Try.func43 (by kernel_rfl) rfl #[] rfl (by (try simp only [List.map_toArray, List.map_cons, List.map_nil]); first | done | rfl | (simp only [List.length_drop, List.length_take]; rfl)) ?_; (with_reducible refine (trishawlaw03_three.calls  t123 _ A7.out).mono ?_); rintro e w32 ⟨v124, rfl, ho0, hb⟩; refine ⟨_, rfl, ?_⟩; have n0_ := Az0.mk (Kd.R_elder' (by (with_reducible repeat (first | apply Kd.R_alloc | apply Kd.R_drewN | apply Kd.R_drew)); exact HO103.out) (Kd.R_base ho0) hb); have n1_ := Az0.mk (Kd.R_below (by (with_reducible repeat (first | apply Kd.R_alloc | apply Kd.R_drewN | apply Kd.R_drew)); exact HO108.out) hb); have n2_ := Az0.mk (Kd.R_elder' (by (with_reducible repeat (first | apply Kd.R_alloc | apply Kd.R_drewN | apply Kd.R_drew)); exact HO111.out) (Kd.R_base ho0) hb); have n3_ := Az0.mk (Kd.R_below (by (with_reducible repeat (first | apply Kd.R_alloc | apply Kd.R_drewN | apply Kd.R_drew)); exact HO114.out) hb); have n4_ := Az0.mk (Kd.R_elder' (by (with_reducible repeat (first | apply Kd.R_alloc | apply Kd.R_drewN | apply Kd.R_drew)); exact HO120.out) (Kd.R_base ho0) hb); have n5_ := Az0.mk (Kd.R_lower (Kd.R_new' (Kd.R_new' (Kd.R_new' ho0 (Kd.R_lt (by (with_reducible repeat (first | apply Kd.R_alloc | apply Kd.R_drewN | apply Kd.R_drew)); exact HO103.out))) (Kd.R_lt (by (with_reducible repeat (first | apply Kd.R_alloc | apply Kd.R_drewN | apply Kd.R_drew)); exact HO111.out))) (Kd.R_lt (by (with_reducible repeat (first | apply Kd.R_alloc | apply Kd.R_drewN | apply Kd.R_drew)); exact HO120.out))) (below_size (by repeat (first | (with_reducible first | exact HB.out | apply baA_ | apply pbN_ | apply bD1_) | exact HB.out)))); have n6_ := Az0.mk (below_step (by repeat (first | (with_reducible first | exact HB.out | apply baA_ | apply pbN_ | apply bD1_) | exact HB.out)) hb); clear HO103; clear HO108; clear HO111; clear HO114; clear HO120; clear HB; have HO103 := n0_; have HO108 := n1_; have HO111 := n2_; have HO114 := n3_; have HO120 := n4_; have HO125 := n5_; have HB := n6_; clear n0_ n1_ n2_ n3_ n4_ n5_ n6_; (try clear hb); (try clear hb2); (try clear hk); (try clear hi); (try clear ho0); obtain ⟨Ao33, co33, eo33⟩ := Kd.R_slice HO125.out; subst eo33) | ((with_reducible refine gate_callee (f := 30) rfl ?_); refine goesL_ (some 34) rfl rfl Try.func30 (by kernel_rfl) rfl #[.int .i64 3, .slice Ao33 t123.length co33] rfl (by (try simp only [List.map_toArray, List.map_cons, List.map_nil]); first | done | rfl | (simp only [List.length_drop, List.length_take]; rfl)) ?_; (with_reducible refine (branch_Narrow.calls k 3 _ _ t123 t126 t127 t128 _ ?side1 ?side2 A8.out).mono ?_); (case side1 => repeat (first | exact (Kd.R_reads' HO125.out).2.2 | (with_reducible refine Kd.C_alloc ?_ _) | (with_reducible refine Kd.C_drewN ?_ _) | (with_reducible refine Kd.C_drew ?_))); (case side2 => exact (Kd.R_reads' HO125.out).2.1); rintro e w34 ⟨rfl, hb⟩; refine ⟨_, rfl, ?_⟩; have n0_ := Az0.mk (Kd.R_below (by (with_reducible repeat (first | apply Kd.R_alloc | apply Kd.R_drewN | apply Kd.R_drew)); exact HO103.out) hb); have n1_ := Az0.mk (Kd.R_below (by (with_reducible repeat (first | apply Kd.R_alloc | apply Kd.R_drewN | apply Kd.R_drew)); exact HO108.out) hb); have n2_ := Az0.mk (Kd.R_below (by (with_reducible repeat (first | apply Kd.R_alloc | apply Kd.R_drewN | apply Kd.R_drew)); exact HO111.out) hb); have n3_ := Az0.mk (Kd.R_below (by (with_reducible repeat (first | apply Kd.R_alloc | apply Kd.R_drewN | apply Kd.R_drew)); exact HO114.out) hb); have n4_ := Az0.mk (Kd.R_below (by (with_reducible repeat (first | apply Kd.R_alloc | apply Kd.R_drewN | apply Kd.R_drew)); exact HO120.out) hb); have n5_ := Az0.mk (Kd.R_below (by (with_reducible repeat (first | apply Kd.R_alloc | apply Kd.R_drewN | apply Kd.R_drew)); exact HO125.out) hb); have n6_ := Az0.mk (below_step (by repeat (first | (with_reducible first | exact HB.out | apply baA_ | apply pbN_ | apply bD1_) | exact HB.out)) hb); clear HO103; clear HO108; clear HO111; clear HO114; clear HO120; clear HO125; clear HB; have HO103 := n0_; have HO108 := n1_; have HO111 := n2_; have HO114 := n3_; have HO120 := n4_; have HO125 := n5_; have HB := n6_; clear n0_ n1_ n2_ n3_ n4_ n5_ n6_; (try clear hb); (try clear hb2); (try clear hk); (try clear hi)) | ((with_reducible refine gate_dst (N := 42) rfl ?_); (try (refine gate_guard (by rfl) ?_; dsimp only)); refine Kd.R_lit (Kd.int .i64) _ 3 ?hg (N := 42) ?hd (xs := ([1, 2] : List Int)) (inner := [.int .i64 1, .int .i64 2]) (ok := fun _ => True) (okp := fun _ => True) ?hr ?hp (fun _ hk => hk) trivial (Below.refl _ _) (Nat.le_refl _) (by simp) ?_; (case hd => rfl); (case hg => rfl); (case hr => first | (go_simp; done) | (go_simp; rfl)); (case hp => exact (Reps.one (show Kd.M (Kd.int .i64) _ _ _ 1 [.int .i64 1] from rfl) (Reps.one (show Kd.M (Kd.int .i64) _ _ _ 2 [.int .i64 2] from rfl) (Reps.none _ _)))); intro v130 w35 ho36 hb hg_ hnew_; clear hg_ hnew_; (first | rw [← Ny129.out] at ho36 | (simp only [Int.reduceToNat] at ho36; rw [← Ny129.out] at ho36)); have n0_ := Az0.mk (Kd.R_below (by (with_reducible repeat (first | apply Kd.R_alloc | apply Kd.R_drewN | apply Kd.R_drew)); exact HO103.out) hb); have n1_ := Az0.mk (Kd.R_elder' (by (with_reducible repeat (first | apply Kd.R_alloc | apply Kd.R_drewN | apply Kd.R_drew)); exact HO108.out) (Kd.R_base ho36) hb); have n2_ := Az0.mk (Kd.R_below (by (with_reducible repeat (first | apply Kd.R_alloc | apply Kd.R_drewN | apply Kd.R_drew)); exact HO111.out) hb); have n3_ := Az0.mk (Kd.R_below (by (with_reducible repeat (first | apply Kd.R_alloc | apply Kd.R_drewN | apply Kd.R_drew)); exact HO114.out) hb); have n4_ := Az0.mk (Kd.R_below (by (with_reducible repeat (first | apply Kd.R_alloc | apply Kd.R_drewN | apply Kd.R_drew)); exact HO120.out) hb); have n5_ := Az0.mk (Kd.R_below (by (with_reducible repeat (first | apply Kd.R_alloc | apply Kd.R_drewN | apply Kd.R_drew)); exact HO125.out) hb); have n6_ := Az0.mk (Kd.R_lower (Kd.R_new' ho36 (Kd.R_lt (by (with_reducible repeat (first | apply Kd.R_alloc | apply Kd.R_drewN | apply Kd.R_drew)); exact HO108.out))) (below_size (by repeat (first | (with_reducible first | exact HB.out | apply baA_ | apply pbN_ | apply bD1_) | exact HB.out)))); have n7_ := Az0.mk (below_step (by repeat (first | (with_reducible first | exact HB.out | apply baA_ | apply pbN_ | apply bD1_) | exact HB.out)) hb); clear HO103; clear HO108; clear HO111; clear HO114; clear HO120; clear HO125; clear HB; have HO103 := n0_; have HO108 := n1_; have HO111 := n2_; have HO114 := n3_; have HO120 := n4_; have HO125 := n5_; have HO131 := n6_; have HB := n7_; clear n0_ n1_ n2_ n3_ n4_ n5_ n6_ n7_; clear hb ho36; obtain ⟨Ao37, co37, eo37⟩ := Kd.R_slice HO108.out; subst eo37; obtain ⟨Ao38, co38, eo38⟩ := Kd.R_slice HO131.out; subst eo38) | (go_at_call 25; (with_reducible refine (trishawlaw03_same.calls k _ _ t104 _ _ y129 true _ ?side1 ?side2 ?side3 ?side4 A10.out).mono ?_); (case side1 => repeat (first | exact (Kd.R_reads' HO108.out).2.2 | (with_reducible refine Kd.C_alloc ?_ _) | (with_reducible refine Kd.C_drewN ?_ _) | (with_reducible refine Kd.C_drew ?_))); (case side2 => exact (Kd.R_reads' HO108.out).2.1); (case side3 => repeat (first | exact (Kd.R_reads' HO131.out).2.2 | (with_reducible refine Kd.C_alloc ?_ _) | (with_reducible refine Kd.C_drewN ?_ _) | (with_reducible refine Kd.C_drew ?_))); (case side4 => exact (Kd.R_reads' HO131.out).2.1); rintro e w' ⟨rfl, ⟨nd, rfl⟩⟩))
           go_ret
           exact ⟨by first | rfl | (simp [errW_none, errW_some] <;> rfl) | (simp [*, errW_none, errW_some] <;> rfl), by repeat (first | (with_reducible first | exact HB.out | apply baA_ | apply pbN_ | apply bD1_) | exact HB.out)⟩
          ·rw [if_neg c19] at H
           exact absurd ((Option.some.inj H).trans HRT.out) (by decide)
         ·rw [if_neg c18] at H
          exact absurd ((Option.some.inj H).trans HRT.out) (by decide)
        ·rw [if_neg c17] at H
         exact absurd ((Option.some.inj H).trans HRT.out) (by decide)
       ·rw [if_neg c16] at H
        exact absurd ((Option.some.inj H).trans HRT.out) (by decide)
      ·rw [if_neg c15] at H
       exact absurd ((Option.some.inj H).trans HRT.out) (by decide)
     ·replace c14 := Bool.eq_false_iff.mpr c14
      subst c14
      have H1 : (some false) = some r := by rw [if_neg (show ¬ (false = true) by decide)] at H; exact H
      exact absurd ((Option.some.inj H1).trans HRT.out) (by decide)
    ·rw [if_neg c13] at H
     exact absurd ((Option.some.inj H).trans HRT.out) (by decide)
   ·rw [if_neg c12] at H
    exact absurd ((Option.some.inj H).trans HRT.out) (by decide)
  ·replace c11 := Bool.eq_false_iff.mpr c11
   subst c11
   have H1 : (some false) = some r := by rw [if_neg (show ¬ (false = true) by decide)] at H; exact H
   exact absurd ((Option.some.inj H1).trans HRT.out) (by decide)
 ·rw [if_neg c9] at H
  exact absurd ((Option.some.inj H).trans HRT.out) (by decide)
end Go.Proofs.Ytpmadffgdfholaa.B
namespace Go.Proofs.Ytpmadffgdfholaa.B
open Go.RowKit Go.Proofs.YtpmadffgdfholaaW.PrintWords Go.Proofs.YtpmadffgdfholaaW.PrintLast Go.Proofs.YtpmadffgdfholaaW.PrintMore
attribute [local go_sem] max2_int min2_int max_two min_two max_three min_three max_four min_four   -- for this text's walks alone
set_option linter.unusedVariables false
set_option linter.unusedSimpArgs false
mutual
def trishawlaw03_BranchNarrows.j0 : Nat → Int → List (S30) → Int → Int → Bool → Option (Bool)
  | 0, _, _, _, _, _ => none
  | k + 1, x0, x1, x8, x10, x45 => if x45 = true then (some false) else ((branch_Apart.f k x0 x1).bind fun bt109 => ((branch_Apart.f k x0 x1).bind fun bt113 => (if bt109.2 = x10 then (if bt113.2 = x10 then (trishawlaw03_BranchNarrows.j1 k x0 x1 bt109.2 x8 bt109.1 bt113.1 ((bt109.1.length : Int) != (bt113.1.length : Int))) else (trishawlaw03_BranchNarrows.j1 k x0 x1 bt109.2 x8 bt109.1 bt113.1 true)) else (trishawlaw03_BranchNarrows.j1 k x0 x1 bt109.2 x8 bt109.1 bt113.1 true))))
def trishawlaw03_BranchNarrows.j1 : Nat → Int → List (S30) → Int → Int → List (List Int) → List (List Int) → Bool → Option (Bool)
  | 0, _, _, _, _, _, _, _ => none
  | k + 1, x0, x1, x7, x8, x11, x12, x72 => if x72 = true then (some false) else (trishawlaw03_BranchNarrows.l0 k x0 x1 x7 x8 x11 x12 0)
def trishawlaw03_BranchNarrows.l0 : Nat → Int → List (S30) → Int → Int → List (List Int) → List (List Int) → Int → Option (Bool)
  | 0, _, _, _, _, _, _, _ => none
  | k + 1, x0, x1, x7, x8, x11, x12, x14 => if x14 < (x11.length : Int) then (if 0 ≤ x14 then (if x14 < (x12.length : Int) then ((trishawlaw03_same.f k (rd_L12 x11 x14) (rd_L12 x12 x14)).bind fun t119 => (if t119 = true then (trishawlaw03_BranchNarrows.l0 k x0 x1 x7 x8 x11 x12 (wrap64 (x14 + 1))) else (some false))) else (none)) else (none)) else (if x7 = 0 then (if (x11.length : Int) = x8 then ((rAp_.f k x0 x1 x11).bind fun t120 => (if t120 = true then ((trishawlaw03_alive.f k).bind fun t121 => (some t121)) else (some false))) else (some false)) else (if (x11.length : Int) = 0 then ((trishawlaw03_alive.f k).bind fun t122 => (some t122)) else (some false)))
end
def trishawlaw03_BranchNarrows.f (k : Nat) (a0 : Int) (l1 : List (S30)) : Option (Bool) := (trishawlaw03_few.f l1 ([] : List Int)).bind fun t101 => (if t101 = true then ((branch_Narrow.f k a0 l1).bind fun bt103 => ((trishawref03_Narrow.f k a0 l1).bind fun bt106 => (if bt103.1 = bt106.1 then (if bt103.2.1 = bt106.2.1 then (trishawlaw03_BranchNarrows.j0 k a0 l1 bt106.1 bt106.2.2 (bt103.2.2 != bt106.2.2)) else (trishawlaw03_BranchNarrows.j0 k a0 l1 bt106.1 bt106.2.2 true)) else (trishawlaw03_BranchNarrows.j0 k a0 l1 bt106.1 bt106.2.2 true)))) else ((trishawlaw03_alive.f k).bind fun t102 => (some t102)))
set_option maxHeartbeats 8000000 in
set_option maxRecDepth 100000 in
theorem trishawlaw03_BranchNarrows.calls (k : Nat) (a0 : Int) (A1 : Option Addr) (c1 : Nat) (l1 : List (S30)) (r : Bool) (w : World) (hr1 : Kd.C k30 w A1 l1.length l1) (hc1 : l1.length ≤ c1) (h : trishawlaw03_BranchNarrows.f k a0 l1 = some r) :
  Calls Try.prog 13 #[.int .i64 a0, .slice A1 l1.length c1] w fun e w' => e = .returned (.bool r) ∧ Below w.heap.size w w' := by
 have HR1 := Az0.mk hr1
 have HC1 := Az0.mk hc1
 clear hr1 hc1
 have HB := Az0.mk (Below.refl w.heap.size w)
 have H : ((trishawlaw03_few.f l1 ([] : List Int)).bind fun t101 => (if t101 = true then ((branch_Narrow.f k a0 l1).bind fun bt103 => ((trishawref03_Narrow.f k a0 l1).bind fun bt106 => (if bt103.1 = bt106.1 then (if bt103.2.1 = bt106.2.1 then (trishawlaw03_BranchNarrows.j0 k a0 l1 bt106.1 bt106.2.2 (bt103.2.2 != bt106.2.2)) else (trishawlaw03_BranchNarrows.j0 k a0 l1 bt106.1 bt106.2.2 true)) else (trishawlaw03_BranchNarrows.j0 k a0 l1 bt106.1 bt106.2.2 true)))) else ((trishawlaw03_alive.f k).bind fun t102 => (some t102)))) = some r := h
 clear h
 replace H := Option.bind_eq_some_iff.mp H
 obtain ⟨t101, A30, H⟩ := H
 replace H : (if t101 = true then ((branch_Narrow.f k a0 l1).bind fun bt103 => ((trishawref03_Narrow.f k a0 l1).bind fun bt106 => (if bt103.1 = bt106.1 then (if bt103.2.1 = bt106.2.1 then (trishawlaw03_BranchNarrows.j0 k a0 l1 bt106.1 bt106.2.2 (bt103.2.2 != bt106.2.2)) else (trishawlaw03_BranchNarrows.j0 k a0 l1 bt106.1 bt106.2.2 true)) else (trishawlaw03_BranchNarrows.j0 k a0 l1 bt106.1 bt106.2.2 true)))) else ((trishawlaw03_alive.f k).bind fun t102 => (some t102))) = some r := H
 have A3 := Az0.mk A30
 clear A30
 by_cases c4 : t101 = true
 ·subst c4
  have H1 : ((branch_Narrow.f k a0 l1).bind fun bt103 => ((trishawref03_Narrow.f k a0 l1).bind fun bt106 => (if bt103.1 = bt106.1 then (if bt103.2.1 = bt106.2.1 then (trishawlaw03_BranchNarrows.j0 k a0 l1 bt106.1 bt106.2.2 (bt103.2.2 != bt106.2.2)) else (trishawlaw03_BranchNarrows.j0 k a0 l1 bt106.1 bt106.2.2 true)) else (trishawlaw03_BranchNarrows.j0 k a0 l1 bt106.1 bt106.2.2 true)))) = some r := by rw [if_pos rfl] at H; exact H
  clear H
  have H := H1
  clear H1
  replace H := Option.bind_eq_some_iff.mp H
  obtain ⟨⟨t103, t104, t105⟩, A50, H⟩ := H
  replace H : ((trishawref03_Narrow.f k a0 l1).bind fun bt106 => (if t103 = bt106.1 then (if t104 = bt106.2.1 then (trishawlaw03_BranchNarrows.j0 k a0 l1 bt106.1 bt106.2.2 (t105 != bt106.2.2)) else (trishawlaw03_BranchNarrows.j0 k a0 l1 bt106.1 bt106.2.2 true)) else (trishawlaw03_BranchNarrows.j0 k a0 l1 bt106.1 bt106.2.2 true))) = some r := H
  have A5 := Az0.mk A50
  clear A50
  replace H := Option.bind_eq_some_iff.mp H
  obtain ⟨⟨t106, t107, t108⟩, A60, H⟩ := H
  replace H : (if t103 = t106 then (if t104 = t107 then (trishawlaw03_BranchNarrows.j0 k a0 l1 t106 t108 (t105 != t108)) else (trishawlaw03_BranchNarrows.j0 k a0 l1 t106 t108 true)) else (trishawlaw03_BranchNarrows.j0 k a0 l1 t106 t108 true)) = some r := H
  have A6 := Az0.mk A60
  clear A60
  have HC7 := Az0.mk H
  clear H
  go_enter Try.func13, Try.ntmps13
  go_upto_region 5 with (first | (go_at_call 15; (refine (trishawlaw03_few.calls _ _ l1 _ _ ([] : List Int) true _ ?side1 ?side2 ?side3 ?side4 A3.out).mono ?_); (case side1 => repeat (first | exact HR1.out | (with_reducible refine Kd.C_alloc ?_ _) | (with_reducible refine Kd.C_drewN ?_ _) | (with_reducible refine Kd.C_drew ?_))); (case side2 => exact HC1.out); (case side3 => exact Kd.C_nil _ _); (case side4 => exact Nat.le_refl _); rintro e w' ⟨rfl, ⟨nd, rfl⟩⟩; (try first | exact ⟨rfl, _, World.drewN_drewN _ _ _⟩ | exact ⟨rfl, _, Eq.trans (World.drewN_drewN _ _ _) (congrArg (World.drewN _) (Nat.add_assoc _ _ _))⟩)) | (go_at_call 30; (with_reducible refine (branch_Narrow.calls k a0 _ _ l1 t103 t104 t105 _ ?side1 ?side2 A5.out).mono ?_); (case side1 => repeat (first | exact HR1.out | (with_reducible refine Kd.C_alloc ?_ _) | (with_reducible refine Kd.C_drewN ?_ _) | (with_reducible refine Kd.C_drew ?_))); (case side2 => exact HC1.out); rintro e w8 ⟨rfl, hb⟩; have n0_ := Az0.mk (below_step (by repeat (first | (with_reducible first | exact HB.out | apply baA_ | apply pbN_ | apply bD1_) | exact HB.out)) hb); clear HB; have HB := n0_; clear n0_; (try clear hb); (try clear hb2); (try clear hk); (try clear hi)) | (go_at_call 39; (with_reducible refine (trishawref03_Narrow.calls k a0 _ _ l1 t106 t107 t108 _ ?side1 ?side2 A6.out).mono ?_); (case side1 => repeat (first | exact (Kd.C_below HR1.out HB.out) | (with_reducible refine Kd.C_alloc ?_ _) | (with_reducible refine Kd.C_drewN ?_ _) | (with_reducible refine Kd.C_drew ?_))); (case side2 => exact HC1.out); rintro e w9 ⟨rfl, hb⟩; have n0_ := Az0.mk (below_step (by repeat (first | (with_reducible first | exact HB.out | apply baA_ | apply pbN_ | apply bD1_) | exact HB.out)) hb); clear HB; have HB := n0_; clear n0_; (try clear hb); (try clear hb2); (try clear hk); (try clear hi)))
  repeat (go_quiet (first | (go_at_call 15; (refine (trishawlaw03_few.calls _ _ l1 _ _ ([] : List Int) true _ ?side1 ?side2 ?side3 ?side4 A3.out).mono ?_); (case side1 => repeat (first | exact HR1.out | (with_reducible refine Kd.C_alloc ?_ _) | (with_reducible refine Kd.C_drewN ?_ _) | (with_reducible refine Kd.C_drew ?_))); (case side2 => exact HC1.out); (case side3 => exact Kd.C_nil _ _); (case side4 => exact Nat.le_refl _); rintro e w' ⟨rfl, ⟨nd, rfl⟩⟩; (try first | exact ⟨rfl, _, World.drewN_drewN _ _ _⟩ | exact ⟨rfl, _, Eq.trans (World.drewN_drewN _ _ _) (congrArg (World.drewN _) (Nat.add_assoc _ _ _))⟩)) | (go_at_call 30; (with_reducible refine (branch_Narrow.calls k a0 _ _ l1 t103 t104 t105 _ ?side1 ?side2 A5.out).mono ?_); (case side1 => repeat (first | exact HR1.out | (with_reducible refine Kd.C_alloc ?_ _) | (with_reducible refine Kd.C_drewN ?_ _) | (with_reducible refine Kd.C_drew ?_))); (case side2 => exact HC1.out); rintro e w8 ⟨rfl, hb⟩; have n0_ := Az0.mk (below_step (by repeat (first | (with_reducible first | exact HB.out | apply baA_ | apply pbN_ | apply bD1_) | exact HB.out)) hb); clear HB; have HB := n0_; clear n0_; (try clear hb); (try clear hb2); (try clear hk); (try clear hi)) | (go_at_call 39; (with_reducible refine (trishawref03_Narrow.calls k a0 _ _ l1 t106 t107 t108 _ ?side1 ?side2 A6.out).mono ?_); (case side1 => repeat (first | exact (Kd.C_below HR1.out HB.out) | (with_reducible refine Kd.C_alloc ?_ _) | (with_reducible refine Kd.C_drewN ?_ _) | (with_reducible refine Kd.C_drew ?_))); (case side2 => exact HC1.out); rintro e w9 ⟨rfl, hb⟩; have n0_ := Az0.mk (below_step (by repeat (first | (with_reducible first | exact HB.out | apply baA_ | apply pbN_ | apply bD1_) | exact HB.out)) hb); clear HB; have HB := n0_; clear n0_; (try clear hb); (try clear hb2); (try clear hk); (try clear hi))); go_upto_region 5 with (first | (go_at_call 15; (refine (trishawlaw03_few.calls _ _ l1 _ _ ([] : List Int) true _ ?side1 ?side2 ?side3 ?side4 A3.out).mono ?_); (case side1 => repeat (first | exact HR1.out | (with_reducible refine Kd.C_alloc ?_ _) | (with_reducible refine Kd.C_drewN ?_ _) | (with_reducible refine Kd.C_drew ?_))); (case side2 => exact HC1.out); (case side3 => exact Kd.C_nil _ _); (case side4 => exact Nat.le_refl _); rintro e w' ⟨rfl, ⟨nd, rfl⟩⟩; (try first | exact ⟨rfl, _, World.drewN_drewN _ _ _⟩ | exact ⟨rfl, _, Eq.trans (World.drewN_drewN _ _ _) (congrArg (World.drewN _) (Nat.add_assoc _ _ _))⟩)) | (go_at_call 30; (with_reducible refine (branch_Narrow.calls k a0 _ _ l1 t103 t104 t105 _ ?side1 ?side2 A5.out).mono ?_); (case side1 => repeat (first | exact HR1.out | (with_reducible refine Kd.C_alloc ?_ _) | (with_reducible refine Kd.C_drewN ?_ _) | (with_reducible refine Kd.C_drew ?_))); (case side2 => exact HC1.out); rintro e w8 ⟨rfl, hb⟩; have n0_ := Az0.mk (below_step (by repeat (first | (with_reducible first | exact HB.out | apply baA_ | apply pbN_ | apply bD1_) | exact HB.out)) hb); clear HB; have HB := n0_; clear n0_; (try clear hb); (try clear hb2); (try clear hk); (try clear hi)) | (go_at_call 39; (with_reducible refine (trishawref03_Narrow.calls k a0 _ _ l1 t106 t107 t108 _ ?side1 ?side2 A6.out).mono ?_); (case side1 => repeat (first | exact (Kd.C_below HR1.out HB.out) | (with_reducible refine Kd.C_alloc ?_ _) | (with_reducible refine Kd.C_drewN ?_ _) | (with_reducible refine Kd.C_drew ?_))); (case side2 => exact HC1.out); rintro e w9 ⟨rfl, hb⟩; have n0_ := Az0.mk (below_step (by repeat (first | (with_reducible first | exact HB.out | apply baA_ | apply pbN_ | apply bD1_) | exact HB.out)) hb); clear HB; have HB := n0_; clear n0_; (try clear hb); (try clear hb2); (try clear hk); (try clear hi))))
  (try simp only [Act.put, List.setIfInBounds_toArray, List.set_cons_zero, List.set_cons_succ])
  go_cut [45] (fun v45 wc => ∃ (kq : Nat) (x45_6 : Bool), v45 = .bool x45_6 ∧ Az0 (trishawlaw03_BranchNarrows.j0 kq a0 l1 t106 t108 x45_6 = some r) ∧ Az0 (kq ≤ k) ∧ Az0 (Below w.heap.size w wc))
  case first =>
   have H := HC7.out
   clear HC7
   by_cases c10 : t103 = t106
   ·rw [if_pos c10] at H
    have c10b0 : (t103 == t106) = true := beq_iff_eq.mpr c10
    have c10b1 : (t103 != t106) = false := bne_eq_false_iff_eq.mpr c10
    clear c10
    (first | rw [c10b0] | (simp only [i64_w, i32_w]; rw [c10b0]) | skip)
    by_cases c11 : t104 = t107
    ·rw [if_pos c11] at H
     have c11b0 : (t104 == t107) = true := beq_iff_eq.mpr c11
     have c11b1 : (t104 != t107) = false := bne_eq_false_iff_eq.mpr c11
     clear c11
     have H' := Az0.mk H
     clear H
     go_wp2
     repeat (go_quiet (fail); try go_wp2)
     go_meet
     case rel => exact ⟨_, ((t105 != t108)), (by first | rfl | (simp; done) | (simp [*]; done)), H', ⟨by first | omega | exact Nat.le_refl _⟩, ⟨by repeat (first | (with_reducible first | exact HB.out | apply baA_ | apply pbN_ | apply bD1_) | exact HB.out)⟩⟩
    ·rw [if_neg c11] at H
     have c11b0 : (t104 == t107) = false := beq_eq_false_iff_ne.mpr c11
     have c11b1 : (t104 != t107) = true := bne_iff_ne.mpr c11
     have H' := Az0.mk H
     clear H
     go_wp2
     repeat (go_quiet (fail); try go_wp2)
     go_meet
     case rel => exact ⟨_, (true), (by first | rfl | (simp; done) | (simp [*]; done)), H', ⟨by first | omega | exact Nat.le_refl _⟩, ⟨by repeat (first | (with_reducible first | exact HB.out | apply baA_ | apply pbN_ | apply bD1_) | exact HB.out)⟩⟩
   ·rw [if_neg c10] at H
    have c10b0 : (t103 == t106) = false := beq_eq_false_iff_ne.mpr c10
    have c10b1 : (t103 != t106) = true := bne_iff_ne.mpr c10
    (first | rw [c10b0] | (simp only [i64_w, i32_w]; rw [c10b0]) | skip)
    have H' := Az0.mk H
    clear H
    go_wp2
    repeat (go_quiet (fail); try go_wp2)
    go_meet
    case rel => exact ⟨_, (true), (by first | rfl | (simp; done) | (simp [*]; done)), H', ⟨by first | omega | exact Nat.le_refl _⟩, ⟨by repeat (first | (with_reducible first | exact HB.out | apply baA_ | apply pbN_ | apply bD1_) | exact HB.out)⟩⟩
  case rest =>
   clear HC7
   try clear c1
   try clear p2
   try clear c4
   try clear c10
   try clear c10b0
   try clear c10b1
   try clear c11
   try clear c11b0
   try clear c11b1
   obtain ⟨kq, x45_6, rfl, HA, HJ6, HB⟩ := hcut
   cases kq with
   | zero => exact absurd HA.out (by simp [trishawlaw03_BranchNarrows.j0])
   | succ kj6 =>
    have H := HA.out
    clear HA
    simp only [trishawlaw03_BranchNarrows.j0] at H
    by_cases c12 : x45_6 = true
    ·subst c12
     have H1 : (some false) = some r := by rw [if_pos rfl] at H; exact H
     clear H
     have H := H1
     clear H1
     obtain rfl := Option.some.inj H
     go_wp2
     repeat (go_quiet (fail); try go_wp2)
     go_ret
     exact ⟨by first | rfl | (simp [errW_none, errW_some] <;> rfl) | (simp [*, errW_none, errW_some] <;> rfl), by repeat (first | (with_reducible first | exact HB.out | apply baA_ | apply pbN_ | apply bD1_) | exact HB.out)⟩
    ·replace c12 := Bool.eq_false_iff.mpr c12
     subst c12
     have H1 : ((branch_Apart.f kj6 a0 l1).bind fun bt109 => ((branch_Apart.f kj6 a0 l1).bind fun bt113 => (if bt109.2 = t108 then (if bt113.2 = t108 then (trishawlaw03_BranchNarrows.j1 kj6 a0 l1 bt109.2 t106 bt109.1 bt113.1 ((bt109.1.length : Int) != (bt113.1.length : Int))) else (trishawlaw03_BranchNarrows.j1 kj6 a0 l1 bt109.2 t106 bt109.1 bt113.1 true)) else (trishawlaw03_BranchNarrows.j1 kj6 a0 l1 bt109.2 t106 bt109.1 bt113.1 true)))) = some r := by rw [if_neg (show ¬ (false = true) by decide)] at H; exact H
     clear H
     have H := H1
     clear H1
     replace H := Option.bind_eq_some_iff.mp H
     obtain ⟨⟨t109, t110⟩, A130, H⟩ := H
     replace H : ((branch_Apart.f kj6 a0 l1).bind fun bt113 => (if t110 = t108 then (if bt113.2 = t108 then (trishawlaw03_BranchNarrows.j1 kj6 a0 l1 t110 t106 t109 bt113.1 ((t109.length : Int) != (bt113.1.length : Int))) else (trishawlaw03_BranchNarrows.j1 kj6 a0 l1 t110 t106 t109 bt113.1 true)) else (trishawlaw03_BranchNarrows.j1 kj6 a0 l1 t110 t106 t109 bt113.1 true))) = some r := H
     have A13 := Az0.mk A130
     clear A130
     replace H := Option.bind_eq_some_iff.mp H
     obtain ⟨⟨t113, t114⟩, A140, H⟩ := H
     replace H : (if t110 = t108 then (if t114 = t108 then (trishawlaw03_BranchNarrows.j1 kj6 a0 l1 t110 t106 t109 t113 ((t109.length : Int) != (t113.length : Int))) else (trishawlaw03_BranchNarrows.j1 kj6 a0 l1 t110 t106 t109 t113 true)) else (trishawlaw03_BranchNarrows.j1 kj6 a0 l1 t110 t106 t109 t113 true)) = some r := H
     have A14 := Az0.mk A140
     clear A140
     have HC15 := Az0.mk H
     clear H
     go_upto_region 9 with (first | (go_at_call 40; (with_reducible refine (branch_Apart.calls kj6 a0 _ _ l1 t109 t110 _ ?side1 ?side2 A13.out).mono ?_); (case side1 => repeat (first | exact (Kd.C_below HR1.out HB.out) | (with_reducible refine Kd.C_alloc ?_ _) | (with_reducible refine Kd.C_drewN ?_ _) | (with_reducible refine Kd.C_drew ?_))); (case side2 => exact HC1.out); rintro e w16 ⟨v111, rfl, ho0, hb⟩; have n0_ := Az0.mk (Kd.R_lower ho0 (below_size (by repeat (first | (with_reducible first | exact HB.out | apply baA_ | apply pbN_ | apply bD1_) | exact HB.out)))); have n1_ := Az0.mk (below_step (by repeat (first | (with_reducible first | exact HB.out | apply baA_ | apply pbN_ | apply bD1_) | exact HB.out)) hb); clear HB; have HO112 := n0_; have HB := n1_; clear n0_ n1_; (try clear hb); (try clear hb2); (try clear hk); (try clear hi); (try clear ho0); clear A13) | (go_at_call 40; (with_reducible refine (branch_Apart.calls kj6 a0 _ _ l1 t113 t114 _ ?side1 ?side2 A14.out).mono ?_); (case side1 => repeat (first | exact (Kd.C_below HR1.out HB.out) | (with_reducible refine Kd.C_alloc ?_ _) | (with_reducible refine Kd.C_drewN ?_ _) | (with_reducible refine Kd.C_drew ?_))); (case side2 => exact HC1.out); rintro e w17 ⟨v115, rfl, ho0, hb⟩; have n0_ := Az0.mk (Kd.R_elder' (by (with_reducible repeat (first | apply Kd.R_alloc | apply Kd.R_drewN | apply Kd.R_drew)); exact HO112.out) (Kd.R_base ho0) hb); have n1_ := Az0.mk (Kd.R_lower (Kd.R_new' ho0 (Kd.R_lt (by (with_reducible repeat (first | apply Kd.R_alloc | apply Kd.R_drewN | apply Kd.R_drew)); exact HO112.out))) (below_size (by repeat (first | (with_reducible first | exact HB.out | apply baA_ | apply pbN_ | apply bD1_) | exact HB.out)))); have n2_ := Az0.mk (below_step (by repeat (first | (with_reducible first | exact HB.out | apply baA_ | apply pbN_ | apply bD1_) | exact HB.out)) hb); clear HO112; clear HB; have HO112 := n0_; have HO116 := n1_; have HB := n2_; clear n0_ n1_ n2_; (try clear hb); (try clear hb2); (try clear hk); (try clear hi); (try clear ho0)))
     repeat (go_quiet (first | (go_at_call 40; (with_reducible refine (branch_Apart.calls kj6 a0 _ _ l1 t109 t110 _ ?side1 ?side2 A13.out).mono ?_); (case side1 => repeat (first | exact (Kd.C_below HR1.out HB.out) | (with_reducible refine Kd.C_alloc ?_ _) | (with_reducible refine Kd.C_drewN ?_ _) | (with_reducible refine Kd.C_drew ?_))); (case side2 => exact HC1.out); rintro e w16 ⟨v111, rfl, ho0, hb⟩; have n0_ := Az0.mk (Kd.R_lower ho0 (below_size (by repeat (first | (with_reducible first | exact HB.out | apply baA_ | apply pbN_ | apply bD1_) | exact HB.out)))); have n1_ := Az0.mk (below_step (by repeat (first | (with_reducible first | exact HB.out | apply baA_ | apply pbN_ | apply bD1_) | exact HB.out)) hb); clear HB; have HO112 := n0_; have HB := n1_; clear n0_ n1_; (try clear hb); (try clear hb2); (try clear hk); (try clear hi); (try clear ho0); clear A13) | (go_at_call 40; (with_reducible refine (branch_Apart.calls kj6 a0 _ _ l1 t113 t114 _ ?side1 ?side2 A14.out).mono ?_); (case side1 => repeat (first | exact (Kd.C_below HR1.out HB.out) | (with_reducible refine Kd.C_alloc ?_ _) | (with_reducible refine Kd.C_drewN ?_ _) | (with_reducible refine Kd.C_drew ?_))); (case side2 => exact HC1.out); rintro e w17 ⟨v115, rfl, ho0, hb⟩; have n0_ := Az0.mk (Kd.R_elder' (by (with_reducible repeat (first | apply Kd.R_alloc | apply Kd.R_drewN | apply Kd.R_drew)); exact HO112.out) (Kd.R_base ho0) hb); have n1_ := Az0.mk (Kd.R_lower (Kd.R_new' ho0 (Kd.R_lt (by (with_reducible repeat (first | apply Kd.R_alloc | apply Kd.R_drewN | apply Kd.R_drew)); exact HO112.out))) (below_size (by repeat (first | (with_reducible first | exact HB.out | apply baA_ | apply pbN_ | apply bD1_) | exact HB.out)))); have n2_ := Az0.mk (below_step (by repeat (first | (with_reducible first | exact HB.out | apply baA_ | apply pbN_ | apply bD1_) | exact HB.out)) hb); clear HO112; clear HB; have HO112 := n0_; have HO116 := n1_; have HB := n2_; clear n0_ n1_ n2_; (try clear hb); (try clear hb2); (try clear hk); (try clear hi); (try clear ho0))); go_upto_region 9 with (first | (go_at_call 40; (with_reducible refine (branch_Apart.calls kj6 a0 _ _ l1 t109 t110 _ ?side1 ?side2 A13.out).mono ?_); (case side1 => repeat (first | exact (Kd.C_below HR1.out HB.out) | (with_reducible refine Kd.C_alloc ?_ _) | (with_reducible refine Kd.C_drewN ?_ _) | (with_reducible refine Kd.C_drew ?_))); (case side2 => exact HC1.out); rintro e w16 ⟨v111, rfl, ho0, hb⟩; have n0_ := Az0.mk (Kd.R_lower ho0 (below_size (by repeat (first | (with_reducible first | exact HB.out | apply baA_ | apply pbN_ | apply bD1_) | exact HB.out)))); have n1_ := Az0.mk (below_step (by repeat (first | (with_reducible first | exact HB.out | apply baA_ | apply pbN_ | apply bD1_) | exact HB.out)) hb); clear HB; have HO112 := n0_; have HB := n1_; clear n0_ n1_; (try clear hb); (try clear hb2); (try clear hk); (try clear hi); (try clear ho0); clear A13) | (go_at_call 40; (with_reducible refine (branch_Apart.calls kj6 a0 _ _ l1 t113 t114 _ ?side1 ?side2 A14.out).mono ?_); (case side1 => repeat (first | exact (Kd.C_below HR1.out HB.out) | (with_reducible refine Kd.C_alloc ?_ _) | (with_reducible refine Kd.C_drewN ?_ _) | (with_reducible refine Kd.C_drew ?_))); (case side2 => exact HC1.out); rintro e w17 ⟨v115, rfl, ho0, hb⟩; have n0_ := Az0.mk (Kd.R_elder' (by (with_reducible repeat (first | apply Kd.R_alloc | apply Kd.R_drewN | apply Kd.R_drew)); exact HO112.out) (Kd.R_base ho0) hb); have n1_ := Az0.mk (Kd.R_lower (Kd.R_new' ho0 (Kd.R_lt (by (with_reducible repeat (first | apply Kd.R_alloc | apply Kd.R_drewN | apply Kd.R_drew)); exact HO112.out))) (below_size (by repeat (first | (with_reducible first | exact HB.out | apply baA_ | apply pbN_ | apply bD1_) | exact HB.out)))); have n2_ := Az0.mk (below_step (by repeat (first | (with_reducible first | exact HB.out | apply baA_ | apply pbN_ | apply bD1_) | exact HB.out)) hb); clear HO112; clear HB; have HO112 := n0_; have HO116 := n1_; have HB := n2_; clear n0_ n1_ n2_; (try clear hb); (try clear hb2); (try clear hk); (try clear hi); (try clear ho0))))
     (try simp only [Act.put, List.setIfInBounds_toArray, List.set_cons_zero, List.set_cons_succ])
     go_cut [72] (fun v72 wc => ∃ (kq : Nat) (x72_14 : Bool), v72 = .bool x72_14 ∧ Az0 (trishawlaw03_BranchNarrows.j1 kq a0 l1 t110 t106 t109 t113 x72_14 = some r) ∧ Az0 (kq ≤ kj6) ∧ Az0 (Kd.R (Kd.slice 3 (Kd.int .i64)) 28 wc w.heap.size (fun k_ => some k_ ≠ (v115 : Value).ownBlock) v111 t109) ∧ Az0 (Kd.R (Kd.slice 3 (Kd.int .i64)) 28 wc w.heap.size (fun k_ => some k_ ≠ (v111 : Value).ownBlock) v115 t113) ∧ Az0 (Below w.heap.size w wc))
     case first =>
      have H := HC15.out
      clear HC15
      by_cases c18 : t110 = t108
      ·rw [if_pos c18] at H
       have c18b0 : (t110 == t108) = true := beq_iff_eq.mpr c18
       have c18b1 : (t110 != t108) = false := bne_eq_false_iff_eq.mpr c18
       clear c18
       (first | rw [c18b0] | (simp only [i64_w, i32_w]; rw [c18b0]) | skip)
       by_cases c19 : t114 = t108
       ·rw [if_pos c19] at H
        have c19b0 : (t114 == t108) = true := beq_iff_eq.mpr c19
        have c19b1 : (t114 != t108) = false := bne_eq_false_iff_eq.mpr c19
        clear c19
        have H' := Az0.mk H
        clear H
        obtain ⟨Ao20, co20, eo20⟩ := Kd.R_slice HO112.out
        subst eo20
        obtain ⟨Ao21, co21, eo21⟩ := Kd.R_slice HO116.out
        subst eo21
        go_wp2
        repeat (go_quiet (fail); try go_wp2)
        go_meet
        case rel => exact ⟨_, (((t109.length : Int) != (t113.length : Int))), (by first | rfl | (simp; done) | (simp [*]; done)), H', ⟨by have := HJ6.out; first | omega | exact Nat.le_refl _⟩, ⟨by (with_reducible repeat (first | apply Kd.R_alloc | apply Kd.R_drewN | apply Kd.R_drew)); exact Kd.R_mono HO112.out (fun _ hk => hk.2)⟩, ⟨by (with_reducible repeat (first | apply Kd.R_alloc | apply Kd.R_drewN | apply Kd.R_drew)); exact Kd.R_mono HO116.out (fun _ hk => hk.2)⟩, ⟨by repeat (first | (with_reducible first | exact HB.out | apply baA_ | apply pbN_ | apply bD1_) | exact HB.out)⟩⟩
       ·rw [if_neg c19] at H
        have c19b0 : (t114 == t108) = false := beq_eq_false_iff_ne.mpr c19
        have c19b1 : (t114 != t108) = true := bne_iff_ne.mpr c19
        have H' := Az0.mk H
        clear H
        go_wp2
        repeat (go_quiet (fail); try go_wp2)
        go_meet
        case rel => exact ⟨_, (true), (by first | rfl | (simp; done) | (simp [*]; done)), H', ⟨by have := HJ6.out; first | omega | exact Nat.le_refl _⟩, ⟨by (with_reducible repeat (first | apply Kd.R_alloc | apply Kd.R_drewN | apply Kd.R_drew)); exact Kd.R_mono HO112.out (fun _ hk => hk.2)⟩, ⟨by (with_reducible repeat (first | apply Kd.R_alloc | apply Kd.R_drewN | apply Kd.R_drew)); exact Kd.R_mono HO116.out (fun _ hk => hk.2)⟩, ⟨by repeat (first | (with_reducible first | exact HB.out | apply baA_ | apply pbN_ | apply bD1_) | exact HB.out)⟩⟩
      ·rw [if_neg c18] at H
       have c18b0 : (t110 == t108) = false := beq_eq_false_iff_ne.mpr c18
       have c18b1 : (t110 != t108) = true := bne_iff_ne.mpr c18
       (first | rw [c18b0] | (simp only [i64_w, i32_w]; rw [c18b0]) | skip)
       have H' := Az0.mk H
       clear H
       go_wp2
       repeat (go_quiet (fail); try go_wp2)
       go_meet
       case rel => exact ⟨_, (true), (by first | rfl | (simp; done) | (simp [*]; done)), H', ⟨by have := HJ6.out; first | omega | exact Nat.le_refl _⟩, ⟨by (with_reducible repeat (first | apply Kd.R_alloc | apply Kd.R_drewN | apply Kd.R_drew)); exact Kd.R_mono HO112.out (fun _ hk => hk.2)⟩, ⟨by (with_reducible repeat (first | apply Kd.R_alloc | apply Kd.R_drewN | apply Kd.R_drew)); exact Kd.R_mono HO116.out (fun _ hk => hk.2)⟩, ⟨by repeat (first | (with_reducible first | exact HB.out | apply baA_ | apply pbN_ | apply bD1_) | exact HB.out)⟩⟩
     case rest =>
      clear HC15
      try clear c1
      try clear p2
      try clear c4
      try clear c10
      try clear c10b0
      try clear c10b1
      try clear c11
      try clear c11b0
      try clear c11b1
      try clear c12
      try clear c13
      try clear c18
      try clear c18b0
      try clear c18b1
      try clear c19
      try clear c19b0
      try clear c19b1
      try clear p2
      obtain ⟨kq, x72_14, rfl, HA, HJ14, HO_11, HO_12, HB⟩ := hcut
      cases kq with
      | zero => exact absurd HA.out (by simp [trishawlaw03_BranchNarrows.j1])
      | succ kj14 =>
       have H := HA.out
       clear HA
       simp only [trishawlaw03_BranchNarrows.j1] at H
       by_cases c22 : x72_14 = true
       ·subst c22
        have H1 : (some false) = some r := by rw [if_pos rfl] at H; exact H
        clear H
        have H := H1
        clear H1
        obtain rfl := Option.some.inj H
        go_wp2
        repeat (go_quiet (fail); try go_wp2)
        go_ret
        exact ⟨by first | rfl | (simp [errW_none, errW_some] <;> rfl) | (simp [*, errW_none, errW_some] <;> rfl), by repeat (first | (with_reducible first | exact HB.out | apply baA_ | apply pbN_ | apply bD1_) | exact HB.out)⟩
       ·replace c22 := Bool.eq_false_iff.mpr c22
        subst c22
        have H1 : (trishawlaw03_BranchNarrows.l0 kj14 a0 l1 t110 t106 t109 t113 0) = some r := by rw [if_neg (show ¬ (false = true) by decide)] at H; exact H
        clear H
        have H := H1
        clear H1
        have H' := Az0.mk H
        clear H
        go_wp2
        repeat (go_quiet (fail); try go_wp2)
        go_loopg [14] kj14 (fun kq v14 w' => ∃ (x14_3 : Int), v14 = .int .i64 x14_3 ∧ Az0 (trishawlaw03_BranchNarrows.l0 kq a0 l1 t110 t106 t109 t113 x14_3 = some r) ∧ Az0 (kq ≤ kj14) ∧ Az0 (Kd.R (Kd.slice 3 (Kd.int .i64)) 28 w' w.heap.size (fun k_ => some k_ ≠ (v115 : Value).ownBlock) v111 t109) ∧ Az0 (Kd.R (Kd.slice 3 (Kd.int .i64)) 28 w' w.heap.size (fun k_ => some k_ ≠ (v111 : Value).ownBlock) v115 t113) ∧ Az0 (Below w.heap.size w w'))
        case atStart => exact ⟨(0), (by first | rfl | (simp; done) | (simp [*]; done)), H', ⟨Nat.le_refl _⟩, ⟨by (with_reducible repeat (first | apply Kd.R_alloc | apply Kd.R_drewN | apply Kd.R_drew)); exact HO_11.out⟩, ⟨by (with_reducible repeat (first | apply Kd.R_alloc | apply Kd.R_drewN | apply Kd.R_drew)); exact HO_12.out⟩, ⟨by repeat (first | (with_reducible first | exact HB.out | apply baA_ | apply pbN_ | apply bD1_) | exact HB.out)⟩⟩
        case round =>
         clear H'
         try clear c1
         try clear c2
         try clear p2
         try clear c4
         try clear c10
         try clear c10b0
         try clear c10b1
         try clear c11
         try clear c11b0
         try clear c11b1
         try clear c12
         try clear c13
         try clear c18
         try clear c18b0
         try clear c18b1
         try clear c19
         try clear c19b0
         try clear c19b1
         try clear c22
         try clear p2
         obtain ⟨x14_3, rfl, HA, HK3, HO_11, HO_12, HB⟩ := hrel
         cases gk with
         | zero => exact absurd HA.out (by simp [trishawlaw03_BranchNarrows.l0])
         | succ k3 =>
          have H := HA.out
          clear HA
          simp only [trishawlaw03_BranchNarrows.l0] at H
          by_cases c23 : x14_3 < (t109.length : Int)
          ·rw [if_pos c23] at H
           have c23b0 : decide (x14_3 < (t109.length : Int)) = true := decide_eq_true c23
           clear c23
           by_cases c24 : 0 ≤ x14_3
           ·rw [if_pos c24] at H
            have c24b0 : decide (0 ≤ x14_3) = true := decide_eq_true c24
            clear c24
            by_cases c25 : x14_3 < (t113.length : Int)
            ·rw [if_pos c25] at H
             have c25b0 : decide (x14_3 < (t113.length : Int)) = true := decide_eq_true c25
             clear c25
             replace H := Option.bind_eq_some_iff.mp H
             obtain ⟨t119, A260, H⟩ := H
             replace H : (if t119 = true then (trishawlaw03_BranchNarrows.l0 k3 a0 l1 t110 t106 t109 t113 (wrap64 (x14_3 + 1))) else (some false)) = some r := H
             have A26 := Az0.mk A260
             clear A260
             by_cases c27 : t119 = true
             ·subst c27
              have H1 : (trishawlaw03_BranchNarrows.l0 k3 a0 l1 t110 t106 t109 t113 (wrap64 (x14_3 + 1))) = some r := by rw [if_pos rfl] at H; exact H
              clear H
              have H := H1
              clear H1
              have H' := Az0.mk H
              clear H
              obtain ⟨Ao28, co28, eo28⟩ := Kd.R_slice HO_11.out
              subst eo28
              have p117 : 0 ≤ (x14_3 : Int) := of_decide_eq_true (by first | (with_reducible assumption) | assumption)
              have q117 : x14_3 < (t109.length : Int) := of_decide_eq_true (by first | (with_reducible assumption) | assumption)
              obtain ⟨ad117, A117_0, c117_0, e117, hx117_0, hl117_0, hi117_0⟩ := at_L12 (Kd.R_reads' HO_11.out).2.2 x14_3 p117 q117
              cases e117
              obtain ⟨ce117, hce117, hMe117, hcc117⟩ := Kd.R_get HO_11.out [] x14_3 p117 (by first | exact q117 | exact of_decide_eq_true (by first | (with_reducible assumption) | assumption) | (have e_ := (Kd.R_reads' HO_11.out).1; omega))
              obtain ⟨ve117_0, rfl, ge117_0⟩ := hMe117
              have hv117_0 := hcc117 0 _ rfl
              rw [Nat.add_zero, show ((Kd.slice 3 (Kd.int .i64))).sz = 1 from rfl, Nat.mul_one] at hv117_0
              replace hv117_0 := Option.some.inj (hv117_0.symm.trans hx117_0)
              rw [hv117_0] at ge117_0
              have HL117_0 := Az0.mk (show Kd.R (Kd.int .i64) 3 _ _ _ _ (rd_L12 t109 x14_3) from ge117_0)
              clear hv117_0 ge117_0
              clear hcc117 hce117
              have HR117_0 := Az0.mk hi117_0
              have HC117_0 := Az0.mk hl117_0
              clear hi117_0 hl117_0
              replace p117 := eq_true p117
              replace q117 := eq_true q117
              obtain ⟨Ao29, co29, eo29⟩ := Kd.R_slice HO_12.out
              subst eo29
              have p118 : 0 ≤ (x14_3 : Int) := of_decide_eq_true (by first | (with_reducible assumption) | assumption)
              have q118 : x14_3 < (t113.length : Int) := of_decide_eq_true (by first | (with_reducible assumption) | assumption)
              obtain ⟨ad118, A118_0, c118_0, e118, hx118_0, hl118_0, hi118_0⟩ := at_L12 (Kd.R_reads' HO_12.out).2.2 x14_3 p118 q118
              cases e118
              obtain ⟨ce118, hce118, hMe118, hcc118⟩ := Kd.R_get HO_12.out [] x14_3 p118 (by first | exact q118 | exact of_decide_eq_true (by first | (with_reducible assumption) | assumption) | (have e_ := (Kd.R_reads' HO_12.out).1; omega))
              obtain ⟨ve118_0, rfl, ge118_0⟩ := hMe118
              have hv118_0 := hcc118 0 _ rfl
              rw [Nat.add_zero, show ((Kd.slice 3 (Kd.int .i64))).sz = 1 from rfl, Nat.mul_one] at hv118_0
              replace hv118_0 := Option.some.inj (hv118_0.symm.trans hx118_0)
              rw [hv118_0] at ge118_0
              have HL118_0 := Az0.mk (show Kd.R (Kd.int .i64) 3 _ _ _ _ (rd_L12 t113 x14_3) from ge118_0)
              clear hv118_0 ge118_0
              clear hcc118 hce118
              have HR118_0 := Az0.mk hi118_0
              have HC118_0 := Az0.mk hl118_0
              clear hi118_0 hl118_0
              replace p118 := eq_true p118
              replace q118 := eq_true q118
              go_wp2_with (first | (go_at_call 25; (with_reducible refine (trishawlaw03_same.calls k3 _ _ (rd_L12 t109 x14_3) _ _ (rd_L12 t113 x14_3) true _ ?side1 ?side2 ?side3 ?side4 A26.out).mono ?_); (case side1 => repeat (first | exact (by repeat (first | (with_reducible exact HR117_0.out) | (with_reducible refine Kd.C_alloc ?_ _) | (with_reducible refine Kd.C_drewN ?_ _) | (with_reducible refine Kd.C_drew ?_) | exact HR117_0.out)) | (with_reducible refine Kd.C_alloc ?_ _) | (with_reducible refine Kd.C_drewN ?_ _) | (with_reducible refine Kd.C_drew ?_))); (case side2 => exact HC117_0.out); (case side3 => repeat (first | exact (by repeat (first | (with_reducible exact HR118_0.out) | (with_reducible refine Kd.C_alloc ?_ _) | (with_reducible refine Kd.C_drewN ?_ _) | (with_reducible refine Kd.C_drew ?_) | exact HR118_0.out)) | (with_reducible refine Kd.C_alloc ?_ _) | (with_reducible refine Kd.C_drewN ?_ _) | (with_reducible refine Kd.C_drew ?_))); (case side4 => exact HC118_0.out); rintro e w' ⟨rfl, ⟨nd, rfl⟩⟩; (try first | exact ⟨rfl, _, World.drewN_drewN _ _ _⟩ | exact ⟨rfl, _, Eq.trans (World.drewN_drewN _ _ _) (congrArg (World.drewN _) (Nat.add_assoc _ _ _))⟩)))
              repeat (go_quiet (first | (go_at_call 25; (with_reducible refine (trishawlaw03_same.calls k3 _ _ (rd_L12 t109 x14_3) _ _ (rd_L12 t113 x14_3) true _ ?side1 ?side2 ?side3 ?side4 A26.out).mono ?_); (case side1 => repeat (first | exact (by repeat (first | (with_reducible exact HR117_0.out) | (with_reducible refine Kd.C_alloc ?_ _) | (with_reducible refine Kd.C_drewN ?_ _) | (with_reducible refine Kd.C_drew ?_) | exact HR117_0.out)) | (with_reducible refine Kd.C_alloc ?_ _) | (with_reducible refine Kd.C_drewN ?_ _) | (with_reducible refine Kd.C_drew ?_))); (case side2 => exact HC117_0.out); (case side3 => repeat (first | exact (by repeat (first | (with_reducible exact HR118_0.out) | (with_reducible refine Kd.C_alloc ?_ _) | (with_reducible refine Kd.C_drewN ?_ _) | (with_reducible refine Kd.C_drew ?_) | exact HR118_0.out)) | (with_reducible refine Kd.C_alloc ?_ _) | (with_reducible refine Kd.C_drewN ?_ _) | (with_reducible refine Kd.C_drew ?_))); (case side4 => exact HC118_0.out); rintro e w' ⟨rfl, ⟨nd, rfl⟩⟩; (try first | exact ⟨rfl, _, World.drewN_drewN _ _ _⟩ | exact ⟨rfl, _, Eq.trans (World.drewN_drewN _ _ _) (congrArg (World.drewN _) (Nat.add_assoc _ _ _))⟩))); try go_wp2_with (first | (go_at_call 25; (with_reducible refine (trishawlaw03_same.calls k3 _ _ (rd_L12 t109 x14_3) _ _ (rd_L12 t113 x14_3) true _ ?side1 ?side2 ?side3 ?side4 A26.out).mono ?_); (case side1 => repeat (first | exact (by repeat (first | (with_reducible exact HR117_0.out) | (with_reducible refine Kd.C_alloc ?_ _) | (with_reducible refine Kd.C_drewN ?_ _) | (with_reducible refine Kd.C_drew ?_) | exact HR117_0.out)) | (with_reducible refine Kd.C_alloc ?_ _) | (with_reducible refine Kd.C_drewN ?_ _) | (with_reducible refine Kd.C_drew ?_))); (case side2 => exact HC117_0.out); (case side3 => repeat (first | exact (by repeat (first | (with_reducible exact HR118_0.out) | (with_reducible refine Kd.C_alloc ?_ _) | (with_reducible refine Kd.C_drewN ?_ _) | (with_reducible refine Kd.C_drew ?_) | exact HR118_0.out)) | (with_reducible refine Kd.C_alloc ?_ _) | (with_reducible refine Kd.C_drewN ?_ _) | (with_reducible refine Kd.C_drew ?_))); (case side4 => exact HC118_0.out); rintro e w' ⟨rfl, ⟨nd, rfl⟩⟩; (try first | exact ⟨rfl, _, World.drewN_drewN _ _ _⟩ | exact ⟨rfl, _, Eq.trans (World.drewN_drewN _ _ _) (congrArg (World.drewN _) (Nat.add_assoc _ _ _))⟩))))
              go_roundg k3
              case measure => have := HJ6.out; have := HJ14.out; have := HK3.out; omega
              case rel => exact ⟨(wrap64 (x14_3 + 1)), (by first | rfl | (simp; done) | (simp [*]; done)), H', ⟨by have := HJ6.out; have := HJ14.out; have := HK3.out; omega⟩, ⟨by (with_reducible repeat (first | apply Kd.R_alloc | apply Kd.R_drewN | apply Kd.R_drew)); exact HO_11.out⟩, ⟨by (with_reducible repeat (first | apply Kd.R_alloc | apply Kd.R_drewN | apply Kd.R_drew)); exact HO_12.out⟩, ⟨by repeat (first | (with_reducible first | exact HB.out | apply baA_ | apply pbN_ | apply bD1_) | exact HB.out)⟩⟩
             ·replace c27 := Bool.eq_false_iff.mpr c27
              subst c27
              have H1 : (some false) = some r := by rw [if_neg (show ¬ (false = true) by decide)] at H; exact H
              clear H
              have H := H1
              clear H1
              obtain rfl := Option.some.inj H
              obtain ⟨Ao30, co30, eo30⟩ := Kd.R_slice HO_11.out
              subst eo30
              have p117 : 0 ≤ (x14_3 : Int) := of_decide_eq_true (by first | (with_reducible assumption) | assumption)
              have q117 : x14_3 < (t109.length : Int) := of_decide_eq_true (by first | (with_reducible assumption) | assumption)
              obtain ⟨ad117, A117_0, c117_0, e117, hx117_0, hl117_0, hi117_0⟩ := at_L12 (Kd.R_reads' HO_11.out).2.2 x14_3 p117 q117
              cases e117
              obtain ⟨ce117, hce117, hMe117, hcc117⟩ := Kd.R_get HO_11.out [] x14_3 p117 (by first | exact q117 | exact of_decide_eq_true (by first | (with_reducible assumption) | assumption) | (have e_ := (Kd.R_reads' HO_11.out).1; omega))
              obtain ⟨ve117_0, rfl, ge117_0⟩ := hMe117
              have hv117_0 := hcc117 0 _ rfl
              rw [Nat.add_zero, show ((Kd.slice 3 (Kd.int .i64))).sz = 1 from rfl, Nat.mul_one] at hv117_0
              replace hv117_0 := Option.some.inj (hv117_0.symm.trans hx117_0)
              rw [hv117_0] at ge117_0
              have HL117_0 := Az0.mk (show Kd.R (Kd.int .i64) 3 _ _ _ _ (rd_L12 t109 x14_3) from ge117_0)
              clear hv117_0 ge117_0
              clear hcc117 hce117
              have HR117_0 := Az0.mk hi117_0
              have HC117_0 := Az0.mk hl117_0
              clear hi117_0 hl117_0
              replace p117 := eq_true p117
              replace q117 := eq_true q117
              obtain ⟨Ao31, co31, eo31⟩ := Kd.R_slice HO_12.out
              subst eo31
              have p118 : 0 ≤ (x14_3 : Int) := of_decide_eq_true (by first | (with_reducible assumption) | assumption)
              have q118 : x14_3 < (t113.length : Int) := of_decide_eq_true (by first | (with_reducible assumption) | assumption)
              obtain ⟨ad118, A118_0, c118_0, e118, hx118_0, hl118_0, hi118_0⟩ := at_L12 (Kd.R_reads' HO_12.out).2.2 x14_3 p118 q118
              cases e118
              obtain ⟨ce118, hce118, hMe118, hcc118⟩ := Kd.R_get HO_12.out [] x14_3 p118 (by first | exact q118 | exact of_decide_eq_true (by first | (with_reducible assumption) | assumption) | (have e_ := (Kd.R_reads' HO_12.out).1; omega))
              obtain ⟨ve118_0, rfl, ge118_0⟩ := hMe118
              have hv118_0 := hcc118 0 _ rfl
              rw [Nat.add_zero, show ((Kd.slice 3 (Kd.int .i64))).sz = 1 from rfl, Nat.mul_one] at hv118_0
              replace hv118_0 := Option.some.inj (hv118_0.symm.trans hx118_0)
              rw [hv118_0] at ge118_0
              have HL118_0 := Az0.mk (show Kd.R (Kd.int .i64) 3 _ _ _ _ (rd_L12 t113 x14_3) from ge118_0)
              clear hv118_0 ge118_0
              clear hcc118 hce118
              have HR118_0 := Az0.mk hi118_0
              have HC118_0 := Az0.mk hl118_0
              clear hi118_0 hl118_0
              replace p118 := eq_true p118
              replace q118 := eq_true q118
              go_wp2_with (first | (go_at_call 25; (with_reducible refine (trishawlaw03_same.calls k3 _ _ (rd_L12 t109 x14_3) _ _ (rd_L12 t113 x14_3) false _ ?side1 ?side2 ?side3 ?side4 A26.out).mono ?_); (case side1 => repeat (first | exact (by repeat (first | (with_reducible exact HR117_0.out) | (with_reducible refine Kd.C_alloc ?_ _) | (with_reducible refine Kd.C_drewN ?_ _) | (with_reducible refine Kd.C_drew ?_) | exact HR117_0.out)) | (with_reducible refine Kd.C_alloc ?_ _) | (with_reducible refine Kd.C_drewN ?_ _) | (with_reducible refine Kd.C_drew ?_))); (case side2 => exact HC117_0.out); (case side3 => repeat (first | exact (by repeat (first | (with_reducible exact HR118_0.out) | (with_reducible refine Kd.C_alloc ?_ _) | (with_reducible refine Kd.C_drewN ?_ _) | (with_reducible refine Kd.C_drew ?_) | exact HR118_0.out)) | (with_reducible refine Kd.C_alloc ?_ _) | (with_reducible refine Kd.C_drewN ?_ _) | (with_reducible refine Kd.C_drew ?_))); (case side4 => exact HC118_0.out); rintro e w' ⟨rfl, ⟨nd, rfl⟩⟩; (try first | exact ⟨rfl, _, World.drewN_drewN _ _ _⟩ | exact ⟨rfl, _, Eq.trans (World.drewN_drewN _ _ _) (congrArg (World.drewN _) (Nat.add_assoc _ _ _))⟩)))
              repeat (go_quiet (first | (go_at_call 25; (with_reducible refine (trishawlaw03_same.calls k3 _ _ (rd_L12 t109 x14_3) _ _ (rd_L12 t113 x14_3) false _ ?side1 ?side2 ?side3 ?side4 A26.out).mono ?_); (case side1 => repeat (first | exact (by repeat (first | (with_reducible exact HR117_0.out) | (with_reducible refine Kd.C_alloc ?_ _) | (with_reducible refine Kd.C_drewN ?_ _) | (with_reducible refine Kd.C_drew ?_) | exact HR117_0.out)) | (with_reducible refine Kd.C_alloc ?_ _) | (with_reducible refine Kd.C_drewN ?_ _) | (with_reducible refine Kd.C_drew ?_))); (case side2 => exact HC117_0.out); (case side3 => repeat (first | exact (by repeat (first | (with_reducible exact HR118_0.out) | (with_reducible refine Kd.C_alloc ?_ _) | (with_reducible refine Kd.C_drewN ?_ _) | (with_reducible refine Kd.C_drew ?_) | exact HR118_0.out)) | (with_reducible refine Kd.C_alloc ?_ _) | (with_reducible refine Kd.C_drewN ?_ _) | (with_reducible refine Kd.C_drew ?_))); (case side4 => exact HC118_0.out); rintro e w' ⟨rfl, ⟨nd, rfl⟩⟩; (try first | exact ⟨rfl, _, World.drewN_drewN _ _ _⟩ | exact ⟨rfl, _, Eq.trans (World.drewN_drewN _ _ _) (congrArg (World.drewN _) (Nat.add_assoc _ _ _))⟩))); try go_wp2_with (first | (go_at_call 25; (with_reducible refine (trishawlaw03_same.calls k3 _ _ (rd_L12 t109 x14_3) _ _ (rd_L12 t113 x14_3) false _ ?side1 ?side2 ?side3 ?side4 A26.out).mono ?_); (case side1 => repeat (first | exact (by repeat (first | (with_reducible exact HR117_0.out) | (with_reducible refine Kd.C_alloc ?_ _) | (with_reducible refine Kd.C_drewN ?_ _) | (with_reducible refine Kd.C_drew ?_) | exact HR117_0.out)) | (with_reducible refine Kd.C_alloc ?_ _) | (with_reducible refine Kd.C_drewN ?_ _) | (with_reducible refine Kd.C_drew ?_))); (case side2 => exact HC117_0.out); (case side3 => repeat (first | exact (by repeat (first | (with_reducible exact HR118_0.out) | (with_reducible refine Kd.C_alloc ?_ _) | (with_reducible refine Kd.C_drewN ?_ _) | (with_reducible refine Kd.C_drew ?_) | exact HR118_0.out)) | (with_reducible refine Kd.C_alloc ?_ _) | (with_reducible refine Kd.C_drewN ?_ _) | (with_reducible refine Kd.C_drew ?_))); (case side4 => exact HC118_0.out); rintro e w' ⟨rfl, ⟨nd, rfl⟩⟩; (try first | exact ⟨rfl, _, World.drewN_drewN _ _ _⟩ | exact ⟨rfl, _, Eq.trans (World.drewN_drewN _ _ _) (congrArg (World.drewN _) (Nat.add_assoc _ _ _))⟩))))
              go_ret
              exact ⟨by first | rfl | (simp [errW_none, errW_some] <;> rfl) | (simp [*, errW_none, errW_some] <;> rfl), by repeat (first | (with_reducible first | exact HB.out | apply baA_ | apply pbN_ | apply bD1_) | exact HB.out)⟩
            ·rw [if_neg c25] at H
             exact absurd H (by simp)
           ·rw [if_neg c24] at H
            exact absurd H (by simp)
          ·rw [if_neg c23] at H
           have c23b0 : decide (x14_3 < (t109.length : Int)) = false := decide_eq_false c23
           clear c23
           by_cases c32 : t110 = 0
           ·rw [if_pos c32] at H
            have c32b0 : (t110 == 0) = true := beq_iff_eq.mpr c32
            have c32b1 : (t110 != 0) = false := bne_eq_false_iff_eq.mpr c32
            clear c32
            by_cases c33 : (t109.length : Int) = t106
            ·rw [if_pos c33] at H
             have c33b0 : ((t109.length : Int) == t106) = true := beq_iff_eq.mpr c33
             have c33b1 : ((t109.length : Int) != t106) = false := bne_eq_false_iff_eq.mpr c33
             clear c33
             replace H := Option.bind_eq_some_iff.mp H
             obtain ⟨t120, A340, H⟩ := H
             replace H : (if t120 = true then ((trishawlaw03_alive.f k3).bind fun t121 => (some t121)) else (some false)) = some r := H
             have A34 := Az0.mk A340
             clear A340
             by_cases c35 : t120 = true
             ·subst c35
              have H1 : ((trishawlaw03_alive.f k3).bind fun t121 => (some t121)) = some r := by rw [if_pos rfl] at H; exact H
              clear H
              have H := H1
              clear H1
              replace H := Option.bind_eq_some_iff.mp H
              obtain ⟨t121, A360, H⟩ := H
              replace H : (some t121) = some r := H
              have A36 := Az0.mk A360
              clear A360
              obtain rfl := Option.some.inj H
              obtain ⟨Ao37, co37, eo37⟩ := Kd.R_slice HO_11.out
              subst eo37
              go_wp2_with (first | (go_at_call 41; (with_reducible refine (rAp_.calls k3 a0 _ _ l1 _ _ t109 true _ ?side1 ?side2 ?side3 ?side4 A34.out).mono ?_); (case side1 => repeat (first | exact (Kd.C_below HR1.out HB.out) | (with_reducible refine Kd.C_alloc ?_ _) | (with_reducible refine Kd.C_drewN ?_ _) | (with_reducible refine Kd.C_drew ?_))); (case side2 => exact HC1.out); (case side3 => repeat (first | exact (Kd.R_reads' HO_11.out).2.2 | (with_reducible refine Kd.C_alloc ?_ _) | (with_reducible refine Kd.C_drewN ?_ _) | (with_reducible refine Kd.C_drew ?_))); (case side4 => exact (Kd.R_reads' HO_11.out).2.1); rintro e w38 ⟨rfl, hb⟩; have n0_ := Az0.mk (Kd.R_below (by (with_reducible repeat (first | apply Kd.R_alloc | apply Kd.R_drewN | apply Kd.R_drew)); exact HO_11.out) hb); have n1_ := Az0.mk (Kd.R_below (by (with_reducible repeat (first | apply Kd.R_alloc | apply Kd.R_drewN | apply Kd.R_drew)); exact HO_12.out) hb); have n2_ := Az0.mk (below_step (by repeat (first | (with_reducible first | exact HB.out | apply baA_ | apply pbN_ | apply bD1_) | exact HB.out)) hb); clear HO_11; clear HO_12; clear HB; have HO_11 := n0_; have HO_12 := n1_; have HB := n2_; clear n0_ n1_ n2_; (try clear hb); (try clear hb2); (try clear hk); (try clear hi)) | (go_at_call 17; (with_reducible refine (trishawlaw03_alive.calls k3  t121 _ A36.out).mono ?_); rintro e w39 ⟨rfl, hb⟩; have n0_ := Az0.mk (Kd.R_below (by (with_reducible repeat (first | apply Kd.R_alloc | apply Kd.R_drewN | apply Kd.R_drew)); exact HO_11.out) hb); have n1_ := Az0.mk (Kd.R_below (by (with_reducible repeat (first | apply Kd.R_alloc | apply Kd.R_drewN | apply Kd.R_drew)); exact HO_12.out) hb); have n2_ := Az0.mk (below_step (by repeat (first | (with_reducible first | exact HB.out | apply baA_ | apply pbN_ | apply bD1_) | exact HB.out)) hb); clear HO_11; clear HO_12; clear HB; have HO_11 := n0_; have HO_12 := n1_; have HB := n2_; clear n0_ n1_ n2_; (try clear hb); (try clear hb2); (try clear hk); (try clear hi)))
              repeat (go_quiet (first | (go_at_call 41; (with_reducible refine (rAp_.calls k3 a0 _ _ l1 _ _ t109 true _ ?side1 ?side2 ?side3 ?side4 A34.out).mono ?_); (case side1 => repeat (first | exact (Kd.C_below HR1.out HB.out) | (with_reducible refine Kd.C_alloc ?_ _) | (with_reducible refine Kd.C_drewN ?_ _) | (with_reducible refine Kd.C_drew ?_))); (case side2 => exact HC1.out); (case side3 => repeat (first | exact (Kd.R_reads' HO_11.out).2.2 | (with_reducible refine Kd.C_alloc ?_ _) | (with_reducible refine Kd.C_drewN ?_ _) | (with_reducible refine Kd.C_drew ?_))); (case side4 => exact (Kd.R_reads' HO_11.out).2.1); rintro e w38 ⟨rfl, hb⟩; have n0_ := Az0.mk (Kd.R_below (by (with_reducible repeat (first | apply Kd.R_alloc | apply Kd.R_drewN | apply Kd.R_drew)); exact HO_11.out) hb); have n1_ := Az0.mk (Kd.R_below (by (with_reducible repeat (first | apply Kd.R_alloc | apply Kd.R_drewN | apply Kd.R_drew)); exact HO_12.out) hb); have n2_ := Az0.mk (below_step (by repeat (first | (with_reducible first | exact HB.out | apply baA_ | apply pbN_ | apply bD1_) | exact HB.out)) hb); clear HO_11; clear HO_12; clear HB; have HO_11 := n0_; have HO_12 := n1_; have HB := n2_; clear n0_ n1_ n2_; (try clear hb); (try clear hb2); (try clear hk); (try clear hi)) | (go_at_call 17; (with_reducible refine (trishawlaw03_alive.calls k3  t121 _ A36.out).mono ?_); rintro e w39 ⟨rfl, hb⟩; have n0_ := Az0.mk (Kd.R_below (by (with_reducible repeat (first | apply Kd.R_alloc | apply Kd.R_drewN | apply Kd.R_drew)); exact HO_11.out) hb); have n1_ := Az0.mk (Kd.R_below (by (with_reducible repeat (first | apply Kd.R_alloc | apply Kd.R_drewN | apply Kd.R_drew)); exact HO_12.out) hb); have n2_ := Az0.mk (below_step (by repeat (first | (with_reducible first | exact HB.out | apply baA_ | apply pbN_ | apply bD1_) | exact HB.out)) hb); clear HO_11; clear HO_12; clear HB; have HO_11 := n0_; have HO_12 := n1_; have HB := n2_; clear n0_ n1_ n2_; (try clear hb); (try clear hb2); (try clear hk); (try clear hi))); try go_wp2_with (first | (go_at_call 41; (with_reducible refine (rAp_.calls k3 a0 _ _ l1 _ _ t109 true _ ?side1 ?side2 ?side3 ?side4 A34.out).mono ?_); (case side1 => repeat (first | exact (Kd.C_below HR1.out HB.out) | (with_reducible refine Kd.C_alloc ?_ _) | (with_reducible refine Kd.C_drewN ?_ _) | (with_reducible refine Kd.C_drew ?_))); (case side2 => exact HC1.out); (case side3 => repeat (first | exact (Kd.R_reads' HO_11.out).2.2 | (with_reducible refine Kd.C_alloc ?_ _) | (with_reducible refine Kd.C_drewN ?_ _) | (with_reducible refine Kd.C_drew ?_))); (case side4 => exact (Kd.R_reads' HO_11.out).2.1); rintro e w38 ⟨rfl, hb⟩; have n0_ := Az0.mk (Kd.R_below (by (with_reducible repeat (first | apply Kd.R_alloc | apply Kd.R_drewN | apply Kd.R_drew)); exact HO_11.out) hb); have n1_ := Az0.mk (Kd.R_below (by (with_reducible repeat (first | apply Kd.R_alloc | apply Kd.R_drewN | apply Kd.R_drew)); exact HO_12.out) hb); have n2_ := Az0.mk (below_step (by repeat (first | (with_reducible first | exact HB.out | apply baA_ | apply pbN_ | apply bD1_) | exact HB.out)) hb); clear HO_11; clear HO_12; clear HB; have HO_11 := n0_; have HO_12 := n1_; have HB := n2_; clear n0_ n1_ n2_; (try clear hb); (try clear hb2); (try clear hk); (try clear hi)) | (go_at_call 17; (with_reducible refine (trishawlaw03_alive.calls k3  t121 _ A36.out).mono ?_); rintro e w39 ⟨rfl, hb⟩; have n0_ := Az0.mk (Kd.R_below (by (with_reducible repeat (first | apply Kd.R_alloc | apply Kd.R_drewN | apply Kd.R_drew)); exact HO_11.out) hb); have n1_ := Az0.mk (Kd.R_below (by (with_reducible repeat (first | apply Kd.R_alloc | apply Kd.R_drewN | apply Kd.R_drew)); exact HO_12.out) hb); have n2_ := Az0.mk (below_step (by repeat (first | (with_reducible first | exact HB.out | apply baA_ | apply pbN_ | apply bD1_) | exact HB.out)) hb); clear HO_11; clear HO_12; clear HB; have HO_11 := n0_; have HO_12 := n1_; have HB := n2_; clear n0_ n1_ n2_; (try clear hb); (try clear hb2); (try clear hk); (try clear hi))))
              go_ret
              exact ⟨by first | rfl | (simp [errW_none, errW_some] <;> rfl) | (simp [*, errW_none, errW_some] <;> rfl), by repeat (first | (with_reducible first | exact HB.out | apply baA_ | apply pbN_ | apply bD1_) | exact HB.out)⟩
             ·replace c35 := Bool.eq_false_iff.mpr c35
              subst c35
              have H1 : (some false) = some r := by rw [if_neg (show ¬ (false = true) by decide)] at H; exact H
              clear H
              have H := H1
              clear H1
              obtain rfl := Option.some.inj H
              obtain ⟨Ao40, co40, eo40⟩ := Kd.R_slice HO_11.out
              subst eo40
              go_wp2_with (first | (go_at_call 41; (with_reducible refine (rAp_.calls k3 a0 _ _ l1 _ _ t109 false _ ?side1 ?side2 ?side3 ?side4 A34.out).mono ?_); (case side1 => repeat (first | exact (Kd.C_below HR1.out HB.out) | (with_reducible refine Kd.C_alloc ?_ _) | (with_reducible refine Kd.C_drewN ?_ _) | (with_reducible refine Kd.C_drew ?_))); (case side2 => exact HC1.out); (case side3 => repeat (first | exact (Kd.R_reads' HO_11.out).2.2 | (with_reducible refine Kd.C_alloc ?_ _) | (with_reducible refine Kd.C_drewN ?_ _) | (with_reducible refine Kd.C_drew ?_))); (case side4 => exact (Kd.R_reads' HO_11.out).2.1); rintro e w41 ⟨rfl, hb⟩; have n0_ := Az0.mk (Kd.R_below (by (with_reducible repeat (first | apply Kd.R_alloc | apply Kd.R_drewN | apply Kd.R_drew)); exact HO_11.out) hb); have n1_ := Az0.mk (Kd.R_below (by (with_reducible repeat (first | apply Kd.R_alloc | apply Kd.R_drewN | apply Kd.R_drew)); exact HO_12.out) hb); have n2_ := Az0.mk (below_step (by repeat (first | (with_reducible first | exact HB.out | apply baA_ | apply pbN_ | apply bD1_) | exact HB.out)) hb); clear HO_11; clear HO_12; clear HB; have HO_11 := n0_; have HO_12 := n1_; have HB := n2_; clear n0_ n1_ n2_; (try clear hb); (try clear hb2); (try clear hk); (try clear hi)))
              repeat (go_quiet (first | (go_at_call 41; (with_reducible refine (rAp_.calls k3 a0 _ _ l1 _ _ t109 false _ ?side1 ?side2 ?side3 ?side4 A34.out).mono ?_); (case side1 => repeat (first | exact (Kd.C_below HR1.out HB.out) | (with_reducible refine Kd.C_alloc ?_ _) | (with_reducible refine Kd.C_drewN ?_ _) | (with_reducible refine Kd.C_drew ?_))); (case side2 => exact HC1.out); (case side3 => repeat (first | exact (Kd.R_reads' HO_11.out).2.2 | (with_reducible refine Kd.C_alloc ?_ _) | (with_reducible refine Kd.C_drewN ?_ _) | (with_reducible refine Kd.C_drew ?_))); (case side4 => exact (Kd.R_reads' HO_11.out).2.1); rintro e w41 ⟨rfl, hb⟩; have n0_ := Az0.mk (Kd.R_below (by (with_reducible repeat (first | apply Kd.R_alloc | apply Kd.R_drewN | apply Kd.R_drew)); exact HO_11.out) hb); have n1_ := Az0.mk (Kd.R_below (by (with_reducible repeat (first | apply Kd.R_alloc | apply Kd.R_drewN | apply Kd.R_drew)); exact HO_12.out) hb); have n2_ := Az0.mk (below_step (by repeat (first | (with_reducible first | exact HB.out | apply baA_ | apply pbN_ | apply bD1_) | exact HB.out)) hb); clear HO_11; clear HO_12; clear HB; have HO_11 := n0_; have HO_12 := n1_; have HB := n2_; clear n0_ n1_ n2_; (try clear hb); (try clear hb2); (try clear hk); (try clear hi))); try go_wp2_with (first | (go_at_call 41; (with_reducible refine (rAp_.calls k3 a0 _ _ l1 _ _ t109 false _ ?side1 ?side2 ?side3 ?side4 A34.out).mono ?_); (case side1 => repeat (first | exact (Kd.C_below HR1.out HB.out) | (with_reducible refine Kd.C_alloc ?_ _) | (with_reducible refine Kd.C_drewN ?_ _) | (with_reducible refine Kd.C_drew ?_))); (case side2 => exact HC1.out); (case side3 => repeat (first | exact (Kd.R_reads' HO_11.out).2.2 | (with_reducible refine Kd.C_alloc ?_ _) | (with_reducible refine Kd.C_drewN ?_ _) | (with_reducible refine Kd.C_drew ?_))); (case side4 => exact (Kd.R_reads' HO_11.out).2.1); rintro e w41 ⟨rfl, hb⟩; have n0_ := Az0.mk (Kd.R_below (by (with_reducible repeat (first | apply Kd.R_alloc | apply Kd.R_drewN | apply Kd.R_drew)); exact HO_11.out) hb); have n1_ := Az0.mk (Kd.R_below (by (with_reducible repeat (first | apply Kd.R_alloc | apply Kd.R_drewN | apply Kd.R_drew)); exact HO_12.out) hb); have n2_ := Az0.mk (below_step (by repeat (first | (with_reducible first | exact HB.out | apply baA_ | apply pbN_ | apply bD1_) | exact HB.out)) hb); clear HO_11; clear HO_12; clear HB; have HO_11 := n0_; have HO_12 := n1_; have HB := n2_; clear n0_ n1_ n2_; (try clear hb); (try clear hb2); (try clear hk); (try clear hi))))
              go_ret
              exact ⟨by first | rfl | (simp [errW_none, errW_some] <;> rfl) | (simp [*, errW_none, errW_some] <;> rfl), by repeat (first | (with_reducible first | exact HB.out | apply baA_ | apply pbN_ | apply bD1_) | exact HB.out)⟩
            ·rw [if_neg c33] at H
             have c33b0 : ((t109.length : Int) == t106) = false := beq_eq_false_iff_ne.mpr c33
             have c33b1 : ((t109.length : Int) != t106) = true := bne_iff_ne.mpr c33
             obtain rfl := Option.some.inj H
             obtain ⟨Ao42, co42, eo42⟩ := Kd.R_slice HO_11.out
             subst eo42
             go_wp2
             repeat (go_quiet (fail); try go_wp2)
             go_ret
             exact ⟨by first | rfl | (simp [errW_none, errW_some] <;> rfl) | (simp [*, errW_none, errW_some] <;> rfl), by repeat (first | (with_reducible first | exact HB.out | apply baA_ | apply pbN_ | apply bD1_) | exact HB.out)⟩
           ·rw [if_neg c32] at H
            have c32b0 : (t110 == 0) = false := beq_eq_false_iff_ne.mpr c32
            have c32b1 : (t110 != 0) = true := bne_iff_ne.mpr c32
            by_cases c43 : (t109.length : Int) = 0
            ·rw [if_pos c43] at H
             have c43b0 : ((t109.length : Int) == 0) = true := beq_iff_eq.mpr c43
             have c43b1 : ((t109.length : Int) != 0) = false := bne_eq_false_iff_eq.mpr c43
             clear c43
             replace H := Option.bind_eq_some_iff.mp H
             obtain ⟨t122, A440, H⟩ := H
             replace H : (some t122) = some r := H
             have A44 := Az0.mk A440
             clear A440
             obtain rfl := Option.some.inj H
             obtain ⟨Ao45, co45, eo45⟩ := Kd.R_slice HO_11.out
             subst eo45
             go_wp2_with (first | (go_at_call 17; (with_reducible refine (trishawlaw03_alive.calls k3  t122 _ A44.out).mono ?_); rintro e w46 ⟨rfl, hb⟩; have n0_ := Az0.mk (Kd.R_below (by (with_reducible repeat (first | apply Kd.R_alloc | apply Kd.R_drewN | apply Kd.R_drew)); exact HO_11.out) hb); have n1_ := Az0.mk (Kd.R_below (by (with_reducible repeat (first | apply Kd.R_alloc | apply Kd.R_drewN | apply Kd.R_drew)); exact HO_12.out) hb); have n2_ := Az0.mk (below_step (by repeat (first | (with_reducible first | exact HB.out | apply baA_ | apply pbN_ | apply bD1_) | exact HB.out)) hb); clear HO_11; clear HO_12; clear HB; have HO_11 := n0_; have HO_12 := n1_; have HB := n2_; clear n0_ n1_ n2_; (try clear hb); (try clear hb2); (try clear hk); (try clear hi)))
             repeat (go_quiet (first | (go_at_call 17; (with_reducible refine (trishawlaw03_alive.calls k3  t122 _ A44.out).mono ?_); rintro e w46 ⟨rfl, hb⟩; have n0_ := Az0.mk (Kd.R_below (by (with_reducible repeat (first | apply Kd.R_alloc | apply Kd.R_drewN | apply Kd.R_drew)); exact HO_11.out) hb); have n1_ := Az0.mk (Kd.R_below (by (with_reducible repeat (first | apply Kd.R_alloc | apply Kd.R_drewN | apply Kd.R_drew)); exact HO_12.out) hb); have n2_ := Az0.mk (below_step (by repeat (first | (with_reducible first | exact HB.out | apply baA_ | apply pbN_ | apply bD1_) | exact HB.out)) hb); clear HO_11; clear HO_12; clear HB; have HO_11 := n0_; have HO_12 := n1_; have HB := n2_; clear n0_ n1_ n2_; (try clear hb); (try clear hb2); (try clear hk); (try clear hi))); try go_wp2_with (first | (go_at_call 17; (with_reducible refine (trishawlaw03_alive.calls k3  t122 _ A44.out).mono ?_); rintro e w46 ⟨rfl, hb⟩; have n0_ := Az0.mk (Kd.R_below (by (with_reducible repeat (first | apply Kd.R_alloc | apply Kd.R_drewN | apply Kd.R_drew)); exact HO_11.out) hb); have n1_ := Az0.mk (Kd.R_below (by (with_reducible repeat (first | apply Kd.R_alloc | apply Kd.R_drewN | apply Kd.R_drew)); exact HO_12.out) hb); have n2_ := Az0.mk (below_step (by repeat (first | (with_reducible first | exact HB.out | apply baA_ | apply pbN_ | apply bD1_) | exact HB.out)) hb); clear HO_11; clear HO_12; clear HB; have HO_11 := n0_; have HO_12 := n1_; have HB := n2_; clear n0_ n1_ n2_; (try clear hb); (try clear hb2); (try clear hk); (try clear hi))))
             go_ret
             exact ⟨by first | rfl | (simp [errW_none, errW_some] <;> rfl) | (simp [*, errW_none, errW_some] <;> rfl), by repeat (first | (with_reducible first | exact HB.out | apply baA_ | apply pbN_ | apply bD1_) | exact HB.out)⟩
            ·rw [if_neg c43] at H
             have c43b0 : ((t109.length : Int) == 0) = false := beq_eq_false_iff_ne.mpr c43
             have c43b1 : ((t109.length : Int) != 0) = true := bne_iff_ne.mpr c43
             have c43b2 : ¬ (t109 = []) := fun h_ => c43 (by rw [h_]; rfl)
             obtain rfl := Option.some.inj H
             obtain ⟨Ao47, co47, eo47⟩ := Kd.R_slice HO_11.out
             subst eo47
             go_wp2
             repeat (go_quiet (fail); try go_wp2)
             go_ret
             exact ⟨by first | rfl | (simp [errW_none, errW_some] <;> rfl) | (simp [*, errW_none, errW_some] <;> rfl), by repeat (first | (with_reducible first | exact HB.out | apply baA_ | apply pbN_ | apply bD1_) | exact HB.out)⟩
 ·replace c4 := Bool.eq_false_iff.mpr c4
  subst c4
  have H1 : ((trishawlaw03_alive.f k).bind fun t102 => (some t102)) = some r := by rw [if_neg (show ¬ (false = true) by decide)] at H; exact H
  clear H
  have H := H1
  clear H1
  replace H := Option.bind_eq_some_iff.mp H
  obtain ⟨t102, A480, H⟩ := H
  replace H : (some t102) = some r := H
  have A48 := Az0.mk A480
  clear A480
  obtain rfl := Option.some.inj H
  go_enter Try.func13, Try.ntmps13
  go_wp2_with (first | (go_at_call 15; (refine (trishawlaw03_few.calls _ _ l1 _ _ ([] : List Int) false _ ?side1 ?side2 ?side3 ?side4 A3.out).mono ?_); (case side1 => repeat (first | exact HR1.out | (with_reducible refine Kd.C_alloc ?_ _) | (with_reducible refine Kd.C_drewN ?_ _) | (with_reducible refine Kd.C_drew ?_))); (case side2 => exact HC1.out); (case side3 => exact Kd.C_nil _ _); (case side4 => exact Nat.le_refl _); rintro e w' ⟨rfl, ⟨nd, rfl⟩⟩; (try first | exact ⟨rfl, _, World.drewN_drewN _ _ _⟩ | exact ⟨rfl, _, Eq.trans (World.drewN_drewN _ _ _) (congrArg (World.drewN _) (Nat.add_assoc _ _ _))⟩)) | (go_at_call 17; (with_reducible refine (trishawlaw03_alive.calls k  t102 _ A48.out).mono ?_); rintro e w49 ⟨rfl, hb⟩; have n0_ := Az0.mk (below_step (by repeat (first | (with_reducible first | exact HB.out | apply baA_ | apply pbN_ | apply bD1_) | exact HB.out)) hb); clear HB; have HB := n0_; clear n0_; (try clear hb); (try clear hb2); (try clear hk); (try clear hi)))
  repeat (go_quiet (first | (go_at_call 15; (refine (trishawlaw03_few.calls _ _ l1 _ _ ([] : List Int) false _ ?side1 ?side2 ?side3 ?side4 A3.out).mono ?_); (case side1 => repeat (first | exact HR1.out | (with_reducible refine Kd.C_alloc ?_ _) | (with_reducible refine Kd.C_drewN ?_ _) | (with_reducible refine Kd.C_drew ?_))); (case side2 => exact HC1.out); (case side3 => exact Kd.C_nil _ _); (case side4 => exact Nat.le_refl _); rintro e w' ⟨rfl, ⟨nd, rfl⟩⟩; (try first | exact ⟨rfl, _, World.drewN_drewN _ _ _⟩ | exact ⟨rfl, _, Eq.trans (World.drewN_drewN _ _ _) (congrArg (World.drewN _) (Nat.add_assoc _ _ _))⟩)) | (go_at_call 17; (with_reducible refine (trishawlaw03_alive.calls k  t102 _ A48.out).mono ?_); rintro e w49 ⟨rfl, hb⟩; have n0_ := Az0.mk (below_step (by repeat (first | (with_reducible first | exact HB.out | apply baA_ | apply pbN_ | apply bD1_) | exact HB.out)) hb); clear HB; have HB := n0_; clear n0_; (try clear hb); (try clear hb2); (try clear hk); (try clear hi))); try go_wp2_with (first | (go_at_call 15; (refine (trishawlaw03_few.calls _ _ l1 _ _ ([] : List Int) false _ ?side1 ?side2 ?side3 ?side4 A3.out).mono ?_); (case side1 => repeat (first | exact HR1.out | (with_reducible refine Kd.C_alloc ?_ _) | (with_reducible refine Kd.C_drewN ?_ _) | (with_reducible refine Kd.C_drew ?_))); (case side2 => exact HC1.out); (case side3 => exact Kd.C_nil _ _); (case side4 => exact Nat.le_refl _); rintro e w' ⟨rfl, ⟨nd, rfl⟩⟩; (try first | exact ⟨rfl, _, World.drewN_drewN _ _ _⟩ | exact ⟨rfl, _, Eq.trans (World.drewN_drewN _ _ _) (congrArg (World.drewN _) (Nat.add_assoc _ _ _))⟩)) | (go_at_call 17; (with_reducible refine (trishawlaw03_alive.calls k  t102 _ A48.out).mono ?_); rintro e w49 ⟨rfl, hb⟩; have n0_ := Az0.mk (below_step (by repeat (first | (with_reducible first | exact HB.out | apply baA_ | apply pbN_ | apply bD1_) | exact HB.out)) hb); clear HB; have HB := n0_; clear n0_; (try clear hb); (try clear hb2); (try clear hk); (try clear hi))))
  go_ret
  exact ⟨by first | rfl | (simp [errW_none, errW_some] <;> rfl) | (simp [*, errW_none, errW_some] <;> rfl), by repeat (first | (with_reducible first | exact HB.out | apply baA_ | apply pbN_ | apply bD1_) | exact HB.out)⟩
end Go.Proofs.Ytpmadffgdfholaa.B
namespace Go.Proofs.Ytpmadffgdfholaa.B
open Go.RowKit Go.ChangeShapes Go.WideShapes Go.Deep Go.Proofs.YtpmadffgdfholaaW.PrintWords Go.Proofs.YtpmadffgdfholaaW.PrintLast Go.Proofs.YtpmadffgdfholaaW.PrintMore
/-- A street's three numbers are whole numbers of 64 bits. -/
def okS30 (x : S30) : Prop := (Lit.int .i64 x.f0).wf = true ∧ (Lit.int .i64 x.f1).wf = true ∧ (Lit.int .i64 x.f2).wf = true
section
variable {H : Type} {enc : TypeId × Value → H} {w : World} {spare : Nat → Bool} {held : Bool}
set_option maxRecDepth 100000 in
theorem open_way {fuel : Nat} {cs : List Value} {x : DataW H × List MemPlace} (h : DataW.trod enc Try.prog w 0 spare held fuel 30 cs = some x) : ∃ s : S30, cs = [.int .i64 s.f0, .int .i64 s.f1, .int .i64 s.f2] ∧ okS30 s := by
  obtain ⟨xs, n, _, _, hlen, hxl, hf⟩ := DataW.trod_struct Try.underlying30 h
  have h30 : Try.prog.cellsOf 30 = 3 := by kernel_rfl
  have h3 : Try.prog.cellsOf 3 = 1 := by kernel_rfl
  rw [h30] at hlen
  match cs, hlen with
  | [c0, c1, c2], _ =>
    have hsz : xs.length = 3 := hxl
    match xs, hsz with
    | [y0, y1, y2], _ =>
      have g0 : DataW.trod enc Try.prog w 0 spare held n 3 (([c0, c1, c2].drop 0).take (Try.prog.cellsOf 3)) = some y0 := hf 0 _ rfl
      have g1 : DataW.trod enc Try.prog w 0 spare held n 3 (([c0, c1, c2].drop 1).take (Try.prog.cellsOf 3)) = some y1 := hf 1 _ rfl
      have g2 : DataW.trod enc Try.prog w 0 spare held n 3 (([c0, c1, c2].drop 2).take (Try.prog.cellsOf 3)) = some y2 := hf 2 _ rfl
      rw [h3] at g0 g1 g2
      obtain ⟨n0, e0, _, w0⟩ := DataW.trod_int Try.underlying3 g0
      obtain ⟨n1, e1, _, w1⟩ := DataW.trod_int Try.underlying3 g1
      obtain ⟨n2, e2, _, w2⟩ := DataW.trod_int Try.underlying3 g2
      obtain rfl : c0 = .int .i64 n0 := by injection e0
      obtain rfl : c1 = .int .i64 n1 := by injection e1
      obtain rfl : c2 = .int .i64 n2 := by injection e2
      exact ⟨⟨n0, n1, n2⟩, rfl, w0, w1, w2⟩
theorem open_ways {a : Option Addr} {len cap : Nat} {d : DataW H} {p : List MemPlace} (h : DataW.Trod enc Try.prog w 0 spare held 22 (.slice a len cap) d p) :
    ∃ l : List S30, Kd.C k30 w a l.length l ∧ l.length = len ∧ len ≤ cap ∧ cap ≤ maxLen ∧ ∀ x ∈ l, okS30 x := by
  obtain ⟨fuel, hf⟩ := h
  rcases open_slice Try.underlying22 hf with ⟨hcs, _⟩ | ⟨x, l, c, m, n, D, Pl, hcs, _, hl, hm, hmm, _, hi⟩
  · simp [Value.cells] at hcs
    obtain ⟨rfl, rfl, rfl⟩ := hcs
    exact ⟨[], ⟨rfl, by simp, fun h => absurd h (by simp)⟩, rfl, Nat.le_refl _, by simp, by simp⟩
  · simp [Value.cells] at hcs
    obtain ⟨rfl, rfl, rfl⟩ := hcs
    have hlm : len ≤ m := by rw [hmm]; split <;> omega
    have h30 : Try.prog.cellsOf 30 = 3 := by kernel_rfl
    rw [h30] at hi
    have hex : ∀ i : Nat, ∃ s : S30, i < len → okS30 s ∧ w.cells? 0 (x.add (i * 3)) 3 = some [.int .i64 s.f0, .int .i64 s.f1, .int .i64 s.f2] := by
      intro i
      by_cases h : i < len
      · obtain ⟨cs', hc, ht⟩ := hi i (by omega)
        obtain ⟨s, rfl, hs⟩ := open_way ht
        exact ⟨s, fun _ => ⟨hs, hc⟩⟩
      · exact ⟨z30, fun h' => absurd h' h⟩
    obtain ⟨f, hf⟩ := Classical.axiomOfChoice hex
    have hll : ((List.range len).map f).length = len := by simp
    refine ⟨(List.range len).map f, ⟨rfl, by rw [hll]; simp only [maxLen] at hm; omega, fun _ => ⟨x, rfl, fun j p hj => ?_⟩⟩, hll, hl, hm, fun y hy => ?_⟩
    · have hjl : j < len := by have := (List.getElem?_eq_some_iff.1 hj).1; rw [hll] at this; exact this
      rw [List.getElem?_map, List.getElem?_range hjl] at hj
      injection hj with hj
      subst hj
      obtain ⟨hs, hc⟩ := hf j hjl
      obtain ⟨_, _, hat⟩ := World.cells?_some hc
      refine ⟨[.int .i64 (f j).f0, .int .i64 (f j).f1, .int .i64 (f j).f2], rfl, k30_mk w (f j), fun i u hu => ?_⟩
      have hi3 : i < 3 := (List.getElem?_eq_some_iff.1 hu).1
      show w.cell? (x.add (j * 3 + i)) = some u
      rw [← Go.Deep.add_add, hat i hi3, hu]
    · obtain ⟨j, hj, rfl⟩ := List.mem_map.1 hy
      exact (hf j (List.mem_range.1 hj)).1
end
end Go.Proofs.Ytpmadffgdfholaa.B
namespace Go.Proofs.Ytpmadffgdfholaa.B
open Go.RowKit Go.Proofs.YtpmadffgdfholaaW.PrintWords Go.Proofs.YtpmadffgdfholaaW.PrintLast Go.Proofs.YtpmadffgdfholaaW.PrintMore
def trishawlaw03_BranchNarrows.Pure : Prop := ∀ (a0 : Int) (l1 : List S30), (Lit.int .i64 a0).wf = true → l1.length ≤ maxLen → (∀ x ∈ l1, okS30 x) → ∃ k, trishawlaw03_BranchNarrows.f k a0 l1 = some true
theorem trishawlaw03_BranchNarrows.walk (P : trishawlaw03_BranchNarrows.Pure) (w : World) (a0 : Int) (A1 : Option Addr) (c1 : Nat) (l1 : List S30) (hr1 : Kd.C k30 w A1 l1.length l1) (hc1 : l1.length ≤ c1) (h0_0 : (Lit.int .i64 a0).wf = true) (h1_0 : l1.length ≤ maxLen) (h2_0 : (∀ x ∈ l1, okS30 x)) :
    Calls Try.prog 13 #[.int .i64 a0, .slice A1 l1.length c1] w fun e w' => e = .returned (.bool true) ∧ Below w.heap.size w w' := by
  obtain ⟨k, h⟩ := P a0 l1 h0_0 h1_0 h2_0
  refine (trishawlaw03_BranchNarrows.calls k a0 A1 c1 l1 true w hr1 hc1 h).mono ?_
  rintro e w' ⟨rfl, hd⟩
  exact ⟨rfl, hd⟩
end Go.Proofs.Ytpmadffgdfholaa.B
namespace Go.Proofs.Ytpmadffgdfholaa.B
open Go.RowKit Go.Proofs.YtpmadffgdfholaaW.PrintWords Go.Proofs.YtpmadffgdfholaaW.PrintLast Go.Proofs.YtpmadffgdfholaaW.PrintMore
theorem wrap_nat (i : Nat) (h : i < 4611686018427387904) : wrap64 ((i : Int) + 1) = ((i + 1 : Nat) : Int) := by unfold wrap64; omega
theorem drop_rd30 (l : List S30) (i : Nat) (h : i < l.length) : l.drop i = rdT l (i : Int) :: l.drop (i + 1) := by
  rw [List.drop_eq_getElem_cons h]
  simp [rdT, List.getD, List.getElem?_eq_getElem h]
theorem wayOk_iff (n : Int) (x : S30) : wayOk n x = true ↔ 0 ≤ x.f0 ∧ x.f0 < n ∧ 0 ≤ x.f1 ∧ x.f1 < n ∧ x.f0 ≠ x.f1 ∧ 0 ≤ x.f2 ∧ x.f2 ≤ 1000 := by
  unfold wayOk mn mx
  simp only [Bool.not_eq_true', Bool.or_eq_false_iff, decide_eq_false_iff_not, beq_eq_false_iff_ne]
  constructor
  · rintro ⟨⟨⟨⟨h1, h2⟩, h3⟩, h4⟩, h5⟩
    split at h1 <;> split at h2 <;> refine ⟨?_, ?_, ?_, ?_, h3, ?_, ?_⟩ <;> omega
  · rintro ⟨h1, h2, h3, h4, h5, h6, h7⟩
    refine ⟨⟨⟨⟨?_, ?_⟩, h5⟩, ?_⟩, ?_⟩
    · split <;> omega
    · split <;> omega
    · omega
    · omega
theorem town_l0 (n : Int) (l : List S30) (hl : l.length < 1000000) : ∀ d i k : Nat, i + d = l.length → trishawref03_Town.l0 (k + 2 * d + 1) n l (i : Int) = some (if (l.drop i).all (wayOk n) then 0 else 2)
  | 0, i, k, h => by
    simp only [trishawref03_Town.l0]
    rw [if_neg (by omega), List.drop_eq_nil_of_le (by omega)]
    simp
  | d + 1, i, k, h => by
    have hi : i < l.length := by omega
    rw [show k + 2 * (d + 1) + 1 = (k + 2 * d + 1 + 1) + 1 from by omega, drop_rd30 l i hi]
    simp only [trishawref03_Town.l0, List.all_cons]
    rw [if_pos (by omega), if_pos (by omega)]
    have ih := town_l0 n l hl d (i + 1) k (by omega)
    have hw := wrap_nat i (by omega)
    have j2t : trishawref03_Town.j2 (k + 2 * d + 1 + 1) n l (i : Int) true = some 2 := by simp [trishawref03_Town.j2]
    have j2f : trishawref03_Town.j2 (k + 2 * d + 1 + 1) n l (i : Int) false = some (if (l.drop (i + 1)).all (wayOk n) then 0 else 2) := by
      simp only [trishawref03_Town.j2, Bool.false_eq_true, if_false, hw]
      exact ih
    generalize rdT l (i : Int) = x
    have hx := wayOk_iff n x
    by_cases hok : wayOk n x = true
    · obtain ⟨h1, h2, h3, h4, h5, h6, h7⟩ := hx.1 hok
      rw [if_neg (by omega), if_neg (by omega), if_neg (by omega), if_neg (by omega), if_neg h5, if_neg (by omega), show decide (x.f2 > 1000) = false from decide_eq_false (by omega), j2f]
      simp [hok]
    · have hb : wayOk n x = false := Bool.eq_false_iff.mpr hok
      simp only [hb, Bool.false_and, Bool.false_eq_true, if_false]
      by_cases t1 : x.f0 < 0
      · rw [if_pos t1, j2t]
      rw [if_neg t1]
      by_cases t2 : x.f0 ≥ n
      · rw [if_pos t2, j2t]
      rw [if_neg t2]
      by_cases t3 : x.f1 < 0
      · rw [if_pos t3, j2t]
      rw [if_neg t3]
      by_cases t4 : x.f1 ≥ n
      · rw [if_pos t4, j2t]
      rw [if_neg t4]
      by_cases t5 : x.f0 = x.f1
      · rw [if_pos t5, j2t]
      rw [if_neg t5]
      by_cases t6 : x.f2 < 0
      · rw [if_pos t6, j2t]
      rw [if_neg t6]
      by_cases t7 : x.f2 > 1000
      · rw [show decide (x.f2 > 1000) = true from decide_eq_true t7, j2t]
      · exact absurd (hx.2 ⟨by omega, by omega, by omega, by omega, t5, by omega, by omega⟩) hok
theorem town_eq (n : Int) (l : List S30) (k : Nat) (hk : 2 * l.length + 2 ≤ k ∨ 62 ≤ k) : trishawref03_Town.f k n l = some (readB n l) := by
  have key : ∀ k, (2 * l.length + 2 ≤ k ∨ 62 ≤ k) → ∀ b : Bool, trishawref03_Town.j0 k n l b = some (if b = true then 2 else if 30 < l.length then 3 else if l.all (wayOk n) then 0 else 2) := by
    intro k hk b
    obtain ⟨k, rfl⟩ : ∃ k', k = k' + 1 := ⟨k - 1, by omega⟩
    simp only [trishawref03_Town.j0]
    cases b with
    | true => simp
    | false =>
      simp only [Bool.false_eq_true, if_false]
      by_cases h3 : 30 < l.length
      · rw [if_pos (by omega), if_pos h3]
      · rw [if_neg (by omega), if_neg h3]
        have := town_l0 n l (by omega) l.length 0 (k - 2 * l.length - 1) (by omega)
        rw [show k - 2 * l.length - 1 + 2 * l.length + 1 = k from by omega] at this
        simpa using this
  unfold trishawref03_Town.f readB
  by_cases h1 : n < 2
  · rw [if_pos h1, key k hk, if_pos rfl, if_pos (Or.inl h1)]
  · rw [if_neg h1, key k hk]
    by_cases h2 : n > 7
    · rw [show decide (n > 7) = true from decide_eq_true h2, if_pos rfl, if_pos (Or.inr h2)]
    · rw [show decide (n > 7) = false from decide_eq_false h2, if_neg (show ¬ (false = true) by decide), if_neg (show ¬ (n < 2 ∨ 7 < n) by omega)]
/-- A town that is taken. -/
theorem readB_ok {n : Int} {l : List S30} (h : readB n l = 0) : 2 ≤ n ∧ n ≤ 7 ∧ l.length ≤ 30 ∧ ∀ x ∈ l, wayOk n x = true := by
  unfold readB at h
  split at h
  · exact absurd h (by decide)
  split at h
  · exact absurd h (by decide)
  split at h
  · rename_i h1 h2 h3
    exact ⟨by omega, by omega, by omega, List.all_eq_true.1 h3⟩
  · exact absurd h (by decide)
end Go.Proofs.Ytpmadffgdfholaa.B
namespace Go.Proofs.Ytpmadffgdfholaa.B
open Go.RowKit Go.Proofs.YtpmadffgdfholaaW.PrintWords Go.Proofs.YtpmadffgdfholaaW.PrintLast Go.Proofs.YtpmadffgdfholaaW.PrintMore
def cnt (s : Nat) : Nat := ((List.range 7).filter fun b => s.testBit b).length
theorem fin_and : ∀ s : Fin 128, ∀ a : Fin 7, (Go.bits .and .i64 (shr .i64 ((s.val : Nat) : Int) ((a.val : Nat) : Int)) 1 = 1) ↔ s.val.testBit a.val = true := by decide +kernel
theorem fin_or : ∀ s : Fin 128, ∀ a : Fin 7, Go.bits .or .i64 ((s.val : Nat) : Int) (shl .i64 1 ((a.val : Nat) : Int)) = ((s.val ||| (1 <<< a.val) : Nat) : Int) := by decide +kernel
theorem fin_mod : ∀ s : Fin 128, ∀ a : Fin 7, Int.tmod (shr .i64 ((s.val : Nat) : Int) ((a.val : Nat) : Int)) 2 = if s.val.testBit a.val then 1 else 0 := by decide +kernel
theorem fin_add : ∀ s : Fin 128, ∀ a : Fin 7, s.val.testBit a.val = false → wrap64 (((s.val : Nat) : Int) + shl .i64 1 ((a.val : Nat) : Int)) = ((s.val ||| (1 <<< a.val) : Nat) : Int) := by decide +kernel
theorem fin_lt : ∀ n : Fin 8, ∀ s : Fin 128, ∀ a : Fin 7, s.val < 2 ^ n.val → a.val < n.val → s.val ||| (1 <<< a.val) < 2 ^ n.val := by decide +kernel
theorem fin_cnt : ∀ s : Fin 128, ∀ a : Fin 7, s.val.testBit a.val = false → cnt (s.val ||| (1 <<< a.val)) = cnt s.val + 1 := by decide +kernel
theorem fin_same : ∀ s : Fin 128, ∀ a : Fin 7, s.val.testBit a.val = true → s.val ||| (1 <<< a.val) = s.val := by decide +kernel
theorem fin_le : ∀ n : Fin 8, ∀ s : Fin 128, s.val < 2 ^ n.val → cnt s.val ≤ n.val := by decide +kernel
/-- A set that a street has been gone along. -/
def stepS (s : Nat) (x : S30) : Nat := if s.testBit x.f0.toNat then s ||| (1 <<< x.f1.toNat) else s
def passS (l : List S30) (L : List Int) (s : Nat) : Nat := L.foldl (fun s i => stepS s (rdT l i)) s
def itS (l : List S30) (L : List Int) : Nat → Nat → Nat
  | 0, s => s
  | d + 1, s => itS l L d (passS l L s)
theorem it_fix {l : List S30} {L : List Int} {s : Nat} (h : passS l L s = s) : ∀ d, itS l L d s = s
  | 0 => rfl
  | d + 1 => by rw [itS, h]; exact it_fix h d
section
variable {n : Nat} {l : List S30} {L : List Int}
theorem step_facts (hn : n ≤ 7) {s : Nat} (hs : s < 2 ^ n) {x : S30} (hx : wayOk n x = true) : stepS s x < 2 ^ n ∧ (stepS s x = s ∨ cnt (stepS s x) = cnt s + 1) := by
  obtain ⟨h1, h2, h3, h4, _⟩ := (wayOk_iff n x).1 hx
  have h128 : s < 128 := Nat.lt_of_lt_of_le hs (show 2 ^ n ≤ 2 ^ 7 from Nat.pow_le_pow_right (by decide) hn)
  unfold stepS
  split
  · refine ⟨fin_lt ⟨n, by omega⟩ ⟨s, h128⟩ ⟨x.f1.toNat, by omega⟩ hs (by simp only []; omega), ?_⟩
    cases hb : s.testBit x.f1.toNat with
    | true => exact .inl (fin_same ⟨s, h128⟩ ⟨x.f1.toNat, by omega⟩ hb)
    | false => exact .inr (fin_cnt ⟨s, h128⟩ ⟨x.f1.toNat, by omega⟩ hb)
  · exact ⟨hs, .inl rfl⟩
/-- The indices of a list are streets, and the streets are streets of the town. -/
def InL (n : Nat) (l : List S30) (L : List Int) : Prop := ∀ i ∈ L, 0 ≤ i ∧ i < (l.length : Int) ∧ wayOk n (rdT l i) = true
theorem pass_facts (hn : n ≤ 7) : ∀ (L : List Int), InL n l L → ∀ s, s < 2 ^ n → passS l L s < 2 ^ n ∧ (passS l L s = s ∨ cnt s < cnt (passS l L s))
  | [], _, s, hs => ⟨hs, .inl rfl⟩
  | i :: L, hL, s, hs => by
    obtain ⟨a1, a2⟩ := step_facts hn hs (hL i List.mem_cons_self).2.2
    obtain ⟨b1, b2⟩ := pass_facts hn L (fun j hj => hL j (List.mem_cons_of_mem _ hj)) _ a1
    refine ⟨b1, ?_⟩
    show passS l L (stepS s (rdT l i)) = s ∨ cnt s < cnt (passS l L (stepS s (rdT l i)))
    rcases a2 with a2 | a2
    · rw [a2] at b2 ⊢
      exact b2
    · rcases b2 with b2 | b2
      · rw [b2]; exact .inr (by omega)
      · exact .inr (by omega)
theorem it_lt (hn : n ≤ 7) (hL : InL n l L) : ∀ d s, s < 2 ^ n → itS l L d s < 2 ^ n
  | 0, _, h => h
  | d + 1, s, h => it_lt hn hL d _ (pass_facts hn L hL s h).1
/-- Enough rounds are enough. -/
theorem it_stop (hn : n ≤ 7) (hL : InL n l L) : ∀ c s, s < 2 ^ n → n ≤ cnt s + c → itS l L (c + 1) s = itS l L c s
  | 0, s, hs, h => by
    rcases (pass_facts hn L hL s hs).2 with e | e
    · exact it_fix e 1
    · have := fin_le ⟨n, by omega⟩ ⟨passS l L s, Nat.lt_of_lt_of_le (pass_facts hn L hL s hs).1 (show 2 ^ n ≤ 2 ^ 7 from Nat.pow_le_pow_right (by decide) hn)⟩ (pass_facts hn L hL s hs).1
      simp only [] at this
      omega
  | c + 1, s, hs, h => by
    rcases (pass_facts hn L hL s hs).2 with e | e
    · rw [it_fix e, it_fix e]
    · show itS l L (c + 1) (passS l L s) = itS l L c (passS l L s)
      exact it_stop hn hL c _ (pass_facts hn L hL s hs).1 (by omega)
theorem drop_rdI4 (ps : List Int) (i : Nat) (h : i < ps.length) : ps.drop i = rd ps (i : Int) :: ps.drop (i + 1) := by
  rw [List.drop_eq_getElem_cons h]
  simp [rd, List.getD, List.getElem?_eq_getElem h]
theorem rd_mem4 (cols : List Int) (p : Nat) (h : p < cols.length) : rd cols (p : Int) ∈ cols := by
  simp [rd, List.getD, List.getElem?_eq_getElem h]
theorem int_nat {a : Int} (h : 0 ≤ a) : a = ((a.toNat : Nat) : Int) := by omega
/-- One round of the code's. -/
theorem reach_l1 (hn : n ≤ 7) (hL : InL n l L) (hl : L.length < 1000) (N j : Int) : ∀ (d q k s : Nat), q + d = L.length → s < 2 ^ n →
    branch_town_reach.l1 (k + d + 1) L (s : Int) N j L (L.length : Int) (q : Int) (n : Int) l = branch_town_reach.l0 k L ((passS l (L.drop q) s : Nat) : Int) N (wrap64 (j + 1)) (n : Int) l
  | 0, q, k, s, h, _ => by
    simp only [branch_town_reach.l1]
    rw [if_neg (by omega), List.drop_eq_nil_of_le (by omega)]
    rfl
  | d + 1, q, k, s, h, hs => by
    have hq : q < L.length := by omega
    have hw := wrap_nat q (by omega)
    obtain ⟨i0, i1, hx⟩ := hL _ (rd_mem4 L q hq)
    have ih := reach_l1 hn hL hl N j d (q + 1) k (stepS s (rdT l (rd L (q : Int)))) (by omega) (step_facts hn hs hx).1
    have h128 : s < 128 := Nat.lt_of_lt_of_le hs (show 2 ^ n ≤ 2 ^ 7 from Nat.pow_le_pow_right (by decide) hn)
    rw [drop_rdI4 L q hq]
    show _ = branch_town_reach.l0 k L ((passS l (L.drop (q + 1)) (stepS s (rdT l (rd L (q : Int)))) : Nat) : Int) N (wrap64 (j + 1)) (n : Int) l
    rw [← ih, show k + (d + 1) + 1 = (k + d + 1) + 1 from by omega]
    clear ih
    generalize k + d + 1 = qq
    simp only [branch_town_reach.l1, hw]
    rw [if_pos (by omega), if_pos (by omega), if_pos (by omega), if_pos i0, if_pos i1]
    generalize rdT l (rd L (q : Int)) = x at hx
    obtain ⟨h1, h2, h3, h4, _⟩ := (wayOk_iff n x).1 hx
    have f1 := fin_and ⟨s, h128⟩ ⟨x.f0.toNat, by omega⟩
    have f2 := fin_or ⟨s, h128⟩ ⟨x.f1.toNat, by omega⟩
    simp only [← int_nat h1, ← int_nat h3] at f1 f2
    rw [if_pos h1]
    unfold stepS
    by_cases t : s.testBit x.f0.toNat = true
    · rw [if_pos (f1.2 t), if_pos h3, if_pos t, f2]
    · rw [if_neg (fun hh => t (f1.1 hh)), if_neg t]
theorem reach_l0 (hn : n ≤ 7) (hL : InL n l L) (hl : L.length < 1000) : ∀ (d j k s : Nat), j + d = n → s < 2 ^ n →
    branch_town_reach.l0 (k + (L.length + 2) * d + 1) L (s : Int) (n : Int) (j : Int) (n : Int) l = some ((itS l L d s : Nat) : Int)
  | 0, j, k, s, h, _ => by
    simp only [branch_town_reach.l0, Nat.mul_zero, Nat.add_zero]
    rw [if_neg (by omega)]
    rfl
  | d + 1, j, k, s, h, hs => by
    have hw := wrap_nat j (by omega)
    have ih := reach_l0 hn hL hl d (j + 1) k (passS l L s) (by omega) (pass_facts hn L hL s hs).1
    have h1 := reach_l1 hn hL hl (n : Int) (j : Int) L.length 0 (k + (L.length + 2) * d + 1) s (by omega) hs
    rw [show k + (L.length + 2) * (d + 1) + 1 = (k + (L.length + 2) * d + 1 + L.length + 1) + 1 from by rw [Nat.mul_succ]; omega]
    generalize hq : k + (L.length + 2) * d + 1 + L.length + 1 = qq at h1
    simp only [branch_town_reach.l0]
    rw [if_pos (by omega)]
    rw [List.drop_zero, hw] at h1
    exact h1.trans ih
/-- One round of the reference's. -/
theorem reached_l1 (hn : n ≤ 7) (hL : InL n l L) (hl : L.length < 1000) : ∀ (d q k s : Nat) (g : Bool), q + d = L.length → s < 2 ^ n →
    rRch_.l1 (k + d + 1) l L (s : Int) g (q : Int) = rRch_.l0 k l L ((passS l (L.drop q) s : Nat) : Int) (g || decide (passS l (L.drop q) s ≠ s))
  | 0, q, k, s, g, h, _ => by
    simp only [rRch_.l1]
    rw [if_neg (by omega), List.drop_eq_nil_of_le (by omega)]
    simp [passS]
  | d + 1, q, k, s, g, h, hs => by
    have hq : q < L.length := by omega
    have hw := wrap_nat q (by omega)
    obtain ⟨i0, i1, hx⟩ := hL _ (rd_mem4 L q hq)
    have sf := step_facts hn hs hx
    have ih := fun g => reached_l1 hn hL hl d (q + 1) k (stepS s (rdT l (rd L (q : Int)))) g (by omega) sf.1
    have pf := pass_facts (l := l) hn (L.drop (q + 1)) (fun i hi => hL i (List.mem_of_mem_drop hi)) _ sf.1
    have h128 : s < 128 := Nat.lt_of_lt_of_le hs (show 2 ^ n ≤ 2 ^ 7 from Nat.pow_le_pow_right (by decide) hn)
    rw [drop_rdI4 L q hq]
    show _ = rRch_.l0 k l L ((passS l (L.drop (q + 1)) (stepS s (rdT l (rd L (q : Int)))) : Nat) : Int) (g || decide (passS l (L.drop (q + 1)) (stepS s (rdT l (rd L (q : Int)))) ≠ s))
    rw [show k + (d + 1) + 1 = (k + d + 1) + 1 from by omega]
    generalize k + d + 1 = qq at ih
    simp only [rRch_.l1, hw]
    rw [if_pos (by omega), if_pos (by omega), if_pos i0, if_pos i1]
    generalize rdT l (rd L (q : Int)) = x at hx ih sf pf
    obtain ⟨h1, h2, h3, h4, _⟩ := (wayOk_iff n x).1 hx
    have f1 := fin_mod ⟨s, h128⟩ ⟨x.f0.toNat, by omega⟩
    have f2 := fin_mod ⟨s, h128⟩ ⟨x.f1.toNat, by omega⟩
    have f3 := fin_add ⟨s, h128⟩ ⟨x.f1.toNat, by omega⟩
    have f4 := fin_same ⟨s, h128⟩ ⟨x.f1.toNat, by omega⟩
    have f5 := fin_cnt ⟨s, h128⟩ ⟨x.f1.toNat, by omega⟩
    simp only [← int_nat h1, ← int_nat h3] at f1 f2 f3 f4 f5
    rw [if_pos h1, f1]
    unfold stepS at ih sf pf ⊢
    by_cases t : s.testBit x.f0.toNat = true
    · simp only [t, if_true] at ih sf pf ⊢
      rw [if_pos h3, f2]
      cases tb : s.testBit x.f1.toNat with
      | true =>
        rw [f4 tb] at ih ⊢
        rw [if_neg (by decide)]
        exact ih g
      | false =>
        rw [if_pos (by decide), f3 tb, ih true]
        have hne : passS l (L.drop (q + 1)) (s ||| 1 <<< x.f1.toNat) ≠ s := by
          intro hh
          have := f5 tb
          rcases pf.2 with e | e
          · rw [e] at hh; rw [hh] at this; omega
          · rw [hh] at e; omega
        simp [hne]
    · simp only [t, if_false, Bool.false_eq_true] at ih sf pf ⊢
      rw [if_neg (by decide)]
      exact ih g
theorem reached_l0 (hn : n ≤ 7) (hL : InL n l L) (hl : L.length < 1000) : ∀ (c k s : Nat), s < 2 ^ n → n ≤ cnt s + c →
    rRch_.l0 (k + (L.length + 2) * (c + 1) + 1) l L (s : Int) true = some ((itS l L c s : Nat) : Int)
  | c, k, s, hs, h => by
    have h1 := reached_l1 hn hL hl L.length 0 (k + (L.length + 2) * c + 1) s false (by omega) hs
    rw [show k + (L.length + 2) * (c + 1) + 1 = (k + (L.length + 2) * c + 1 + L.length + 1) + 1 from by rw [Nat.mul_succ]; omega]
    generalize hq : k + (L.length + 2) * c + 1 + L.length + 1 = qq at h1
    simp only [rRch_.l0, if_true]
    rw [List.drop_zero] at h1
    refine h1.trans ?_
    have pf := pass_facts hn L hL s hs
    by_cases e : passS l L s = s
    · rw [e, it_fix e]
      simp only [ne_eq, not_true_eq_false, decide_false, Bool.or_false]
      simp only [rRch_.l0]
      rfl
    · simp only [ne_eq, e, not_false_eq_true, decide_true, Bool.or_true]
      cases c with
      | zero =>
        have := it_stop hn hL 0 s hs (by omega)
        exact absurd this e
      | succ c =>
        have := reached_l0 hn hL hl c k (passS l L s) pf.1 (by rcases pf.2 with e2 | e2; exact absurd e2 e; omega)
        exact this
end
/-- Both closures. -/
theorem reach_both {n : Nat} {l : List S30} {L : List Int} (hn2 : 1 ≤ n) (hn : n ≤ 7) (hL : InL n l L) (hl : L.length < 1000) :
    ∃ r : Nat, r < 2 ^ n ∧ ∃ K, ∀ k, K ≤ k → branch_town_reach.f k (n : Int) l L = some (r : Int) ∧ rRch_.f k l L = some (r : Int) := by
  have h1 : (1 : Nat) < 2 ^ n := Nat.one_lt_two_pow (by omega)
  have hc : cnt 1 = 1 := by decide +kernel
  refine ⟨itS l L n 1, it_lt hn hL n 1 h1, (L.length + 2) * (n + 1) + 1, fun k hk => ⟨?_, ?_⟩⟩
  · have := reach_l0 hn hL hl n 0 (k - (L.length + 2) * n - 1) 1 (by omega) h1
    rw [show k - (L.length + 2) * n - 1 + (L.length + 2) * n + 1 = k from by have : (L.length + 2) * (n + 1) = (L.length + 2) * n + (L.length + 2) := Nat.mul_succ _ _; omega] at this
    exact this
  · have := reached_l0 hn hL hl n (k - (L.length + 2) * (n + 1) - 1) 1 h1 (by omega)
    rw [show k - (L.length + 2) * (n + 1) - 1 + (L.length + 2) * (n + 1) + 1 = k from by omega] at this
    exact this
end Go.Proofs.Ytpmadffgdfholaa.B
namespace Go.Proofs.Ytpmadffgdfholaa.B
open Go.RowKit Go.Proofs.YtpmadffgdfholaaW.PrintWords Go.Proofs.YtpmadffgdfholaaW.PrintLast Go.Proofs.YtpmadffgdfholaaW.PrintMore
attribute [local go_sem] max2_int min2_int max_two min_two max_three min_three max_four min_four   -- for this text's walks alone
set_option linter.unusedVariables false
set_option linter.unusedSimpArgs false
def branch_Reach.f (k : Nat) (a0 : Int) (l1 : List (S30)) : Option (Int × Int) := (branch_read.f a0 l1).bind fun t101 => (if t101 = 0 then ((branch_town_all.f k a0 l1).bind fun t103 => ((branch_town_reach.f k a0 l1 t103).bind fun t106 => (some (t106, 0)))) else (some (0, t101)))
def branch_Is.f (k : Nat) (a0 : Int) (l1 : List (S30)) (l2 : List Int) : Option (Int × Bool × Int) := (branch_read.f a0 l1).bind fun t113 => (if t113 = 0 then ((branch_town_is.f k a0 l1 l2).bind fun bt115 => (some (bt115.1, bt115.2, 0))) else (some (0, false, t113)))
end Go.Proofs.Ytpmadffgdfholaa.B
namespace Go.Proofs.Ytpmadffgdfholaa.B
open Go.RowKit Go.Proofs.YtpmadffgdfholaaW.PrintWords Go.Proofs.YtpmadffgdfholaaW.PrintLast Go.Proofs.YtpmadffgdfholaaW.PrintMore
def idx (l : List S30) : List Int := (List.range l.length).map fun q : Nat => (q : Int)
theorem idx_length (l : List S30) : (idx l).length = l.length := by simp [idx]
theorem all_code (l : List S30) (hl : l.length < 1000) : ∀ (d i k : Nat), i + d = l.length → branch_town_all.l0 (k + d + 1) ((List.range i).map fun q : Nat => (q : Int)) (l.length : Int) (i : Int) = some (idx l)
  | 0, i, k, h => by
    obtain rfl : i = l.length := by omega
    simp only [branch_town_all.l0]
    rw [if_neg (by omega)]
    rfl
  | d + 1, i, k, h => by
    have ih := all_code l hl d (i + 1) k (by omega)
    have hw := wrap_nat i (by omega)
    rw [← ih, show k + (d + 1) + 1 = (k + d + 1) + 1 from by omega]
    clear ih
    generalize k + d + 1 = qq
    simp only [branch_town_all.l0, hw]
    rw [if_pos (by omega), if_pos (by simp; omega), List.range_succ, List.map_append]
    rfl
theorem all_ref (l : List S30) (hl : l.length < 1000) : ∀ (d i k : Nat), i + d = l.length → trishawref03_all.l0 (k + d + 1) l ((List.range i).map fun q : Nat => (q : Int)) (i : Int) = some (idx l)
  | 0, i, k, h => by
    obtain rfl : i = l.length := by omega
    simp only [trishawref03_all.l0]
    rw [if_neg (by omega)]
    rfl
  | d + 1, i, k, h => by
    have ih := all_ref l hl d (i + 1) k (by omega)
    have hw := wrap_nat i (by omega)
    rw [← ih, show k + (d + 1) + 1 = (k + d + 1) + 1 from by omega]
    clear ih
    generalize k + d + 1 = qq
    simp only [trishawref03_all.l0, hw]
    rw [if_pos (by omega), if_pos (by simp; omega), List.range_succ, List.map_append]
    rfl
theorem rd_T30_mem (l : List S30) (i : Nat) (h : i < l.length) : rdT l (i : Int) ∈ l := by
  simp [rdT, List.getD, List.getElem?_eq_getElem h]
theorem idx_in {n : Nat} {l : List S30} (hx : ∀ x ∈ l, wayOk n x = true) : InL n l (idx l) := by
  intro i hi
  obtain ⟨q, hq, rfl⟩ := List.mem_map.1 hi
  have := List.mem_range.1 hq
  exact ⟨by omega, by omega, hx _ (rd_T30_mem l q this)⟩
theorem reach_eq (n : Int) (l : List S30) : ∃ r t : Int, ∃ K, ∀ k, K ≤ k → branch_Reach.f k n l = some (r, t) ∧ trishawref03_Reach.f k n l = some (r, t) := by
  by_cases hr : readB n l = 0
  · obtain ⟨h2, h7, h30, hx⟩ := readB_ok hr
    obtain ⟨m, rfl⟩ := Int.eq_ofNat_of_zero_le (show 0 ≤ n by omega)
    obtain ⟨r, _, K, hK⟩ := reach_both (n := m) (l := l) (L := idx l) (by omega) (by omega) (idx_in hx) (by rw [idx_length]; omega)
    refine ⟨r, 0, K + l.length + 100, fun k hk => ?_⟩
    obtain ⟨a, b⟩ := hK k (by omega)
    have c1 := all_code l (by omega) l.length 0 (k - l.length - 1) (by omega)
    have c2 := all_ref l (by omega) l.length 0 (k - l.length - 1) (by omega)
    rw [show k - l.length - 1 + l.length + 1 = k from by omega] at c1 c2
    replace c1 : branch_town_all.l0 k [] (l.length : Int) 0 = some (idx l) := c1
    replace c2 : trishawref03_all.l0 k l [] 0 = some (idx l) := c2
    unfold branch_Reach.f trishawref03_Reach.f branch_read.f branch_town_all.f trishawref03_all.f
    rw [town_eq _ _ k (.inr (by omega)), hr]
    simp only [Option.bind_some, if_true]
    rw [c1, c2, Option.bind_some, Option.bind_some, a, b]
    exact ⟨rfl, rfl⟩
  · refine ⟨0, readB n l, 100, fun k hk => ?_⟩
    unfold branch_Reach.f trishawref03_Reach.f branch_read.f
    rw [town_eq _ _ k (.inr (by omega)), Option.bind_some, Option.bind_some]
    exact ⟨by rw [if_neg hr], by rw [if_neg hr]⟩
theorem fin_and0 : ∀ s : Fin 128, ∀ a : Fin 7, (Go.bits .and .i64 (shr .i64 ((s.val : Nat) : Int) ((a.val : Nat) : Int)) 1 = 0) ↔ s.val.testBit a.val = false := by decide +kernel
theorem fin_shl : ∀ n : Fin 8, shl .i64 1 ((n.val : Nat) : Int) = ((2 ^ n.val : Nat) : Int) := by decide +kernel
/-- The streets that enter, from street i on. -/
def entR (l : List S30) (s : Nat) : Nat → Nat → List Int → List Int
  | 0, _, acc => acc
  | d + 1, i, acc => entR l s d (i + 1) (if s.testBit (rdT l (i : Int)).f0.toNat = false ∧ s.testBit (rdT l (i : Int)).f1.toNat = true then acc ++ [(i : Int)] else acc)
section
variable {n : Int} {l : List S30} {s : Nat}
theorem ent_code (hn : n ≤ 7) (hl : l.length < 1000) (hx : ∀ x ∈ l, wayOk n x = true) (hs : s < 128) : ∀ (d i k : Nat) (acc : List Int), i + d = l.length → acc.length ≤ i →
    bEnt_.l0 (k + d + 1) (s : Int) acc l (l.length : Int) (i : Int) = some (entR l s d i acc)
  | 0, i, k, acc, h, _ => by
    simp only [bEnt_.l0]
    rw [if_neg (by omega)]
    rfl
  | d + 1, i, k, acc, h, ha => by
    have hi : i < l.length := by omega
    have hw := wrap_nat i (by omega)
    have hok := hx _ (rd_T30_mem l i hi)
    have ih := fun acc ha => ent_code hn hl hx hs d (i + 1) k acc (by omega) ha
    rw [show k + (d + 1) + 1 = (k + d + 1) + 1 from by omega]
    generalize k + d + 1 = qq at ih
    simp only [bEnt_.l0, hw, entR]
    rw [if_pos (by omega), if_pos (by omega), if_pos (by omega)]
    generalize rdT l (i : Int) = x at hok
    obtain ⟨h1, h2, h3, h4, _⟩ := (wayOk_iff n x).1 hok
    have f1 := fin_and0 ⟨s, hs⟩ ⟨x.f0.toNat, by omega⟩
    have f2 := fin_and ⟨s, hs⟩ ⟨x.f1.toNat, by omega⟩
    simp only [← int_nat h1, ← int_nat h3] at f1 f2
    rw [if_pos h1]
    by_cases t0 : s.testBit x.f0.toNat = false
    · rw [if_pos (f1.2 t0), if_pos h3]
      by_cases t1 : s.testBit x.f1.toNat = true
      · rw [if_pos (f2.2 t1), if_pos (by omega), if_pos ⟨t0, t1⟩]
        exact ih _ (by simp; omega)
      · rw [if_neg (fun hh => t1 (f2.1 hh)), if_neg (fun hh => t1 hh.2)]
        exact ih _ (by omega)
    · rw [if_neg (fun hh => t0 (f1.1 hh)), if_neg (fun hh => t0 hh.1)]
      exact ih _ (by omega)
theorem ent_ref (hn : n ≤ 7) (hl : l.length < 1000) (hx : ∀ x ∈ l, wayOk n x = true) (hs : s < 128) : ∀ (d i k : Nat) (acc : List Int), i + d = l.length → acc.length ≤ i →
    trishawref03_entering.l0 (k + d + 1) l (s : Int) acc (i : Int) = some (entR l s d i acc)
  | 0, i, k, acc, h, _ => by
    simp only [trishawref03_entering.l0]
    rw [if_neg (by omega)]
    rfl
  | d + 1, i, k, acc, h, ha => by
    have hi : i < l.length := by omega
    have hw := wrap_nat i (by omega)
    have hok := hx _ (rd_T30_mem l i hi)
    have ih := fun acc ha => ent_ref hn hl hx hs d (i + 1) k acc (by omega) ha
    rw [show k + (d + 1) + 1 = (k + d + 1) + 1 from by omega]
    generalize k + d + 1 = qq at ih
    simp only [trishawref03_entering.l0, hw, entR, trishawref03_Enters.f]
    rw [if_pos (by omega), if_pos (by omega)]
    generalize rdT l (i : Int) = x at hok
    obtain ⟨h1, h2, h3, h4, _⟩ := (wayOk_iff n x).1 hok
    have f1 := fin_mod ⟨s, hs⟩ ⟨x.f0.toNat, by omega⟩
    have f2 := fin_mod ⟨s, hs⟩ ⟨x.f1.toNat, by omega⟩
    simp only [← int_nat h1, ← int_nat h3] at f1 f2
    rw [if_pos h1, f1, f2]
    cases t0 : s.testBit x.f0.toNat with
    | false =>
      rw [if_pos (by decide), if_pos h3, Option.bind_some]
      cases t1 : s.testBit x.f1.toNat with
      | true =>
        rw [if_pos (by decide), if_pos (by omega), if_pos ⟨rfl, rfl⟩]
        exact ih _ (by simp; omega)
      | false =>
        rw [if_neg (by decide), if_neg (by simp)]
        exact ih _ (by omega)
    | true =>
      rw [if_neg (by decide), Option.bind_some, if_neg (by decide), if_neg (by simp)]
      exact ih _ (by omega)
end
theorem same_self (E : List Int) (hE : E.length ≤ 1000) : ∀ (d i k : Nat), i + d = E.length → trishawlaw03_same.l0 (k + d + 1) E E (i : Int) = some true
  | 0, i, k, h => by
    simp only [trishawlaw03_same.l0]
    rw [if_neg (by omega)]
  | d + 1, i, k, h => by
    have hw := wrap_nat i (by omega)
    have ih := same_self E hE d (i + 1) k (by omega)
    rw [show k + (d + 1) + 1 = (k + d + 1) + 1 from by omega]
    generalize k + d + 1 = qq at ih
    simp only [trishawlaw03_same.l0, hw]
    rw [if_pos (by omega), if_pos (by omega), if_pos (by omega)]
    simpa using ih
end Go.Proofs.Ytpmadffgdfholaa.B
namespace Go.Proofs.Ytpmadffgdfholaa.B
/-- Corners that are reached from s along streets of T. -/
inductive Rc (a b : Nat → Nat) (T : Nat → Prop) (s : Nat) : Nat → Prop
  | refl : Rc a b T s s
  | step {i : Nat} : T i → Rc a b T s (a i) → Rc a b T s (b i)
section
variable {n : Nat} {a b : Nat → Nat} {T U : Nat → Prop} {s c d : Nat}
theorem Rc.mono (h : ∀ i, T i → U i) (r : Rc a b T s c) : Rc a b U s c := by
  induction r with
  | refl => exact .refl
  | step t _ ih => exact .step (h _ t) ih
theorem Rc.trans (r : Rc a b T s c) (q : Rc a b T c d) : Rc a b T s d := by
  induction q with
  | refl => exact r
  | step t _ ih => exact .step t ih
theorem Rc.one {i : Nat} (t : T i) : Rc a b T (a i) (b i) := .step t .refl
/-- What is closed under the streets and has s has all that is reached. -/
theorem Rc.closed {S : Nat → Prop} (hs : S s) (h : ∀ i, T i → S (a i) → S (b i)) (r : Rc a b T s c) : S c := by
  induction r with
  | refl => exact hs
  | step t _ ih => exact h _ t ih
theorem least_nat {P : Nat → Prop} (h : ∃ k, P k) : ∃ k, P k ∧ ∀ j, j < k → ¬ P j := by
  obtain ⟨k, hk⟩ := h
  induction k using Nat.strongRecOn with
  | _ k ih =>
    by_cases hj : ∃ j, j < k ∧ P j
    · obtain ⟨j, h1, h2⟩ := hj; exact ih j h1 h2
    · exact ⟨k, hk, fun j h1 h2 => hj ⟨j, h1, h2⟩⟩
/-- A branching: the street that leads to each corner but 0. -/
structure IsB (n : Nat) (a b : Nat → Nat) (T : Nat → Prop) (f : Nat → Nat) : Prop where
  on : ∀ c, 0 < c → c < n → T (f c) ∧ b (f c) = c
  all : ∀ c, c < n → Rc a b (fun i => ∃ c, 0 < c ∧ c < n ∧ i = f c) 0 c
theorem IsB.mono {f : Nat → Nat} (h : IsB n a b T f) (hT : ∀ i, T i → U i) : IsB n a b U f :=
  ⟨fun c h0 h1 => ⟨hT _ (h.on c h0 h1).1, (h.on c h0 h1).2⟩, h.all⟩
theorem IsB.within {f : Nat → Nat} (h : IsB n a b T f) (hU : ∀ c, 0 < c → c < n → U (f c)) : IsB n a b U f :=
  ⟨fun c h0 h1 => ⟨hU c h0 h1, (h.on c h0 h1).2⟩, h.all⟩
theorem IsB.congr {f g : Nat → Nat} (h : IsB n a b T f) (e : ∀ c, 0 < c → c < n → f c = g c) : IsB n a b T g :=
  ⟨fun c h0 h1 => e c h0 h1 ▸ h.on c h0 h1, fun c hc => (h.all c hc).mono fun _ ⟨c, h0, h1, q⟩ => ⟨c, h0, h1, q.trans (e c h0 h1)⟩⟩
def sumZ (g : Nat → Int) : Nat → Int
  | 0 => 0
  | k + 1 => sumZ g k + g k
theorem sumZ_congr {g h : Nat → Int} : ∀ k, (∀ i, i < k → g i = h i) → sumZ g k = sumZ h k
  | 0, _ => rfl
  | k + 1, e => by simp only [sumZ]; rw [sumZ_congr k (fun i hi => e i (by omega)), e k (by omega)]
theorem sumZ_add (g h : Nat → Int) : ∀ k, sumZ (fun i => g i + h i) k = sumZ g k + sumZ h k
  | 0 => rfl
  | k + 1 => by simp only [sumZ]; rw [sumZ_add g h k]; omega
theorem sumZ_zero : ∀ k, sumZ (fun _ => 0) k = 0
  | 0 => rfl
  | k + 1 => by simp only [sumZ]; rw [sumZ_zero k]; rfl
/-- What a branching costs. -/
def costF (n : Nat) (p : Nat → Int) (f : Nat → Nat) : Int := sumZ (fun c => if c = 0 then 0 else p (f c)) n
theorem costF_congr {p q : Nat → Int} {f g : Nat → Nat} (h : ∀ c, 0 < c → c < n → p (f c) = q (g c)) : costF n p f = costF n q g := by
  refine sumZ_congr n fun c hc => ?_
  split
  · rfl
  · exact h c (by omega) hc
end
end Go.Proofs.Ytpmadffgdfholaa.B
