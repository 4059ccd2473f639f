/- branch.(*town).first: its walk by hand. -/
import Derived.Test.YtpmadffgdfholaaDBH5
import Derived.Test.YtpmadffgdfholaaDBIter
import Derived.Test.YtpmadffgdfholaaProg
import Derived.Test.YtpmadffgdfholaaDBWords
import Derived.Test.YtpmadffgdfholaaDBA0
import Derived.Below
import Derived.Deep.Draws
import Derived.Deep.AppendLies
import Derived.Maps.AppendAt
import Derived.OwnWalk
import Derived.Laws.BytesArg
import Derived.Laws.MakeOwn
import Derived.Laws.OwnMore
import Derived.Deep.OwnRows
import Derived.Tactics
import Derived.Lib.ConvBytes
import Derived.Laws.Slices
import Derived.WalkKit
import Derived.KernelRfl
import Derived.RowKit3
import Derived.Deep.LoopGhost
import Derived.Deep.QuietTactic
import Derived.BigQuiet
import Derived.WideLaws
import Derived.Deep.DeepCutAuto
import Derived.Deep.CutBlock
import Derived.Deep.RegionHeld3
import Derived.Laws.Rows
import Derived.Lib.AppendStr
import Derived.ArgAppend
import Derived.Laws.IdiomCopy
import Derived.OrdersHeld
import Derived.Laws.BitsLemmas
import Derived.RowKit
import Derived.Test.YtpmadffgdfholaaWWords
import Derived.Test.YtpmadffgdfholaaWLast
import Derived.Test.YtpmadffgdfholaaWTab
import Derived.Test.YtpmadffgdfholaaWFour
import Derived.Test.YtpmadffgdfholaaWQPut
import Derived.Test.YtpmadffgdfholaaWApart
import Derived.Test.YtpmadffgdfholaaWArr
import Derived.Test.YtpmadffgdfholaaWZeros
import Derived.Test.YtpmadffgdfholaaWFoot
import Derived.Test.YtpmadffgdfholaaWKept
import Derived.Test.YtpmadffgdfholaaWShare
import Derived.Test.YtpmadffgdfholaaWN
import Derived.Test.YtpmadffgdfholaaWFootNe
import Derived.Test.YtpmadffgdfholaaWAt
import Derived.Test.YtpmadffgdfholaaWEqStruct
import Derived.Test.YtpmadffgdfholaaWRepsOne
import Derived.Test.YtpmadffgdfholaaWInv
import Derived.Test.YtpmadffgdfholaaWInvWords
import Derived.Test.YtpmadffgdfholaaWGuard
import Derived.Test.YtpmadffgdfholaaWNEv
import Derived.Test.YtpmadffgdfholaaWMore
import Derived.Test.YtpmadffgdfholaaDBB1
import Derived.Test.YtpmadffgdfholaaDBC1
import Derived.Test.YtpmadffgdfholaaDBD1
import Derived.WalkSpells
import Derived.Laws.EntriesVeiled
import Derived.Deep.DrawnRows
namespace Go.Proofs.Ytpmadffgdfholaa.B
open Go.RowKit Go.MapKept Go.Proofs.YtpmadffgdfholaaW.PrintWords Go.Proofs.YtpmadffgdfholaaW.PrintLast Go.Proofs.YtpmadffgdfholaaW.PrintMore
set_option linter.unusedVariables false
set_option linter.unusedSimpArgs false
attribute [local go_sem ↓] Go.wp_at_zero Go.wp_at_succ

set_option maxHeartbeats 800000 in
set_option maxRecDepth 100000 in
theorem first3_calls (i : Int) (ga gb m1 m2 : Nat) (g1 g2 : Int → Bool) (w : World) (hA : w.heap[ga]? = some (.cells #[.map (some m1)] 92 (0, 0))) (hB : w.heap[gb]? = some (.cells #[.map (some m2)] 92 (0, 0))) (h1 : SetM w m1 g1) (h2 : SetM w m2 g2) :
    Calls Try.prog 72 #[.int .i64 i, .pointer (some ⟨ga, 0, none⟩), .pointer (some ⟨gb, 0, none⟩)] w fun e w' => e = .returned (.bool (g1 i || g2 i)) ∧ Below w.heap.size w w' := by
  have hl1 := h1.lookup Try.underlying92 Try.underlying3 i (by first | rfl | (go_simp; done))
  have hl2 := h2.lookup Try.underlying92 Try.underlying3 i (by first | rfl | (go_simp; done))
  have ha := (blk_cell hA 0).trans rfl
  have hb := (blk_cell hB 0).trans rfl
  have HB := Aside0.mk (Below.refl w.heap.size w)
  obtain ⟨b1, hb1⟩ : ∃ b, g1 i = b := ⟨_, rfl⟩
  obtain ⟨b2, hb2⟩ : ∃ b, g2 i = b := ⟨_, rfl⟩
  rw [hb1] at hl1 ⊢
  rw [hb2] at hl2 ⊢
  clear hb1 hb2 h1 h2 hA hB
  go_enter Try.func72, Try.ntmps72
  cases b1 with
  | true =>
    go_wp2
    go_ret
    exact ⟨by first | rfl | (simp; done), HB.out⟩
  | false =>
    go_wp2
    go_ret
    exact ⟨by first | rfl | (simp; done), HB.out⟩
theorem first3_fn {w : World} {ga gb m1 m2 : Nat} {g1 g2 : Int → Bool} (hA : w.heap[ga]? = some (.cells #[.map (some m1)] 92 (0, 0))) (hB : w.heap[gb]? = some (.cells #[.map (some m2)] 92 (0, 0))) (h1 : SetM w m1 g1) (h2 : SetM w m2 g2) :
    IsFn Try.prog w (.func (.func 72) #[] #[.pointer (some ⟨ga, 0, none⟩), .pointer (some ⟨gb, 0, none⟩)]) (fun i => some (g1 i || g2 i)) := by
  refine ⟨72, _, Try.f72, rfl, Try.func72, by kernel_rfl, rfl, fun W hW i r hf => ?_⟩
  obtain rfl := Option.some.inj hf
  exact first3_calls i ga gb m1 m2 g1 g2 W (blk_below hA hW) (blk_below hB hW) (h1.below hW) (h2.below hW)
theorem first2_fn {w : World} {g1 gg1 g2 : Nat} {n : Int} {A : Option Addr} {c : Nat} {l : List S30} {m : Option Nat} {tk : Int} (hP1 : w.heap[g1]? = some (.cells #[.pointer (some ⟨gg1, 0, none⟩)] 65 (0, 0))) (hQ1 : w.heap[gg1]? = some (.cells #[.int .i64 n, .slice A l.length c, .map m] 70 (0, 0)))
    (hr : Kd.C k30 w A l.length l) (hc : l.length ≤ c) (hP2 : w.heap[g2]? = some (.cells #[.int .i64 tk] 3 (0, 0))) :
    IsFn Try.prog w (.func (.func 71) #[] #[.pointer (some ⟨g1, 0, none⟩), .pointer (some ⟨g2, 0, none⟩)]) (fun i => branch_town_first_2.f i n l tk) := by
  refine ⟨71, _, Try.f71, rfl, Try.func71, by kernel_rfl, rfl, fun W hW i r hf => ?_⟩
  refine (branch_town_first_2.calls i g1 gg1 n A c l m g2 tk r W (blk_below hP1 hW) (blk_below hQ1 hW) (Kd.C_below hr hW) hc (blk_below hP2 hW) hf).mono (fun e_ w_ x_ => ⟨x_.1, by obtain ⟨_, n_, rfl⟩ := x_; exact pw_below_drewN (Below.refl _ _) n_⟩)
theorem first1_fn (w : World) : IsFn Try.prog w (.func (.func 69) #[] #[]) (fun i => branch_town_first_1.f i) :=
  ⟨69, #[], Try.f69, rfl, Try.func69, by kernel_rfl, rfl, fun W_ _ i_ r_ h_ => (branch_town_first_1.calls i_ r_ W_ h_).mono (fun e_ w_ x_ => ⟨x_.1, by obtain ⟨_, n_, rfl⟩ := x_; exact pw_below_drewN (Below.refl _ _) n_⟩)⟩

/-- The streets of a list but one. -/
def moreL (i : Int) (T : List Int) : Int → Bool := fun j => decide (j ∈ T) && decide (j ≠ i)
theorem moreL_nil (i : Int) : moreL i [] = fun _ => false := by funext j; simp [moreL]
theorem moreL_snoc_ne (i x : Int) (T : List Int) (h : x ≠ i) : moreL i (T ++ [x]) = fun j => decide (j = x) || moreL i T j := by
  funext j
  simp only [moreL, List.mem_append, List.mem_singleton]
  by_cases h1 : j = x
  · subst h1; simp [h]
  · simp [h1]
theorem moreL_snoc_eq (i : Int) (T : List Int) : moreL i (T ++ [i]) = moreL i T := by
  funext j
  simp only [moreL, List.mem_append, List.mem_singleton]
  by_cases h1 : j = i
  · subst h1; simp
  · simp [h1]
def firstL (k : Nat) (n : Int) (l : List S30) (price : List Int) (cost : Int) : Nat → Nat → List Int → (Int → Bool) → Option (List Int × Int × Int)
  | 0, _, list, _ => some (list, cost, 0)
  | c + 1, i, list, gone =>
    (if (rd_T30 l (i : Int)).f1 = 0 then some true else slices_ContainsFunc_int_int.f k list (fun j => branch_town_first_2.f j n l (rd_T30 l (i : Int)).f1)).bind fun sk =>
      if sk = true then firstL k n l price cost c (i + 1) list (fun j => decide (j = (i : Int)) || gone j) else
        (branch_town_cheapest.f k n l price (fun j => some (gone j || moreL (i : Int) (toB l l.length (rd_T30 l (i : Int)).f1) j))).bind fun bt =>
          if (bt.2.2 && (bt.1 == cost)) = true then (if list.length < 1000000 then firstL k n l price cost c (i + 1) (list ++ [(i : Int)]) (fun j => gone j || moreL (i : Int) (toB l l.length (rd_T30 l (i : Int)).f1) j) else none)
          else firstL k n l price cost c (i + 1) list (fun j => decide (j = (i : Int)) || gone j)
def branch_town_first.f (k : Nat) (a0_0 : Int) (l0_1 : List S30) (l1 : List Int) : Option (List Int × Int × Int) :=
  if l0_1.length < 1000000 then (branch_town_cheapest.f k a0_0 l0_1 l1 (fun i => branch_town_first_1.f i)).bind fun bt => if bt.2.2 = true then firstL k a0_0 l0_1 l1 bt.1 l0_1.length 0 [] (fun _ => false) else some ([], 0, 10) else none
theorem firstL_mono (k : Nat) (n : Int) (l : List S30) (price : List Int) (cost : Int) : ∀ c i list gone, LeO (firstL k n l price cost c i list gone) (firstL (k + 1) n l price cost c i list gone)
  | 0, _, _, _ => LeO.refl _
  | c + 1, i, list, gone => by
    unfold firstL
    refine LeO.bind (LeO.ite (LeO.refl _) (slices_ContainsFunc_int_int.mono _ _ k)) fun sk => ?_
    refine LeO.ite (firstL_mono k n l price cost c _ _ _) ?_
    refine LeO.bind (branch_town_cheapest.mono _ _ _ _ k) fun bt => ?_
    exact LeO.ite (LeO.ite (firstL_mono k n l price cost c _ _ _) (LeO.refl _)) (firstL_mono k n l price cost c _ _ _)
theorem branch_town_first.mono : ∀ a0 a1 a2 k, LeO (branch_town_first.f k a0 a1 a2) (branch_town_first.f (k + 1) a0 a1 a2) := by
  intro a0 a1 a2 k
  unfold branch_town_first.f
  refine LeO.ite ?_ (LeO.refl _)
  refine LeO.bind (branch_town_cheapest.mono _ _ _ _ k) fun bt => ?_
  exact LeO.ite (firstL_mono k a0 a1 a2 _ _ _ _ _) (LeO.refl _)

/-- What a walk of first knows of its world: the variables' blocks, the list, what is gone. -/
structure FEnv (w W : World) (tb g0 gq m : Nat) (vl : Value) (list : List Int) (gone : Int → Bool) : Prop where
  hB : Below w.heap.size w W
  tB : W.heap[tb]? = some (.cells #[.pointer (some ⟨g0, 0, none⟩)] 65 (0, 0))
  qB : W.heap[gq]? = some (.cells #[.map (some m)] 92 (0, 0))
  hM : SetM W m gone
  hL : Kd.R (Kd.int .i64) 3 W w.heap.size (fun _ => True) vl list
  gm : w.heap.size ≤ m
theorem FEnv.below {w W W2 : World} {tb g0 gq m : Nat} {vl : Value} {list : List Int} {gone : Int → Bool} (h : FEnv w W tb g0 gq m vl list gone) (hb : Below W.heap.size W W2) : FEnv w W2 tb g0 gq m vl list gone :=
  ⟨below_step h.hB hb, blk_below h.tB hb, blk_below h.qB hb, h.hM.below hb, Kd.R_below h.hL hb, h.gm⟩
theorem FEnv.upd {w W W2 : World} {tb g0 gq m : Nat} {vl : Value} {list : List Int} {gone gone2 : Int → Bool} (h : FEnv w W tb g0 gq m vl list gone) (hM2 : SetM W2 m gone2) (hg : W.grownBy W2 (some m)) : FEnv w W2 tb g0 gq m vl list gone2 :=
  ⟨h.hB.grown hg h.hB.size (fun j hj => by cases hj; exact h.gm), blk_grown h.tB hg (by have := h.hM.ne_cells h.tB; intro e; injection e with e; exact this e.symm), blk_grown h.qB hg (by have := h.hM.ne_cells h.qB; intro e; injection e with e; exact this e.symm), hM2, Kd.R_map h.hL h.hM hg, h.gm⟩
theorem FEnv.other {w W W2 : World} {tb g0 gq m m2 : Nat} {vl : Value} {list : List Int} {gone g2 : Int → Bool} (h : FEnv w W tb g0 gq m vl list gone) (hM2 : SetM W m2 g2) (hne : m ≠ m2) (hlo : w.heap.size ≤ m2) (hg : W.grownBy W2 (some m2)) : FEnv w W2 tb g0 gq m vl list gone :=
  ⟨h.hB.grown hg h.hB.size (fun j hj => by cases hj; exact hlo), blk_grown h.tB hg (by have := hM2.ne_cells h.tB; intro e; injection e with e; exact this e.symm), blk_grown h.qB hg (by have := hM2.ne_cells h.qB; intro e; injection e with e; exact this e.symm), h.hM.of_block (hg.block m h.hM.lt (fun e => hne (by injection e))), Kd.R_map h.hL hM2 hg, h.gm⟩
theorem FEnv.iter {w W W2 : World} {tb g0 gq m m2 r cnt : Nat} {vl : Value} {list : List Int} {gone g2 d2 : Int → Bool} (h : FEnv w W tb g0 gq m vl list gone) (hI : IterM W m2 r g2 d2 cnt) (hlo : w.heap.size ≤ r) (hg : W.grownBy W2 (some r)) : FEnv w W2 tb g0 gq m vl list gone := by
  refine ⟨h.hB.grown hg h.hB.size (fun j hj => by cases hj; exact hlo), blk_grown h.tB hg (by have := hI.ne_cells h.tB; intro e; injection e with e; exact this e.symm), blk_grown h.qB hg (by have := hI.ne_cells h.qB; intro e; injection e with e; exact this e.symm), h.hM.of_block (hg.block m h.hM.lt (fun e => hI.ne_map h.hM (by injection e with e; exact e.symm))), ?_, h.gm⟩
  refine Kd.R_mono (Kd.R_grown (Kd.R_bound h.hL) hg (fun k hk he => ?_)) (fun _ hk => hk.1)
  obtain ⟨_, _, _, q, _, cells, hc⟩ := hk
  injection he with he
  subst he
  exact hI.ne_cells hc rfl
theorem IterM.turn {w w2 : World} {m r k : Nat} {g done : Int → Bool} {cnt : Nat} (h : IterM w m r g done cnt) (hg : w.grownBy w2 (some k)) (h1 : m ≠ k) (h2 : r ≠ k) : IterM w2 m r g done cnt :=
  h.of_blocks (hg.block m h.set.lt (fun e => h1 (by injection e))) (hg.block r h.lt (fun e => h2 (by injection e)))
theorem SetM.row {w w2 : World} {m base : Nat} {g : Int → Bool} {ok : Nat → Prop} {v : Value} {xs : List Int} (h : SetM w m g) (hR : Kd.R (Kd.int .i64) 3 w base ok v xs) (hg : w.grownBy w2 v.ownBlock) : SetM w2 m g :=
  h.of_block (hg.block m h.lt (fun e => by
    obtain ⟨cells, hc⟩ := own_typed (Kd.own_of_R hR) m e.symm
    exact h.ne_cells hc rfl))
theorem FEnv.app {w W W2 : World} {tb g0 gq m : Nat} {vl v2 : Value} {list list2 : List Int} {gone : Int → Bool} (h : FEnv w W tb g0 gq m vl list gone) (hb : Below w.heap.size w W2) (hg : W.grownBy W2 vl.ownBlock) (hL : Kd.R (Kd.int .i64) 3 W2 w.heap.size (fun _ => True) v2 list2) : FEnv w W2 tb g0 gq m v2 list2 gone :=
  ⟨hb, blk_grown h.tB hg (Kd.R_ne h.hL h.tB (by decide)), blk_grown h.qB hg (Kd.R_ne h.hL h.qB (by decide)), h.hM.row h.hL hg, hL, h.gm⟩
theorem take_rdI (T : List Int) (q : Nat) (h : q < T.length) : T.take (q + 1) = T.take q ++ [rd T (q : Int)] := by
  rw [List.take_add_one, List.getElem?_eq_getElem h]
  simp [rd, List.getD, List.getElem?_eq_getElem h]
theorem drop_cell {w W : World} {a : Addr} {v : Value} (h : w.cell? a = some v) (hB : Below w.heap.size w W) : W.cell? a = some v := (hB.cell (World.block_lt_of_cell? w _ h)).trans h

set_option maxHeartbeats 8000000 in
set_option maxRecDepth 100000 in
theorem branch_town_first.calls (k : Nat) (g0 : Nat) (a0_0 : Int) (A0_1 : Option Addr) (c0_1 : Nat) (l0_1 : List S30) (mm base0 : Nat) (A1 : Option Addr) (c1 : Nat) (l1 : List Int) (r1 : List Int) (r2 r3 : Int) (w : World) (hP0 : w.heap[g0]? = some (.cells #[.int .i64 a0_0, .slice A0_1 l0_1.length c0_1, .map (some mm)] 70 (0, 0))) (hr0_1 : Kd.C k30 w A0_1 l0_1.length l0_1) (hc0_1 : l0_1.length ≤ c0_1) (hr1 : Kd.C (Kd.int .i64) w A1 l1.length l1) (hc1 : l1.length ≤ c1) (hG : GrpM w base0 mm (toB l0_1 l0_1.length)) (h : branch_town_first.f k a0_0 l0_1 l1 = some (r1, r2, r3)) :
    Calls Try.prog 51 #[.pointer (some ⟨g0, 0, none⟩), .slice A1 l1.length c1] w fun e w' => ∃ v0_ : Value, e = .returned (.tuple #[v0_, .int .i64 r2, .int .i64 r3]) ∧ Kd.R (Kd.int .i64) 3 w' w.heap.size (fun _ => True) v0_ r1 ∧ Below w.heap.size w w' := by
  have hu30 := Try.underlying30
  have hu65 := Try.underlying65
  have HP0 := Aside0.mk hP0
  have HR0 := Aside0.mk hr0_1
  have HC0 := Aside0.mk hc0_1
  have HR1 := Aside0.mk hr1
  have HC1 := Aside0.mk hc1
  have HG := Aside0.mk hG
  have HX1 := Aside0.mk (show w.cell? ⟨g0, 1, none⟩ = some (.slice A0_1 l0_1.length c0_1) from (blk_cell hP0 1).trans rfl)
  have HX2 := Aside0.mk (show w.cell? ⟨g0, 2, none⟩ = some (.map (some mm)) from (blk_cell hP0 2).trans rfl)
  clear hP0 hr0_1 hc0_1 hr1 hc1 hG
  have HB := Aside0.mk (Below.refl w.heap.size w)
  have hmf : ∀ (fn : Fn) (first cap : Array Value) (w : World), (Instr.makeFunc fn first cap).run Try.prog w = .ok (.func fn first cap) w := fun _ _ _ _ => rfl
  unfold branch_town_first.f at h
  split at h
  case isFalse => exact absurd h (by simp)
  rename_i hlen
  have HLEN := Aside0.mk hlen
  clear hlen
  obtain ⟨⟨b1, b2, b3⟩, hbt, h⟩ := Option.bind_eq_some_iff.1 h
  have HBT := Aside0.mk hbt
  have H0 := Aside0.mk h
  clear hbt h
  cases b3 with
  | false =>
    have h := H0.out
    simp only [Bool.false_eq_true, if_false, Option.some.injEq, Prod.mk.injEq] at h
    obtain ⟨rfl, rfl, rfl⟩ := h
    go_enter Try.func51, Try.ntmps51
    go_wp2_with (first | ((with_reducible refine gate_dst (N := 2) rfl ?_); refine box_event ?hg (N := 2) ?hd (cs := #[.pointer (some ⟨g0, 0, none⟩)]) (t := 65) ?hr ?_; (case hd => rfl); (case hg => rfl); (case hr => first | (go_simp; done) | (go_simp; rfl)); intro tb hg w1 hbox hb; have TB := Aside0.mk hbox; have GT := Aside0.mk (show w.heap.size ≤ tb by rw [hg]; exact Nat.le_refl _); clear HB; have HB := Aside0.mk hb; clear hg hbox hb; have ht_0 : w1.cell? ⟨tb, 0, none⟩ = some (.pointer (some ⟨g0, 0, none⟩)) := (blk_cell TB.out 0).trans rfl) | (go_at_call 46; (refine (branch_town_cheapest.calls k g0 a0_0 A0_1 c0_1 l0_1 (some mm) A1 c1 l1 _ (fun i => branch_town_first_1.f i) b1 b2 _ _ (blk_below HP0.out HB.out) (Kd.C_below HR0.out HB.out) HC0.out (Kd.C_below HR1.out HB.out) HC1.out (first1_fn _) HBT.out).mono ?_); rintro e w2 ⟨vb, rfl, ho, hb⟩; have n0_ := Aside0.mk (below_step HB.out hb); have n1_ := Aside0.mk (blk_below TB.out hb); clear HB TB; have HB := n0_; have TB := n1_; clear n0_ n1_ ho hb ht_0; have ht_0 : w2.cell? ⟨tb, 0, none⟩ = some (.pointer (some ⟨g0, 0, none⟩)) := (blk_cell TB.out 0).trans rfl; have hp_1 := drop_cell HX1.out HB.out; have hp_2 := drop_cell HX2.out HB.out))
    go_ret3
    exact ⟨_, by first | rfl | (simp; done), Kd.R_nil _ _ _ _ _, by repeat (first | (with_reducible first | exact HB.out | apply below_alloc | apply pw_below_drewN | apply below_drew1) | exact HB.out)⟩
  | true =>
    have h := H0.out
    simp only [if_true] at h
    clear H0
    have H0 := Aside0.mk h
    clear h
    go_enter Try.func51, Try.ntmps51
    go_upto_region 7 with (first | ((with_reducible refine gate_dst (N := 2) rfl ?_); refine box_event ?hg (N := 2) ?hd (cs := #[.pointer (some ⟨g0, 0, none⟩)]) (t := 65) ?hr ?_; (case hd => rfl); (case hg => rfl); (case hr => first | (go_simp; done) | (go_simp; rfl)); intro tb hg w1 hbox hb; have TB := Aside0.mk hbox; have GT := Aside0.mk (show w.heap.size ≤ tb by rw [hg]; exact Nat.le_refl _); clear HB; have HB := Aside0.mk hb; clear hg hbox hb; have ht_0 : w1.cell? ⟨tb, 0, none⟩ = some (.pointer (some ⟨g0, 0, none⟩)) := (blk_cell TB.out 0).trans rfl) | (go_at_call 46; (refine (branch_town_cheapest.calls k g0 a0_0 A0_1 c0_1 l0_1 (some mm) A1 c1 l1 _ (fun i => branch_town_first_1.f i) b1 b2 _ _ (blk_below HP0.out HB.out) (Kd.C_below HR0.out HB.out) HC0.out (Kd.C_below HR1.out HB.out) HC1.out (first1_fn _) HBT.out).mono ?_); rintro e w2 ⟨vb, rfl, ho, hb⟩; have n0_ := Aside0.mk (below_step HB.out hb); have n1_ := Aside0.mk (blk_below TB.out hb); clear HB TB; have HB := n0_; have TB := n1_; clear n0_ n1_ ho hb ht_0; have ht_0 : w2.cell? ⟨tb, 0, none⟩ = some (.pointer (some ⟨g0, 0, none⟩)) := (blk_cell TB.out 0).trans rfl; have hp_1 := drop_cell HX1.out HB.out; have hp_2 := drop_cell HX2.out HB.out) | ((with_reducible refine gate_dst (N := 32) rfl ?_); refine map_event ?hg (N := 32) ?hd ?hr ?_; (case hd => rfl); (case hg => rfl); (case hr => rfl); intro m hm w3 hmap hb; have HM := Aside0.mk (SetM.new hmap); have n0_ := Aside0.mk (blk_below (by (with_reducible repeat (first | refine blk_drewN ?_ _ | refine blk_drew ?_ | refine blk_alloc ?_ _)); exact TB.out) hb); have n1_ := Aside0.mk (below_step (by repeat (first | (with_reducible first | exact HB.out | apply below_alloc | apply pw_below_drewN | apply below_drew1) | exact HB.out)) hb); have GM := Aside0.mk ((by rw [hm]; exact (below_size (by repeat (first | (with_reducible first | exact HB.out | apply below_alloc | apply pw_below_drewN | apply below_drew1) | exact HB.out)))) : w.heap.size ≤ m); clear TB HB; have TB := n0_; have HB := n1_; clear n0_ n1_ hm hmap hb))
    obtain ⟨gq, hgq⟩ : ∃ gq, w3.heap.size = gq := ⟨_, rfl⟩
    rw [hgq]
    obtain ⟨wq, hwq⟩ : ∃ wq, w3.alloc (.cells #[.map (some m)] 92) = wq := ⟨_, rfl⟩
    rw [hwq]
    have n0_ : Below w3.heap.size w3 wq := hwq ▸ below_alloc (Below.refl _ _) _
    have FE := Aside0.mk (show FEnv w wq tb g0 gq m (.slice none 0 0) [] (fun _ => false) from ⟨below_step HB.out n0_, blk_below TB.out n0_, hgq ▸ hwq ▸ heap_alloc_new w3 _, HM.out.below n0_, Kd.R_nil _ _ _ _ _, GM.out⟩)
    clear n0_ hgq hwq HB TB HM ht_0 hp_1 hp_2
    have ht_0 : wq.cell? ⟨tb, 0, none⟩ = some (.pointer (some ⟨g0, 0, none⟩)) := (blk_cell FE.out.tB 0).trans rfl
    have hp_1 := drop_cell HX1.out FE.out.hB
    have hp_2 := drop_cell HX2.out FE.out.hB
    have hq_0 : wq.cell? ⟨gq, 0, none⟩ = some (.map (some m)) := (blk_cell FE.out.qB 0).trans rfl
    go_wp2
    go_loopg [11, 38] l0_1.length (fun kq v11 v38 w' => ∃ (i : Nat) (list : List Int) (gone : Int → Bool), v38 = .int .i64 (i : Int) ∧ Aside0 (i + kq = l0_1.length) ∧ Aside0 (firstL k a0_0 l0_1 l1 b1 kq i list gone = some (r1, r2, r3)) ∧ Aside0 (FEnv w w' tb g0 gq m v11 list gone))
    case atStart => exact ⟨0, [], _, rfl, ⟨by simp⟩, ⟨H0.out⟩, FE⟩
    case round =>
      clear H0 FE ht_0 hp_1 hp_2 hq_0
      obtain ⟨i, list, gone, rfl, HI, HH, FE⟩ := hrel
      have ht_0 : wr.cell? ⟨tb, 0, none⟩ = some (.pointer (some ⟨g0, 0, none⟩)) := (blk_cell FE.out.tB 0).trans rfl
      have hp_1 := drop_cell HX1.out FE.out.hB
      have hp_2 := drop_cell HX2.out FE.out.hB
      have hq_0 : wr.cell? ⟨gq, 0, none⟩ = some (.map (some m)) := (blk_cell FE.out.qB 0).trans rfl
      cases gk with
      | zero =>
        have hi := HI.out
        have c4b : decide ((i : Int) < (l0_1.length : Int)) = false := decide_eq_false (by omega)
        have c4b2 : decide (i < l0_1.length) = false := decide_eq_false (by omega)
        have hh := HH.out
        simp only [firstL, Option.some.injEq, Prod.mk.injEq] at hh
        obtain ⟨rfl, rfl, rfl⟩ := hh
        clear hi
        go_wp2
        go_ret3
        exact ⟨_, by first | rfl | (simp; done), FE.out.hL, FE.out.hB⟩
      | succ k1 =>
        have hi0 : (0 : Int) ≤ (i : Int) := Int.natCast_nonneg _
        have hi1 : (i : Int) < (l0_1.length : Int) := by have := HI.out; omega
        have c4b : decide ((i : Int) < (l0_1.length : Int)) = true := decide_eq_true hi1
        have c4b2 : decide (i < l0_1.length) = true := decide_eq_true (by omega)
        have hi2 : i < l0_1.length := by omega
        have hh := HH.out
        unfold firstL at hh
        obtain ⟨ad, e, hx_0, hx_1, hx_2⟩ := at_T30 HR0.out (i : Int) hi0 hi1
        cases e
        obtain ⟨tk, htk⟩ : ∃ tk, (rd_T30 l0_1 (i : Int)).f1 = tk := ⟨_, rfl⟩
        rw [htk] at hx_1 hh
        simp only [Int.toNat_natCast] at hx_1
        clear htk hx_0 hx_2 HH
        replace hx_1 := drop_cell hx_1 FE.out.hB
        replace hi0 := eq_true hi0
        replace hi1 := eq_true hi1
        replace hi2 := eq_true hi2
        obtain ⟨sk, hsk, hh⟩ := Option.bind_eq_some_iff.1 hh
        have HSK := Aside0.mk hsk
        have HH := Aside0.mk hh
        clear hsk hh
        go_upto_region 11 with (fail)
        (try simp only [Act.put, List.setIfInBounds_toArray, List.set_cons_zero, List.set_cons_succ])
        obtain ⟨gt, hgt⟩ : ∃ gt, wr.heap.size = gt := ⟨_, rfl⟩
        rw [hgt]
        obtain ⟨wq1, hwq⟩ : ∃ wq, wr.alloc (.cells #[.int .i64 tk] 3) = wq := ⟨_, rfl⟩
        rw [hwq]
        have n0_ : Below wr.heap.size wr wq1 := hwq ▸ below_alloc (Below.refl _ _) _
        have TK := Aside0.mk (hgt ▸ hwq ▸ heap_alloc_new wr _ : wq1.heap[gt]? = some (.cells #[.int .i64 tk] 3 (0, 0)))
        have GTK := Aside0.mk (hgt ▸ FE.out.hB.size : w.heap.size ≤ gt)
        have n1_ := Aside0.mk (FE.out.below n0_)
        clear FE ht_0 hp_1 hp_2 hq_0 hx_1 n0_ hgt hwq
        have FE := n1_
        clear n1_
        have ht_0 : wq1.cell? ⟨tb, 0, none⟩ = some (.pointer (some ⟨g0, 0, none⟩)) := (blk_cell FE.out.tB 0).trans rfl
        have hp_1 := drop_cell HX1.out FE.out.hB
        have hp_2 := drop_cell HX2.out FE.out.hB
        have hq_0 : wq1.cell? ⟨gq, 0, none⟩ = some (.map (some m)) := (blk_cell FE.out.qB 0).trans rfl
        have hk_0 : wq1.cell? ⟨gt, 0, none⟩ = some (.int .i64 tk) := (blk_cell TK.out 0).trans rfl
        obtain ⟨Al, cl, hvl⟩ := Kd.R_slice FE.out.hL
        subst hvl
        by_cases t0 : tk = 0
        · have hsk := HSK.out
          rw [if_pos t0] at hsk
          obtain rfl := Option.some.inj hsk
          have hh := HH.out
          simp only [if_true] at hh
          clear HH hsk
          have HH := Aside0.mk hh
          clear hh
          have s0 : (tk == 0) = true := beq_iff_eq.mpr t0
          have s0b : decide (tk = 0) = true := decide_eq_true t0
          clear t0
          go_wp2_with (first | (at_mapUpdate; refine update_event FE.out.hM Try.underlying92 Try.underlying3 rfl _ _ _ rfl (i := (i : Int)) rfl rfl rfl ?_; intro w6 hm6 hg6; have n0_ := Aside0.mk (FE.out.upd hm6 hg6); clear FE ht_0 hp_1 hp_2 hq_0 hk_0 hm6 hg6; have FE := n0_; clear n0_))
          go_roundg k1
          case measure => omega
          case rel => exact ⟨i + 1, list, _, val_succ2 i (by have := HI.out; have := HLEN.out; omega), ⟨by have := HI.out; omega⟩, ⟨HH.out⟩, FE⟩
        have hsk := HSK.out
        rw [if_neg t0] at hsk
        have HSK2 := Aside0.mk hsk
        have s0 : (tk == 0) = false := beq_eq_false_iff_ne.mpr t0
        have s0b : decide (tk = 0) = false := decide_eq_false t0
        clear t0 hsk HSK
        cases sk with
        | true =>
          have hh := HH.out
          simp only [if_true] at hh
          clear HH
          have HH := Aside0.mk hh
          clear hh
          go_wp2_with (first | (go_at_call 70; (refine (slices_ContainsFunc_int_int.calls k Al cl list _ (fun j => branch_town_first_2.f j a0_0 l0_1 tk) _ _ (Kd.R_reads' FE.out.hL).2.2 (Kd.R_reads' FE.out.hL).2.1 (first2_fn FE.out.tB (blk_below HP0.out FE.out.hB) (Kd.C_below HR0.out FE.out.hB) HC0.out TK.out) HSK2.out).mono ?_); rintro e w5 ⟨rfl, hb⟩; have n0_ := Aside0.mk (FE.out.below hb); have n1_ := Aside0.mk (blk_below TK.out hb); clear FE TK hb; have FE := n0_; have TK := n1_; clear n0_ n1_; clear ht_0 hp_1 hp_2 hq_0 hk_0; have ht_0 : w5.cell? ⟨tb, 0, none⟩ = some (.pointer (some ⟨g0, 0, none⟩)) := (blk_cell FE.out.tB 0).trans rfl; have hp_1 := drop_cell HX1.out FE.out.hB; have hp_2 := drop_cell HX2.out FE.out.hB; have hq_0 : w5.cell? ⟨gq, 0, none⟩ = some (.map (some m)) := (blk_cell FE.out.qB 0).trans rfl; have hk_0 : w5.cell? ⟨gt, 0, none⟩ = some (.int .i64 tk) := (blk_cell TK.out 0).trans rfl) | (at_mapUpdate; refine update_event FE.out.hM Try.underlying92 Try.underlying3 rfl _ _ _ rfl (i := (i : Int)) rfl rfl rfl ?_; intro w6 hm6 hg6; have n0_ := Aside0.mk (FE.out.upd hm6 hg6); clear FE ht_0 hp_1 hp_2 hq_0 hk_0 hm6 hg6; have FE := n0_; clear n0_))
          go_roundg k1
          case measure => omega
          case rel => exact ⟨i + 1, list, _, val_succ2 i (by have := HI.out; have := HLEN.out; omega), ⟨by have := HI.out; omega⟩, ⟨HH.out⟩, FE⟩
        | false =>
          have hh := HH.out
          simp only [Bool.false_eq_true, if_false] at hh
          obtain ⟨⟨d1, d2, d3⟩, hdt, hh⟩ := Option.bind_eq_some_iff.1 hh
          have HDT := Aside0.mk hdt
          have HH2 := Aside0.mk hh
          clear HH hdt hh
          go_upto_region 14 with (first | (go_at_call 70; (refine (slices_ContainsFunc_int_int.calls k Al cl list _ (fun j => branch_town_first_2.f j a0_0 l0_1 tk) _ _ (Kd.R_reads' FE.out.hL).2.2 (Kd.R_reads' FE.out.hL).2.1 (first2_fn FE.out.tB (blk_below HP0.out FE.out.hB) (Kd.C_below HR0.out FE.out.hB) HC0.out TK.out) HSK2.out).mono ?_); rintro e w5 ⟨rfl, hb⟩; have n0_ := Aside0.mk (FE.out.below hb); have n1_ := Aside0.mk (blk_below TK.out hb); clear FE TK hb; have FE := n0_; have TK := n1_; clear n0_ n1_; clear ht_0 hp_1 hp_2 hq_0 hk_0; have ht_0 : w5.cell? ⟨tb, 0, none⟩ = some (.pointer (some ⟨g0, 0, none⟩)) := (blk_cell FE.out.tB 0).trans rfl; have hp_1 := drop_cell HX1.out FE.out.hB; have hp_2 := drop_cell HX2.out FE.out.hB; have hq_0 : w5.cell? ⟨gq, 0, none⟩ = some (.map (some m)) := (blk_cell FE.out.qB 0).trans rfl; have hk_0 : w5.cell? ⟨gt, 0, none⟩ = some (.int .i64 tk) := (blk_cell TK.out 0).trans rfl) | ((with_reducible refine gate_dst (N := 58) rfl ?_); refine map_event ?hg (N := 58) ?hd ?hr ?_; (case hd => rfl); (case hg => rfl); (case hr => rfl); intro m2 hm w7 hmap hb; have HM2 := Aside0.mk (SetM.new hmap); have n0_ := Aside0.mk (FE.out.below hb); have n1_ := Aside0.mk (blk_below TK.out hb); have GM2 := Aside0.mk ((by rw [hm]; exact FE.out.hB.size) : w.heap.size ≤ m2); have NM := Aside0.mk ((by have := FE.out.hM.lt; rw [hm]; omega) : m ≠ m2); clear FE TK; have FE := n0_; have TK := n1_; clear n0_ n1_ hm hmap hb; clear ht_0 hp_1 hp_2 hq_0 hk_0; have ht_0 : w7.cell? ⟨tb, 0, none⟩ = some (.pointer (some ⟨g0, 0, none⟩)) := (blk_cell FE.out.tB 0).trans rfl; have hp_1 := drop_cell HX1.out FE.out.hB; have hp_2 := drop_cell HX2.out FE.out.hB; have hq_0 : w7.cell? ⟨gq, 0, none⟩ = some (.map (some m)) := (blk_cell FE.out.qB 0).trans rfl; have hk_0 : w7.cell? ⟨gt, 0, none⟩ = some (.int .i64 tk) := (blk_cell TK.out 0).trans rfl))
          obtain ⟨g2, hg2⟩ : ∃ g2, w7.heap.size = g2 := ⟨_, rfl⟩
          rw [hg2]
          obtain ⟨wq2, hwq⟩ : ∃ wq, w7.alloc (.cells #[.map (some m2)] 92) = wq := ⟨_, rfl⟩
          rw [hwq]
          have n0_ : Below w7.heap.size w7 wq2 := hwq ▸ below_alloc (Below.refl _ _) _
          have MB := Aside0.mk (hg2 ▸ hwq ▸ heap_alloc_new w7 _ : wq2.heap[g2]? = some (.cells #[.map (some m2)] 92 (0, 0)))
          have n1_ := Aside0.mk (FE.out.below n0_)
          have n2_ := Aside0.mk (blk_below TK.out n0_)
          have n3_ := Aside0.mk (HM2.out.below n0_)
          clear FE TK HM2 ht_0 hp_1 hp_2 hq_0 hk_0 n0_ hg2 hwq
          have FE := n1_; have TK := n2_; have HM2 := n3_
          clear n1_ n2_ n3_
          have ht_0 : wq2.cell? ⟨tb, 0, none⟩ = some (.pointer (some ⟨g0, 0, none⟩)) := (blk_cell FE.out.tB 0).trans rfl
          have hp_1 := drop_cell HX1.out FE.out.hB
          have hp_2 := drop_cell HX2.out FE.out.hB
          have hq_0 : wq2.cell? ⟨gq, 0, none⟩ = some (.map (some m)) := (blk_cell FE.out.qB 0).trans rfl
          have hk_0 : wq2.cell? ⟨gt, 0, none⟩ = some (.int .i64 tk) := (blk_cell TK.out 0).trans rfl
          have hm3 : ∀ w, (zeroValue 28).run Try.prog w = .ok (.slice none 0 0) w := fun w => by first | rfl | (go_simp; done)
          obtain ⟨vt, hlook, hRt, _, _⟩ := GrpM.lookup HG.out Try.underlying68 Try.underlying3 tk hm3
          obtain ⟨At, ct, hvt⟩ := Kd.R_slice hRt
          subst hvt
          have HRT := Aside0.mk (Kd.R_reads' hRt).2.2
          have hlk : (Instr.lookup 68 (.map (some mm)) (.int .i64 tk) false).run Try.prog wq2.drew = .ok (.slice At (toB l0_1 l0_1.length tk).length ct) wq2.drew := hlook _ (FE.out.hB.block mm HG.out.lt)
          obtain ⟨T, hT⟩ : ∃ T, toB l0_1 l0_1.length tk = T := ⟨_, rfl⟩
          have HTL := Aside0.mk (show T.length ≤ l0_1.length by rw [← hT]; exact toB_len _ _ _)
          rw [hT] at HRT hlk HH2 HDT
          clear hT hRt hlook hm3
          go_wp2_with fail
          go_region_held3 (fun w' => w'.cell? ⟨tb, 0, none⟩ = some (.pointer (some ⟨g0, 0, none⟩)) ∧ w'.cell? ⟨g0, 2, none⟩ = some (.map (some mm)) ∧ w'.cell? ⟨gt, 0, none⟩ = some (.int .i64 tk)) (go_keep) (fail)
          obtain ⟨wq3, hwq⟩ : ∃ wq, wq2.drew = wq := ⟨_, rfl⟩
          rw [hwq]
          have n0_ : Below wq2.heap.size wq2 wq3 := hwq ▸ below_drew1 (Below.refl _ _)
          have n1_ := Aside0.mk (FE.out.below n0_)
          have n2_ := Aside0.mk (blk_below TK.out n0_)
          have n3_ := Aside0.mk (HM2.out.below n0_)
          have n4_ := Aside0.mk (blk_below MB.out n0_)
          clear FE TK HM2 MB ht_0 hp_1 hp_2 hq_0 hk_0 n0_ hwq hlk
          have FE := n1_; have TK := n2_; have HM2 := n3_; have MB := n4_
          clear n1_ n2_ n3_ n4_
          go_wp2
          go_loopg [66] T.length (fun kq v66 w' => ∃ q : Nat, v66 = .int .i64 (q : Int) ∧ Aside0 (q + kq = T.length) ∧ Aside0 (FEnv w w' tb g0 gq m (.slice Al list.length cl) list gone) ∧ Aside0 (w'.heap[gt]? = some (.cells #[.int .i64 tk] 3 (0, 0))) ∧ Aside0 (w'.heap[g2]? = some (.cells #[.map (some m2)] 92 (0, 0))) ∧ Aside0 (SetM w' m2 (moreL (i : Int) (T.take q))))
          case atStart => exact ⟨0, rfl, ⟨by simp⟩, FE, TK, MB, ⟨by rw [List.take_zero, moreL_nil]; exact HM2.out⟩⟩
          case round =>
            clear FE TK MB HM2
            obtain ⟨q, rfl, HQ, FE, TK, MB, HM2⟩ := hrel
            have ht_0 : wr.cell? ⟨tb, 0, none⟩ = some (.pointer (some ⟨g0, 0, none⟩)) := (blk_cell FE.out.tB 0).trans rfl
            have hp_1 := drop_cell HX1.out FE.out.hB
            have hp_2 := drop_cell HX2.out FE.out.hB
            have hq_0 : wr.cell? ⟨gq, 0, none⟩ = some (.map (some m)) := (blk_cell FE.out.qB 0).trans rfl
            have hm_0 : wr.cell? ⟨g2, 0, none⟩ = some (.map (some m2)) := (blk_cell MB.out 0).trans rfl
            cases gk with
            | zero =>
              have hq := HQ.out
              have d4b : decide ((q : Int) < (T.length : Int)) = false := decide_eq_false (by omega)
              have d4b2 : decide (q < T.length) = false := decide_eq_false (by omega)
              have hM2 := HM2.out
              rw [List.take_of_length_le (by omega)] at hM2
              clear HM2 hq
              have HM2 := Aside0.mk hM2
              clear hM2
              cases d3 with
              | false =>
                have hh := HH2.out
                simp only [Bool.false_and, Bool.false_eq_true, if_false] at hh
                clear HH2
                have HH := Aside0.mk hh
                clear hh
                go_wp2_with (first | (go_at_call 46; (refine (branch_town_cheapest.calls k g0 a0_0 _ c0_1 l0_1 (some mm) A1 c1 l1 _ (fun j => some (gone j || moreL (i : Int) T j)) d1 d2 _ _ (blk_below HP0.out FE.out.hB) (Kd.C_below HR0.out FE.out.hB) HC0.out (Kd.C_below HR1.out FE.out.hB) HC1.out (first3_fn FE.out.qB MB.out FE.out.hM HM2.out) HDT.out).mono ?_); rintro e w9 ⟨ve, rfl, ho, hb⟩; have n0_ := Aside0.mk (FE.out.below hb); have n1_ := Aside0.mk (blk_below MB.out hb); have n2_ := Aside0.mk (HM2.out.below hb); clear FE MB HM2 ho hb ht_0 hp_1 hp_2 hq_0 hm_0; have FE := n0_; have MB := n1_; have HM2 := n2_; clear n0_ n1_ n2_; have hq_0 : w9.cell? ⟨gq, 0, none⟩ = some (.map (some m)) := (blk_cell FE.out.qB 0).trans rfl; have hm_0 : w9.cell? ⟨g2, 0, none⟩ = some (.map (some m2)) := (blk_cell MB.out 0).trans rfl) | (at_mapUpdate; refine update_event FE.out.hM Try.underlying92 Try.underlying3 rfl _ _ _ rfl (i := (i : Int)) rfl rfl rfl ?_; intro w6 hm6 hg6; have n0_ := Aside0.mk (FE.out.upd hm6 hg6); clear FE hq_0 hm_0 hm6 hg6; have FE := n0_; clear n0_))
                go_roundg k1
                case measure => omega
                case rel => exact ⟨i + 1, list, _, val_succ2 i (by have := HI.out; have := HLEN.out; omega), ⟨by have := HI.out; omega⟩, ⟨HH.out⟩, FE⟩
              | true =>
                by_cases t5 : d1 = b1
                case neg =>
                  have s5 : (d1 == b1) = false := beq_eq_false_iff_ne.mpr t5
                  have s5b : decide (d1 = b1) = false := decide_eq_false t5
                  clear t5
                  have hh := HH2.out
                  simp only [s5, Bool.and_false, Bool.false_eq_true, if_false] at hh
                  clear HH2
                  have HH := Aside0.mk hh
                  clear hh
                  go_wp2_with (first | (go_at_call 46; (refine (branch_town_cheapest.calls k g0 a0_0 _ c0_1 l0_1 (some mm) A1 c1 l1 _ (fun j => some (gone j || moreL (i : Int) T j)) d1 d2 _ _ (blk_below HP0.out FE.out.hB) (Kd.C_below HR0.out FE.out.hB) HC0.out (Kd.C_below HR1.out FE.out.hB) HC1.out (first3_fn FE.out.qB MB.out FE.out.hM HM2.out) HDT.out).mono ?_); rintro e w9 ⟨ve, rfl, ho, hb⟩; have n0_ := Aside0.mk (FE.out.below hb); have n1_ := Aside0.mk (blk_below MB.out hb); have n2_ := Aside0.mk (HM2.out.below hb); clear FE MB HM2 ho hb ht_0 hp_1 hp_2 hq_0 hm_0; have FE := n0_; have MB := n1_; have HM2 := n2_; clear n0_ n1_ n2_; have hq_0 : w9.cell? ⟨gq, 0, none⟩ = some (.map (some m)) := (blk_cell FE.out.qB 0).trans rfl; have hm_0 : w9.cell? ⟨g2, 0, none⟩ = some (.map (some m2)) := (blk_cell MB.out 0).trans rfl) | (at_mapUpdate; refine update_event FE.out.hM Try.underlying92 Try.underlying3 rfl _ _ _ rfl (i := (i : Int)) rfl rfl rfl ?_; intro w6 hm6 hg6; have n0_ := Aside0.mk (FE.out.upd hm6 hg6); clear FE hq_0 hm_0 hm6 hg6; have FE := n0_; clear n0_))
                  go_roundg k1
                  case measure => omega
                  case rel => exact ⟨i + 1, list, _, val_succ2 i (by have := HI.out; have := HLEN.out; omega), ⟨by have := HI.out; omega⟩, ⟨HH.out⟩, FE⟩
                have s5 : (d1 == b1) = true := beq_iff_eq.mpr t5
                have s5b : decide (d1 = b1) = true := decide_eq_true t5
                clear t5
                have hh := HH2.out
                simp only [s5, Bool.and_true, if_true] at hh
                by_cases hll : list.length < 1000000
                case neg => rw [if_neg hll] at hh; exact absurd hh (by simp)
                rw [if_pos hll] at hh
                have HLL := Aside0.mk hll
                clear HH2 hll
                have HH := Aside0.mk hh
                clear hh
                go_wp2_with (first | (go_at_call 46; (refine (branch_town_cheapest.calls k g0 a0_0 _ c0_1 l0_1 (some mm) A1 c1 l1 _ (fun j => some (gone j || moreL (i : Int) T j)) d1 d2 _ _ (blk_below HP0.out FE.out.hB) (Kd.C_below HR0.out FE.out.hB) HC0.out (Kd.C_below HR1.out FE.out.hB) HC1.out (first3_fn FE.out.qB MB.out FE.out.hM HM2.out) HDT.out).mono ?_); rintro e w9 ⟨ve, rfl, ho, hb⟩; have n0_ := Aside0.mk (FE.out.below hb); have n1_ := Aside0.mk (blk_below MB.out hb); have n2_ := Aside0.mk (HM2.out.below hb); clear FE MB HM2 ho hb ht_0 hp_1 hp_2 hq_0 hm_0; have FE := n0_; have MB := n1_; have HM2 := n2_; clear n0_ n1_ n2_; have hq_0 : w9.cell? ⟨gq, 0, none⟩ = some (.map (some m)) := (blk_cell FE.out.qB 0).trans rfl; have hm_0 : w9.cell? ⟨g2, 0, none⟩ = some (.map (some m2)) := (blk_cell MB.out 0).trans rfl) | ((with_reducible refine gate_builtin (b := .append) (xs := #[.tmp 90, .tmp 92]) rfl ?_); at_builtin; refine Kd.R_append (Kd.int .i64) (w0 := w) w.heap.size rfl (.tmp 90) (.tmp 92) 28 3 (.int .i64 0) 8 rfl Try.underlying28 info3 rfl (by decide) (by omega) (.slice Al list.length cl) list (i : Int) [.int .i64 (i : Int)] (fun _ => True) (fun _ => False) rfl (by first | (go_simp; done) | (go_simp; rfl)) ?aP (fun _ hk => hk.elim) ?aF ?aO ?aB ?aS ?aL ?_; (case aP => exact rfl); (case aB => exact (by repeat (first | exact FE.out.hB | apply below_alloc | apply below_drew1))); (case aF => exact (fun _ _ => trivial)); (case aO => exact (by (with_reducible repeat (first | apply Kd.R_alloc | apply Kd.R_drewN | apply Kd.R_drew)); exact FE.out.hL)); (case aS => exact (below_size (by repeat (first | exact FE.out.hB | apply below_alloc | apply below_drew1)))); (case aL => have := HLL.out; omega); intro v2 w10 ho hb hg hat; have hg2 : w9.grownBy w10 (Value.slice Al list.length cl).ownBlock := (by first | exact hg | exact grown_then (below_alloc (Below.refl _ _) _) hg); have n1_ := Aside0.mk (blk_grown MB.out hg2 (Kd.R_ne FE.out.hL MB.out (by decide))); have n2_ := Aside0.mk (HM2.out.row FE.out.hL hg2); have n0_ := Aside0.mk (FE.out.app hb hg2 ho); clear FE MB HM2 ho hb hg hat hg2 hq_0 hm_0; have FE := n0_; have MB := n1_; have HM2 := n2_; clear n0_ n1_ n2_; have hq_0 : w10.cell? ⟨gq, 0, none⟩ = some (.map (some m)) := (blk_cell FE.out.qB 0).trans rfl; have hm_0 : w10.cell? ⟨g2, 0, none⟩ = some (.map (some m2)) := (blk_cell MB.out 0).trans rfl) | (at_range; refine range_event HM2.out Try.underlying92 rfl _ rfl rfl ?_; intro r w11 cnt hr hI hb; have n0_ := Aside0.mk (FE.out.below hb); have GR := Aside0.mk (Nat.le_trans FE.out.hB.size hr); have HI3 := Aside0.mk hI; clear FE MB HM2 hr hI hb hq_0 hm_0; have FE := n0_; clear n0_))
                obtain ⟨Tm, hTm⟩ : ∃ Tm, moreL (i : Int) T = Tm := ⟨_, rfl⟩
                rw [hTm] at HI3 HH
                clear hTm HDT
                go_frame
                go_loopg [21] cnt (fun kq v21 w' => ∃ dn gd : Int → Bool, Aside0 (∀ j, gd j = (gone j || dn j)) ∧ Aside0 (IterM w' m2 r Tm dn kq) ∧ Aside0 (FEnv w w' tb g0 gq m v2 (list ++ [(i : Int)]) gd))
                case atStart => exact ⟨fun _ => false, gone, ⟨fun j => by simp⟩, HI3, FE⟩
                case round =>
                  clear FE HI3
                  obtain ⟨dn, gd, HD, HI3, FE⟩ := hrel
                  go_wp2_with (first | (at_next; refine next_event HI3.out rfl _ rfl rfl ?_ ?_; rotate_left; (intro y w12 cnt1 hgx hdx hI2 hlt hg hen; have n0_ := Aside0.mk (FE.out.iter HI3.out GR.out hg); clear FE HI3; have FE := n0_; have HI3 := Aside0.mk hI2; have HLT := Aside0.mk hlt; clear n0_ hI2 hg hgx hdx hlt; have hq_0 : w12.cell? ⟨gq, 0, none⟩ = some (.map (some m)) := (blk_cell FE.out.qB 0).trans rfl); rotate_left; (intro h0 hd; have HDD := Aside0.mk hd; clear h0 hd)) | (at_mapUpdate; refine update_event FE.out.hM Try.underlying92 Try.underlying3 rfl _ _ _ rfl (i := y) rfl rfl rfl ?_; intro w13 hm13 hg13; have n0_ := Aside0.mk (FE.out.upd hm13 hg13); have n1_ := Aside0.mk (HI3.out.turn hg13 (fun h => NM.out h.symm) (HI3.out.ne_map FE.out.hM)); clear FE HI3 hq_0 hen hm13 hg13; have FE := n0_; have HI3 := n1_; clear n0_ n1_))
                  · go_roundg k1
                    case measure => omega
                    case rel => exact ⟨i + 1, list ++ [(i : Int)], gd, val_succ2 i (by have := HI.out; have := HLEN.out; omega), ⟨by have := HI.out; omega⟩, ⟨by have hh := HH.out; have e : (fun j => gone j || Tm j) = gd := funext (fun j => by rw [HD.out j, HDD.out j]); rw [← e]; exact hh⟩, FE⟩
                  · go_roundg cnt1
                    case measure => exact HLT.out
                    case rel => exact ⟨fun j => decide (j = y) || dn j, fun j => decide (j = y) || gd j, ⟨fun j => by simp only [HD.out j]; cases decide (j = y) <;> cases gone j <;> cases dn j <;> rfl⟩, HI3, FE⟩
            | succ k2 =>
              have hj0 : (0 : Int) ≤ (q : Int) := Int.natCast_nonneg _
              have hj1 : (q : Int) < (T.length : Int) := by have := HQ.out; omega
              have d4b : decide ((q : Int) < (T.length : Int)) = true := decide_eq_true hj1
              have hj2 : q < T.length := by omega
              have d4b2 : decide (q < T.length) = true := decide_eq_true hj2
              obtain ⟨ade, e, hy_0⟩ := Kd.at_int HRT.out (q : Int) hj0 hj1
              cases e
              have hts := take_rdI T q hj2
              obtain ⟨y, hy⟩ : ∃ y, rd T (q : Int) = y := ⟨_, rfl⟩
              rw [hy] at hy_0 hts
              simp only [Int.toNat_natCast] at hy_0
              replace hy_0 := drop_cell hy_0 FE.out.hB
              have HTS := Aside0.mk hts
              clear hy hts
              replace hj0 := eq_true hj0
              replace hj1 := eq_true hj1
              replace hj2 := eq_true hj2
              by_cases t6 : y = (i : Int)
              · have s6 : (y == (i : Int)) = true := beq_iff_eq.mpr t6
                have s6b : (y != (i : Int)) = false := bne_eq_false_iff_eq.mpr t6
                have s6c : decide (y = (i : Int)) = true := decide_eq_true t6
                have T6 := Aside0.mk t6
                clear t6
                go_wp2
                go_roundg k2
                case measure => omega
                case rel => exact ⟨q + 1, val_succ2 q (by have := HQ.out; have := HTL.out; have := HLEN.out; omega), ⟨by have := HQ.out; omega⟩, FE, TK, MB, ⟨by rw [HTS.out, T6.out, moreL_snoc_eq]; exact HM2.out⟩⟩
              · have s6 : (y == (i : Int)) = false := beq_eq_false_iff_ne.mpr t6
                have s6b : (y != (i : Int)) = true := bne_iff_ne.mpr t6
                have s6c : decide (y = (i : Int)) = false := decide_eq_false t6
                have T6 := Aside0.mk t6
                clear t6
                go_wp2_with (first | (at_mapUpdate; refine update_event HM2.out Try.underlying92 Try.underlying3 rfl _ _ _ rfl (i := y) rfl rfl rfl ?_; intro w6 hm6 hg6; have n0_ := Aside0.mk (FE.out.other HM2.out NM.out GM2.out hg6); have n1_ := Aside0.mk (blk_grown TK.out hg6 (by have := HM2.out.ne_cells TK.out; intro h; injection h with h; exact this h.symm)); have n2_ := Aside0.mk (blk_grown MB.out hg6 (by have := HM2.out.ne_cells MB.out; intro h; injection h with h; exact this h.symm)); clear FE TK MB HM2 ht_0 hp_1 hp_2 hq_0 hm_0 hy_0 hg6; have FE := n0_; have TK := n1_; have MB := n2_; have HM2 := Aside0.mk hm6; clear n0_ n1_ n2_ hm6))
                go_roundg k2
                case measure => omega
                case rel => exact ⟨q + 1, val_succ2 q (by have := HQ.out; have := HTL.out; have := HLEN.out; omega), ⟨by have := HQ.out; omega⟩, FE, TK, MB, ⟨by rw [HTS.out, moreL_snoc_ne _ _ _ T6.out]; exact HM2.out⟩⟩
end Go.Proofs.Ytpmadffgdfholaa.B
