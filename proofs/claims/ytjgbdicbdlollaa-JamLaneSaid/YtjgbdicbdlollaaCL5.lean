/- Texts behind the row of JamLane, part 5: contracts of the functions it reaches, words that their walks use, and lemmas in plain Lean. -/
import Derived.Below
import Derived.Deep.Draws
import Derived.Deep.AppendLies
import Derived.Maps.AppendAt
import Derived.OwnWalk
import Derived.Laws.BytesArg
import Derived.Laws.MakeOwn
import Derived.Laws.OwnMore
import Derived.Deep.OwnRows
import Derived.Tactics
import Derived.Lib.ConvBytes
import Derived.Laws.Slices
import Derived.WalkKit
import Derived.KernelRfl
import Derived.RowKit3
import Derived.Deep.LoopGhost
import Derived.Deep.QuietTactic
import Derived.BigQuiet
import Derived.WideLaws
import Derived.Deep.DeepCutAuto
import Derived.Deep.CutBlock
import Derived.Deep.RegionHeld3
import Derived.Laws.Rows
import Derived.Lib.AppendStr
import Derived.ArgAppend
import Derived.Laws.IdiomCopy
import Derived.RowKit
import Derived.OrdersHeld
import Derived.Laws.BitsLemmas
import Derived.Laws.StructEq
import Derived.Test.YtjgbdicbdlollaaProg
import Derived.WalkSpells
import Derived.MapKept
import Derived.Maps.RangeWalk
import Derived.Shelf.SlSortCmp.SmallK
import Derived.Ground.SlsfProg
import Derived.Test.YtjgbdicbdlollaaCL1
import Derived.Test.YtjgbdicbdlollaaCL2
import Derived.Test.YtjgbdicbdlollaaCL3
import Derived.Test.YtjgbdicbdlollaaCL4
namespace Go.Proofs.Ytjgbdicbdlollaa.B
open Go.RowKit Go.Proofs.YtjgbdicbdlollaaW.PrintWords Go.Proofs.YtjgbdicbdlollaaW.PrintLast Go.Proofs.YtjgbdicbdlollaaW.PrintMore
set_option linter.unusedVariables false
set_option linter.unusedSimpArgs false
section
variable {P : Program} {ops : Array Oper} {Q : Exit → Act → World → Prop}
/-- A call through an interface, the value within known. -/
theorem goesI_ {oi : Oper} {N : Option Tmp} {a : Act} {w : World} {K : Act → World → Prop} {f : FuncId} {fn : Func} {x : Operand} {nm : String} {ys : Array Operand} {ts : Array TypeId} {t : TypeId} {rv : Value} (hf : P.funcs[f]? = some fn) (hname : (fn.name == "runtime.NumGoroutine") = false) (hb : fn.body.isSome = true) (args : Array Value)
    (hw : Region.wanted oi (yielded ops a.tmps) = true) (hN : oi.dst = N) (hop : oi.op = .call { callee := .invoke x nm, args := ys, argTypes := ts }) (hx : a.eval x = .iface t rv) (hargs : ys.map a.eval = args) (hm : (method (P.types.size + Made.depth) t rv nm).run P w = .ok (f, rv) w)
    (h : Calls P f (#[rv] ++ args) w fun e w' => ∃ v, e = .returned v ∧ K (a.put N v) w') : if Region.wanted oi (yielded ops a.tmps) = true then Oper.wp P oi a w K Q else K (a.put N undef) w := by
  refine call_ f (#[rv] ++ args) hw hN ?_ h
  have he := enters_ hf hname hb (#[rv] ++ args) w
  have hs : (#[Value.iface t rv] ++ args).extract 1 (#[Value.iface t rv] ++ args).size = args := by
    apply Array.ext'
    simp
  have h0 : (#[Value.iface t rv] ++ args)[0]? = some (Value.iface t rv) := by rw [Array.getElem?_append_left (by simp)]; rfl
  unfold execOp
  simp [hop, resolve, invoke, callMethod, hx, hargs, hm, he, hs, h0]
end
theorem at_lane {W : World} {A : Option Addr} {n : Nat} {l : List S36} {den : Int} (h : Kd.C (Kd.raw 1) W A n (l.map (laneV den))) (i : Nat) (hi : i < n) : ∃ ad, A = some ad ∧ W.cell? (ad.add i) = some (.iface 123 (.agg #[.int .i64 (rdT_ l (i : Int)).f0, .int .i64 (rdT_ l (i : Int)).f1, .int .i64 den])) := by
  obtain ⟨ad, e, hc⟩ := h.2.2 (by omega)
  have hl : i < l.length := by have := h.1; simp at this; omega
  obtain ⟨c, hs, hr, hcell⟩ := hc i (laneV den l[i]) (by simp [hl])
  obtain ⟨rfl, _⟩ := hr
  refine ⟨ad, e, ?_⟩
  have := hcell 0 _ rfl
  rw [show rdT_ l (i : Int) = l[i] from by simp [rdT_, List.getD, List.getElem?_eq_getElem hl]]
  simpa [Kd.raw] using this
def delL (l : List S36) (nums : List Int) (den : Int) : Nat → Nat → Int → Option Int
  | 0, _, s => some s
  | m + 1, i, s => if i < nums.length then delL l nums den m (i + 1) (wrap64 (s + wrap64 (rd nums (i : Int) * laneCost (rdT_ l (i : Int)) den (rd nums (i : Int))))) else none
def jam_delay.f (k : Nat) (l0 : List S36) (l1_0 : List Int) (a1_1 : Int) : Option (Int × Int) :=
  if l0.length < 1000000 then (delL l0 l1_0 a1_1 l0.length 0 0).bind fun s => ratio_Of.f k s (wrap64 (a1_1 * a1_1)) else none
theorem jam_delay.mono : ∀ a0 a1 a2 k, LeO (jam_delay.f k a0 a1 a2) (jam_delay.f (k + 1) a0 a1 a2) := by
  intro a0 a1 a2 k
  unfold jam_delay.f
  exact LeO.ite (LeO.bind (LeO.refl _) fun s => ratio_Of.mono _ _ k) (LeO.refl _)
def delay.T5 : Bool × List (List Nat × List Nat) := (true, [([], []), ([], []), ([1], [1]), ([], []), ([2, 3], [2, 3]), ([4], [4]), ([], []), ([], []), ([7], [7]), ([], []), ([8, 9], [8, 9]), ([10], [10]), ([6], [6]), ([12], [12]), ([6, 12, 13], [6]), ([14, 11], [11, 14]), ([5, 15], [5, 15]), ([0, 16], [0, 16]), ([17, 15, 0, 1, 2, 3, 4, 5, 6, 7, 8, 9, 10, 11, 12, 13, 14, 15, 16, 17], [0, 17])])
def delay.B5 : List Nat := [0, 0, 2, 0, 14, 30, 0, 0, 128, 0, 896, 1920, 64, 4160, 64, 20416, 53246, 118783, 249855]
theorem delay.tab5 : rtab .any (opsOf Try.f52 5) = delay.T5 := by kernel_rfl
theorem delay.bits5 : waitsOk delay.T5.2 delay.B5 = true := by kernel_rfl
set_option maxHeartbeats 8000000 in
set_option maxRecDepth 100000 in
theorem jam_delay.calls (k : Nat) (A0 : Option Addr) (c0 : Nat) (l0 : List (S36)) (A1_0 : Option Addr) (c1_0 : Nat) (l1_0 : List Int) (a1_1 : Int) (r1 : Int) (r2 : Int) (w : World) (hr0 : Kd.C k36 w A0 l0.length l0) (hc0 : l0.length ≤ c0) (hr1_0 : Kd.C (Kd.int .i64) w A1_0 l1_0.length l1_0) (hc1_0 : l1_0.length ≤ c1_0) (h : jam_delay.f k l0 l1_0 a1_1 = some (r1, r2)) :
  Calls Try.prog 52 #[.slice A0 l0.length c0, .agg #[.slice A1_0 l1_0.length c1_0, .int .i64 a1_1]] w fun e w' => e = .returned (.agg #[.int .i64 r1, .int .i64 r2]) ∧ Below w.heap.size w w' := by
 have hu26 := Try.underlying26
 have hu28 := Try.underlying28
 have hmf : ∀ (fn : Fn) (first cap : Array Value) (w : World), (Instr.makeFunc fn first cap).run Try.prog w = .ok (.func fn first cap) w := fun _ _ _ _ => rfl
 have HR0 := Az0.mk hr0
 have HR1 := Az0.mk hr1_0
 have HB := Az0.mk (Below.refl w.heap.size w)
 unfold jam_delay.f at h
 split at h
 case isFalse => exact absurd h (by simp)
 rename_i hl
 obtain ⟨s, hs, h⟩ := Option.bind_eq_some_iff.1 h
 have HL := Az0.mk hl
 have H0 := Az0.mk hs
 have HOF := Az0.mk h
 clear hr0 hr1_0 hl hs h
 go_enter Try.func52, Try.ntmps52
 go_upto_region 1 with (first | ((with_reducible refine gD_ (N := 3) rfl ?_); refine bE_ ?hg (N := 3) ?hd (cs := #[.slice A1_0 l1_0.length c1_0, .int .i64 a1_1]) (t := 26) ?hr ?_; (case hd => rfl); (case hg => rfl); (case hr => first | (go_simp; done) | (go_simp; rfl)); intro gb hg w1 hbox hb; have BB := Az0.mk hbox; have GB := Az0.mk (show w.heap.size ≤ gb by rw [hg]; exact Nat.le_refl _); clear HB; have HB := Az0.mk hb; clear hg hbox hb))
 obtain ⟨g4, hg4⟩ : ∃ g4, w1.heap.size = g4 := ⟨_, rfl⟩
 rw [hg4]
 obtain ⟨wa, hwa⟩ : ∃ wa, w1.alloc (.cells #[.int .i64 0, .int .i64 0] 28) = wa := ⟨_, rfl⟩
 rw [hwa]
 have n0_ : Below w1.heap.size w1 wa := hwa ▸ baA_ (Below.refl _ _) _
 have B4 := Az0.mk (hg4 ▸ hwa ▸ heap_alloc_new w1 _ : wa.heap[g4]? = some (.cells #[.int .i64 0, .int .i64 0] 28 (0, 0)))
 have G4 := Az0.mk (show w.heap.size ≤ g4 by rw [← hg4]; exact HB.out.size)
 have n1_ := Az0.mk (bP_ HB.out n0_)
 have n2_ := Az0.mk (bB_ BB.out n0_)
 clear HB BB hwa hg4 n0_
 have HB := n1_; have BB := n2_
 clear n1_ n2_
 have hb_0 : wa.cell? ⟨gb, 0, none⟩ = some (.slice A1_0 l1_0.length c1_0) := (bkC BB.out 0).trans rfl
 have hb_1 : wa.cell? ⟨gb, 1, none⟩ = some (.int .i64 a1_1) := (bkC BB.out 1).trans rfl
 go_wp2_with (first | (go_at_call 74; (refine (places_calls A0 c0 l0 a1_1 _ (Kd.C_below HR0.out HB.out) HL.out).mono ?_); rintro e w3 ⟨v1, rfl, ho, hb⟩; obtain ⟨Ap, cp, hvp⟩ := Kd.R_slice ho; subst hvp; have HO := Az0.mk (Kd.R_lower ho (bZ_ HB.out)); have n0_ := Az0.mk (bP_ HB.out hb); have n1_ := Az0.mk (bB_ BB.out hb); have n2_ := Az0.mk (bB_ B4.out hb); clear HB BB B4 ho hb hb_0 hb_1; have HB := n0_; have BB := n1_; have B4 := n2_; clear n0_ n1_ n2_))
 go_loopg [5, 13] l0.length (fun kq v5 v13 w' => ∃ (i : Nat) (s1 : Int), v5 = .int .i64 s1 ∧ v13 = .int .i64 (i : Int) ∧ Az0 (i + kq = l0.length) ∧ Az0 (delL l0 l1_0 a1_1 kq i s1 = some s) ∧ Az0 (Kd.R (Kd.raw 1) 105 w' w.heap.size (fun _ => True) (.slice Ap (l0.map (laneV a1_1)).length cp) (l0.map (laneV a1_1))) ∧ Az0 (w'.heap[gb]? = some (.cells #[.slice A1_0 l1_0.length c1_0, .int .i64 a1_1] 26 (0, 0))) ∧ Az0 (w'.heap[g4]? = some (.cells #[.int .i64 0, .int .i64 0] 28 (0, 0))) ∧ Az0 (Below w.heap.size w w'))
 case atStart => exact ⟨0, 0, rfl, rfl, ⟨by simp⟩, H0, HO, BB, B4, HB⟩
 case round =>
  clear H0 HO BB B4 HB
  obtain ⟨i, s1, rfl, rfl, HI, HH, HO, BB, B4, HB⟩ := hrel
  have hb_0 : wr.cell? ⟨gb, 0, none⟩ = some (.slice A1_0 l1_0.length c1_0) := (bkC BB.out 0).trans rfl
  have hb_1 : wr.cell? ⟨gb, 1, none⟩ = some (.int .i64 a1_1) := (bkC BB.out 1).trans rfl
  have hlm : (l0.map (laneV a1_1)).length = l0.length := List.length_map ..
  cases gk with
  | zero =>
   have hi := HI.out
   have c4b : decide ((i : Int) < ((l0.map (laneV a1_1)).length : Int)) = false := decide_eq_false (by omega)
   have c4b2 : decide (i < l0.length) = false := decide_eq_false (by omega)
   have c4b3 : decide ((i : Int) < (l0.length : Int)) = false := decide_eq_false (by omega)
   have hh := HH.out
   simp only [delL, Option.some.injEq] at hh
   subst hh
   clear hi HH
   go_wp2_with (first | (go_at_call 81; (refine (ratio_Of.calls k s1 (wrap64 (a1_1 * a1_1)) r1 r2 _ HOF.out).mono ?_); rintro e w5 ⟨rfl, hb⟩; have n0_ := Az0.mk (bP_ HB.out hb); have n2_ := Az0.mk (bB_ B4.out hb); clear HB B4 hb hb_0 hb_1; have HB := n0_; have B4 := n2_; clear n0_ n2_; have hcz_0 : w5.cell? ⟨g4, 0, none⟩ = some (.int .i64 0) := (bkC B4.out 0).trans rfl; have hcz_1 : w5.cell? ⟨g4, 1, none⟩ = some (.int .i64 0) := (bkC B4.out 1).trans rfl; have hfz_0 := bF_ B4.out 0; have hfz_1 := bF_ B4.out 1))
   refine bodyPost_ret (results_cell_row rfl _ _ g4 28 #[.int .i64 r1, .int .i64 r2] (0, 0) _ rfl (by refine Ups.b ?_; refine blk_put (cs := #[.int .i64 r1, .int .i64 0]) ?_ 1 _ rfl; refine Ups.b ?_; refine blk_put (cs := #[.int .i64 0, .int .i64 0]) ?_ 0 _ rfl; refine Ups.b ?_; exact B4.out) Try.underlying28 rfl (by kernel_rfl)) rfl ?_
   exact ⟨by first | rfl | (simp; done), by repeat (first | (with_reducible first | exact HB.out | refine Up1.w ?_ | refine bS_ ?_ G4.out) | exact HB.out)⟩
  | succ k1 =>
   have hh := HH.out
   rw [delL] at hh
   split at hh
   case isFalse => exact absurd hh (by simp)
   rename_i hin
   have HH2 := Az0.mk hh
   clear HH hh
   have hi0 : (0 : Int) ≤ (i : Int) := Int.natCast_nonneg _
   have hi1 : (i : Int) < ((l0.map (laneV a1_1)).length : Int) := by have := HI.out; omega
   have hi5 : (i : Int) < (l0.length : Int) := by have := HI.out; omega
   have hi3 : (i : Int) < (l1_0.length : Int) := by omega
   have c4b : decide ((i : Int) < ((l0.map (laneV a1_1)).length : Int)) = true := decide_eq_true hi1
   have c4b2 : decide (i < l0.length) = true := decide_eq_true (by have := HI.out; omega)
   have c4b3 : decide ((i : Int) < (l0.length : Int)) = true := decide_eq_true hi5
   have hi2 : (i < l0.length) = True := eq_true (by have := HI.out; omega)
   have hi4 : (i < l1_0.length) = True := eq_true hin
   have HIL := Az0.mk (show i < l0.length by have := HI.out; omega)
   obtain ⟨ad, e, hp⟩ := at_lane (Kd.R_reads' HO.out).2.2 i (by have := HI.out; omega)
   cases e
   obtain ⟨ad2, e, hx⟩ := Kd.at_int HR1.out (i : Int) hi0 hi3
   cases e
   simp only [Int.toNat_natCast] at hx
   have hxw := hx
   replace hx := (HB.out.cell (World.block_lt_of_cell? w _ hx)).trans hx
   obtain ⟨x, hxx⟩ : ∃ x, rdT_ l0 (i : Int) = x := ⟨_, rfl⟩
   obtain ⟨y, hyy⟩ : ∃ y, rd l1_0 (i : Int) = y := ⟨_, rfl⟩
   rw [hxx] at hp
   rw [hyy] at hx hxw
   have HXX := Az0.mk hxx
   have HYY := Az0.mk hyy
   have HXW := Az0.mk hxw
   clear hxx hyy hxw
   replace hi0 := eq_true hi0
   replace hi1 := eq_true hi1
   replace hi3 := eq_true hi3
   replace hi5 := eq_true hi5
   go_upto_region 5 with (fail)
   have n0_ := Az0.mk (bP_ HB.out (bD1_ (Below.refl _ _)))
   have n1_ := Az0.mk (bB_ BB.out (bD1_ (Below.refl _ _)))
   have n2_ := Az0.mk (bB_ B4.out (bD1_ (Below.refl _ _)))
   have n3_ := Az0.mk (Kd.rW_ HO.out (bD1_ (Below.refl _ _)))
   clear HB BB B4 HO hb_0 hb_1 hp hx
   have HB := n0_; have BB := n1_; have B4 := n2_; have HO := n3_
   clear n0_ n1_ n2_ n3_
   refine start_ (n := 19) (S := fun w' => w'.cell? ⟨gb, 0, none⟩ = some (.slice (some ad2) l1_0.length c1_0) ∧ w'.cell? (ad2.add i) = some (.int .i64 y)) (ds := []) #[false, false, false, false, false, false, false, false, false, false, false, false, false, false, false, false, false, false, false] (by kernel_rfl) rfl rfl ⟨(bkC BB.out 0).trans rfl, (HB.out.cell (World.block_lt_of_cell? w _ HXW.out)).trans HXW.out⟩ (fun hHeld => ?_); refine with_tabW delay.tab5 delay.bits5 (fun HT_ HW_ => ?_)
   generalize World.drew _ = wd at HB BB B4 HO hHeld ⊢
   refine pure_ (i := 0) (N := some 18) (v := ?_) (a' := ?_) #[true, false, false, false, false, false, false, false, false, false, false, false, false, false, false, false, false, false, false] rfl rfl (any_of HT_.out (by kernel_rfl)) (fun _ _ _ h => h) (Or.inl ⟨by rfl, ?_⟩) ?_ ?_
   rotate_left
   ·intro w'
    go_simp
    first | with_reducible rfl | rfl
   rotate_left
   ·simp only [Act.put, Ups.sA, Ups.sZ, Ups.sS, i64_w, i32_w]
    rfl
   refine pure_ (i := 1) (N := some 19) (v := ?_) (a' := ?_) #[true, true, false, false, false, false, false, false, false, false, false, false, false, false, false, false, false, false, false] rfl rfl (any_of HT_.out (by kernel_rfl)) (fun _ _ _ h => h) (Or.inl ⟨by rfl, ?_⟩) ?_ ?_
   rotate_left
   ·intro w'
    go_simp
    first | with_reducible rfl | rfl
   rotate_left
   ·simp only [Act.put, Ups.sA, Ups.sZ, Ups.sS, i64_w, i32_w]
    rfl
   refine pure_ (i := 3) (N := some 21) (v := ?_) (a' := ?_) #[true, true, false, true, false, false, false, false, false, false, false, false, false, false, false, false, false, false, false] rfl rfl (any_of HT_.out (by kernel_rfl)) (fun _ _ _ h => h) (Or.inl ⟨by rfl, ?_⟩) ?_ ?_
   rotate_left
   ·intro w'
    go_simp
    first | with_reducible rfl | rfl
   rotate_left
   ·simp only [Act.put, Ups.sA, Ups.sZ, Ups.sS, i64_w, i32_w]
    rfl
   refine pure_ (i := 6) (N := some 24) (v := ?_) (a' := ?_) #[true, true, false, true, false, false, true, false, false, false, false, false, false, false, false, false, false, false, false] rfl rfl (any_of HT_.out (by kernel_rfl)) (fun _ _ _ h => h) (Or.inl ⟨by rfl, ?_⟩) ?_ ?_
   rotate_left
   ·intro w'
    go_simp
    first | with_reducible rfl | rfl
   rotate_left
   ·simp only [Act.put, Ups.sA, Ups.sZ, Ups.sS, i64_w, i32_w]
    rfl
   refine pure_ (i := 7) (N := some 25) (v := ?_) (a' := ?_) #[true, true, false, true, false, false, true, true, false, false, false, false, false, false, false, false, false, false, false] rfl rfl (any_of HT_.out (by kernel_rfl)) (fun _ _ _ h => h) (Or.inl ⟨by rfl, ?_⟩) ?_ ?_
   rotate_left
   ·intro w'
    go_simp
    first | with_reducible rfl | rfl
   rotate_left
   ·simp only [Act.put, Ups.sA, Ups.sZ, Ups.sS, i64_w, i32_w]
    rfl
   refine pure_ (i := 9) (N := some 27) (v := ?_) (a' := ?_) #[true, true, false, true, false, false, true, true, false, true, false, false, false, false, false, false, false, false, false] rfl rfl (any_of HT_.out (by kernel_rfl)) (fun _ _ _ h => h) (Or.inl ⟨by rfl, ?_⟩) ?_ ?_
   rotate_left
   ·intro w'
    go_simp
    first | with_reducible rfl | rfl
   rotate_left
   ·simp only [Act.put, Ups.sA, Ups.sZ, Ups.sS, i64_w, i32_w]
    rfl
   refine pure_ (i := 12) (N := some 30) (v := ?_) (a' := ?_) #[true, true, false, true, false, false, true, true, false, true, false, false, true, false, false, false, false, false, false] rfl rfl (any_of HT_.out (by kernel_rfl)) (fun _ _ _ h => h) (Or.inl ⟨by rfl, ?_⟩) ?_ ?_
   rotate_left
   ·intro w'
    go_simp
    first | with_reducible rfl | rfl
   rotate_left
   ·simp only [Act.put, Ups.sA, Ups.sZ, Ups.sS, i64_w, i32_w]
    rfl
   refine pure_ (i := 13) (N := some 31) (v := ?_) (a' := ?_) #[true, true, false, true, false, false, true, true, false, true, false, false, true, true, false, false, false, false, false] rfl rfl (any_of HT_.out (by kernel_rfl)) (fun _ _ _ h => h) (Or.inl ⟨by rfl, ?_⟩) ?_ ?_
   rotate_left
   ·intro w'
    go_simp
    first | with_reducible rfl | rfl
   rotate_left
   ·simp only [Act.put, Ups.sA, Ups.sZ, Ups.sS, i64_w, i32_w]
    rfl
   refine pure_ (i := 14) (N := some 32) (v := ?_) (a' := ?_) #[true, true, false, true, false, false, true, true, false, true, false, false, true, true, true, false, false, false, false] rfl rfl (any_of HT_.out (by kernel_rfl)) (fun _ _ _ h => h) (Or.inl ⟨by rfl, ?_⟩) ?_ ?_
   rotate_left
   ·intro w'
    go_simp
    first | with_reducible rfl | rfl
   rotate_left
   ·simp only [Act.put, Ups.sA, Ups.sZ, Ups.sS, i64_w, i32_w]
    rfl
   refine take_ (i := 2) (N := some 20) (v := ?_) (a' := ?_) #[true, true, true, true, false, false, true, true, false, true, false, false, true, true, true, false, false, false, false] rfl rfl (take_ofW HT_.out HW_.out (by kernel_rfl)) (fun _ _ _ h => h) (Or.inl ⟨by rfl, ?_⟩) hHeld ?_ ?_
   rotate_left
   ·rintro w' ⟨s0, s1⟩
    go_simp
    first | with_reducible rfl | rfl
   rotate_left
   ·simp only [Act.put, Ups.sA, Ups.sZ, Ups.sS, i64_w, i32_w]
    rfl
   refine pure_ (i := 4) (N := some 22) (v := ?_) (a' := ?_) #[true, true, true, true, true, false, true, true, false, true, false, false, true, true, true, false, false, false, false] rfl rfl (any_of HT_.out (by kernel_rfl)) (fun _ _ _ h => h) (Or.inl ⟨by rfl, ?_⟩) ?_ ?_
   rotate_left
   ·intro w'
    go_simp
    first | with_reducible rfl | rfl
   rotate_left
   ·simp only [Act.put, Ups.sA, Ups.sZ, Ups.sS, i64_w, i32_w]
    rfl
   refine take_ (i := 5) (N := some 23) (v := ?_) (a' := ?_) #[true, true, true, true, true, true, true, true, false, true, false, false, true, true, true, false, false, false, false] rfl rfl (take_ofW HT_.out HW_.out (by kernel_rfl)) (fun _ _ _ h => h) (Or.inl ⟨by rfl, ?_⟩) hHeld ?_ ?_
   rotate_left
   ·rintro w' ⟨s0, s1⟩
    go_simp
    first | with_reducible rfl | rfl
   rotate_left
   ·simp only [Act.put, Ups.sA, Ups.sZ, Ups.sS, i64_w, i32_w]
    rfl
   refine take_ (i := 8) (N := some 26) (v := ?_) (a' := ?_) #[true, true, true, true, true, true, true, true, true, true, false, false, true, true, true, false, false, false, false] rfl rfl (take_ofW HT_.out HW_.out (by kernel_rfl)) (fun _ _ _ h => h) (Or.inl ⟨by rfl, ?_⟩) hHeld ?_ ?_
   rotate_left
   ·rintro w' ⟨s0, s1⟩
    go_simp
    first | with_reducible rfl | rfl
   rotate_left
   ·simp only [Act.put, Ups.sA, Ups.sZ, Ups.sS, i64_w, i32_w]
    rfl
   refine pure_ (i := 10) (N := some 28) (v := ?_) (a' := ?_) #[true, true, true, true, true, true, true, true, true, true, true, false, true, true, true, false, false, false, false] rfl rfl (any_of HT_.out (by kernel_rfl)) (fun _ _ _ h => h) (Or.inl ⟨by rfl, ?_⟩) ?_ ?_
   rotate_left
   ·intro w'
    go_simp
    first | with_reducible rfl | rfl
   rotate_left
   ·simp only [Act.put, Ups.sA, Ups.sZ, Ups.sS, i64_w, i32_w]
    rfl
   refine take_ (i := 11) (N := some 29) (v := ?_) (a' := ?_) #[true, true, true, true, true, true, true, true, true, true, true, true, true, true, true, false, false, false, false] rfl rfl (take_ofW HT_.out HW_.out (by kernel_rfl)) (fun _ _ _ h => h) (Or.inl ⟨by rfl, ?_⟩) hHeld ?_ ?_
   rotate_left
   ·rintro w' ⟨s0, s1⟩
    go_simp
    first | with_reducible rfl | rfl
   rotate_left
   ·simp only [Act.put, Ups.sA, Ups.sZ, Ups.sS, i64_w, i32_w]
    rfl
   refine one_ (i := 15) (N := some 33) #[true, true, true, true, true, true, true, true, true, true, true, true, true, true, true, true, false, false, false] rfl rfl (one_of HT_.out (by kernel_rfl)) (by decide) (fun K hK => ?_)
   refine goesI_ (t := 123) (rv := .agg #[.int .i64 x.f0, .int .i64 x.f1, .int .i64 a1_1]) Try.func142 (by kernel_rfl) rfl #[.int .i64 y] (by rfl) rfl rfl rfl (by (try simp only [List.map_toArray, List.map_cons, List.map_nil]); first | done | rfl) (by kernel_rfl) ?_
   refine (lane_calls x a1_1 y _).mono ?_
   rintro e w5 ⟨rfl, hb⟩
   refine ⟨_, rfl, ?_⟩
   have n0_ := Az0.mk (bP_ HB.out hb)
   have n1_ := Az0.mk (bB_ BB.out hb)
   have n2_ := Az0.mk (bB_ B4.out hb)
   have n3_ := Az0.mk (Kd.rW_ HO.out hb)
   clear HB BB B4 HO hb
   have HB := n0_; have BB := n1_; have B4 := n2_; have HO := n3_
   clear n0_ n1_ n2_ n3_
   refine hK.out _ _ ⟨(bkC BB.out 0).trans rfl, (HB.out.cell (World.block_lt_of_cell? w _ HXW.out)).trans HXW.out⟩ (fun hHeld => ?_)
   clear hK K
   refine norm_ (a' := ?_) ?_ ?_
   rotate_left
   ·show Act.put _ (some 33) _ = _
    simp only [Act.put, Ups.sA, Ups.sZ, Ups.sS, i64_w, i32_w]
    rfl
   refine pure_ (i := 16) (N := some 34) (v := ?_) (a' := ?_) #[true, true, true, true, true, true, true, true, true, true, true, true, true, true, true, true, true, false, false] rfl rfl (any_of HT_.out (by kernel_rfl)) (fun _ _ _ h => h) (Or.inl ⟨by rfl, ?_⟩) ?_ ?_
   rotate_left
   ·intro w'
    go_simp
    first | with_reducible rfl | rfl
   rotate_left
   ·simp only [Act.put, Ups.sA, Ups.sZ, Ups.sS, i64_w, i32_w]
    rfl
   refine pure_ (i := 17) (N := some 35) (v := ?_) (a' := ?_) #[true, true, true, true, true, true, true, true, true, true, true, true, true, true, true, true, true, true, false] rfl rfl (any_of HT_.out (by kernel_rfl)) (fun _ _ _ h => h) (Or.inl ⟨by rfl, ?_⟩) ?_ ?_
   rotate_left
   ·intro w'
    go_simp
    first | with_reducible rfl | rfl
   rotate_left
   ·simp only [Act.put, Ups.sA, Ups.sZ, Ups.sS, i64_w, i32_w]
    rfl
   refine pure_ (i := 18) (N := some 5) (v := ?_) (a' := ?_) #[true, true, true, true, true, true, true, true, true, true, true, true, true, true, true, true, true, true, true] rfl rfl (any_of HT_.out (by kernel_rfl)) (fun _ _ _ h => h) (Or.inl ⟨by rfl, ?_⟩) ?_ ?_
   rotate_left
   ·intro w'
    go_simp
    first | with_reducible rfl | rfl
   rotate_left
   ·simp only [Act.put, Ups.sA, Ups.sZ, Ups.sS, i64_w, i32_w]
    rfl
   refine done_ (done_of HT_.out (by kernel_rfl)) ?_
   try go_wp2
   go_roundg k1
   case measure => omega
   case rel => exact ⟨i + 1, _, rfl, val_succ i (by have := HIL.out; have := HL.out; omega), ⟨by have := HI.out; omega⟩, ⟨by have := HH2.out; rw [HXX.out, HYY.out] at this; exact this⟩, HO, BB, B4, HB⟩
end Go.Proofs.Ytjgbdicbdlollaa.B
namespace Go.Proofs.Ytjgbdicbdlollaa.B
open Go.RowKit Go.Proofs.YtjgbdicbdlollaaW.PrintWords Go.Proofs.YtjgbdicbdlollaaW.PrintLast Go.Proofs.YtjgbdicbdlollaaW.PrintMore
attribute [local go_sem] max2_int min2_int max_two min_two max_three min_three max_four min_four   -- for this text's walks alone
set_option linter.unusedVariables false
set_option linter.unusedSimpArgs false
def jam_Balance.f (k : Nat) (l0 : List (S36)) : Option (List Int × Int × Int × Int × Int) := (jam_stream.f l0).bind fun t103 => (if t103 = 0 then ((jBa.f k l0 1).bind fun bt104 => (some (bt104.1, bt104.2.1, bt104.2.2.1, bt104.2.2.2, 0))) else (some (([] : List Int), 0, 0, 0, t103)))
theorem jam_Balance.mono : ∀ a0 k, LeO (jam_Balance.f k a0) (jam_Balance.f (k + 1) a0) := by
  intro a0 k
  unfold jam_Balance.f
  repeat' first
      | (with_reducible exact jBa.mono _ _ _)
      | (with_reducible exact LeO.refl _)
      | (with_reducible exact LeO.none _)
      | (with_reducible refine LeO.ite ?_ ?_)
      | (with_reducible refine LeO.bind ?_ (fun _ => ?_))
      | exact jBa.mono _ _ _
      | exact LeO.none _
      | refine LeO.ite ?_ ?_
      | refine LeO.bind ?_ (fun _ => ?_)
set_option maxHeartbeats 8000000 in
set_option maxRecDepth 100000 in
theorem jam_Balance.calls (k : Nat) (A0 : Option Addr) (c0 : Nat) (l0 : List (S36)) (r1 : List Int) (r2 : Int) (r3 : Int) (r4 : Int) (r5 : Int) (w : World) (hr0 : Kd.C k36 w A0 l0.length l0) (hc0 : l0.length ≤ c0) (h : jam_Balance.f k l0 = some (r1, r2, r3, r4, r5)) :
  Calls Try.prog 17 #[.slice A0 l0.length c0] w fun e w' => ∃ v0_ : Value, e = .returned (.tuple #[.agg #[v0_, .int .i64 r2], .agg #[.int .i64 r3, .int .i64 r4], .int .i64 r5]) ∧ Kd.R (Kd.int .i64) 3 w' w.heap.size (fun _ => True) v0_ r1 ∧ Below w.heap.size w w' := by
 have hu26 := Try.underlying26
 have hu28 := Try.underlying28
 have HR0 := Az0.mk hr0
 have HC0 := Az0.mk hc0
 clear hr0 hc0
 have HB := Az0.mk (Below.refl w.heap.size w)
 have H : ((jam_stream.f l0).bind fun t103 => (if t103 = 0 then ((jBa.f k l0 1).bind fun bt104 => (some (bt104.1, bt104.2.1, bt104.2.2.1, bt104.2.2.2, 0))) else (some (([] : List Int), 0, 0, 0, t103)))) = some (r1, r2, r3, r4, r5) := h
 clear h
 replace H := Option.bind_eq_some_iff.mp H
 obtain ⟨t103, A20, H⟩ := H
 replace H : (if t103 = 0 then ((jBa.f k l0 1).bind fun bt104 => (some (bt104.1, bt104.2.1, bt104.2.2.1, bt104.2.2.2, 0))) else (some (([] : List Int), 0, 0, 0, t103))) = some (r1, r2, r3, r4, r5) := H
 have A2 := Az0.mk A20
 clear A20
 by_cases c3 : t103 = 0
 ·rw [if_pos c3] at H
  have c3b0 : (t103 == 0) = true := beq_iff_eq.mpr c3
  have c3b1 : (t103 != 0) = false := bne_eq_false_iff_eq.mpr c3
  clear c3
  replace H := Option.bind_eq_some_iff.mp H
  obtain ⟨⟨t104, t107, t108, t109⟩, A40, H⟩ := H
  replace H : (some (t104, t107, t108, t109, 0)) = some (r1, r2, r3, r4, r5) := H
  have A4 := Az0.mk A40
  clear A40
  simp only [Option.some.injEq, Prod.mk.injEq] at H
  obtain ⟨rfl, rfl, rfl, rfl, rfl⟩ := H
  go_enter Try.func17, Try.ntmps17
  try go_wp2_with (first | ((with_reducible refine gD_ (N := 2) rfl ?_); refine bE_ ?hg (N := 2) ?hd (cs := #[.slice none 0 0, .int .i64 0]) (t := 26) ?hr ?_; (case hd => rfl); (case hg => rfl); (case hr => first | (go_simp; done) | (go_simp; rfl)); intro gb101 hg w5 hbox hb; have n0_ := Az0.mk (bP_ (by exact Ups.w HB.out) hb); have n1_ := Az0.mk (hbox); have n2_ := Az0.mk ((by rw [hg]; exact (bZ_ (by exact Ups.w HB.out)) : w.heap.size ≤ gb101)); have n3_ := Az0.mk ((by rw [hg]; exact (bZ_ (by exact Ups.w HB.out)) : w.heap.size ≤ gb101)); clear HB; have HB := n0_; have BK101 := n1_; have GW101 := n2_; have GE101 := n3_; clear n0_ n1_ n2_ n3_; clear hb hbox hg) | ((with_reducible refine gD_ (N := 3) rfl ?_); refine bE_ ?hg (N := 3) ?hd (cs := #[.int .i64 0, .int .i64 0]) (t := 28) ?hr ?_; (case hd => rfl); (case hg => rfl); (case hr => first | (go_simp; done) | (go_simp; rfl)); intro gb102 hg w6 hbox hb; have n0_ := Az0.mk (bB_ (g := gb101) (o := .cells #[.slice none 0 0, .int .i64 0] 26 (0, 0)) (by refine Ups.b ?_; exact BK101.out) hb); have n1_ := Az0.mk (bP_ (by repeat (first | (with_reducible first | exact HB.out | refine Up1.w ?_ | refine bS_ ?_ GE101.out) | exact HB.out)) hb); have n2_ := Az0.mk (hbox); have n3_ := Az0.mk ((by rw [hg]; exact (bZ_ (by repeat (first | (with_reducible first | exact HB.out | refine Up1.w ?_ | refine bS_ ?_ GE101.out) | exact HB.out))) : w.heap.size ≤ gb102)); have n4_ := Az0.mk ((by rw [hg]; exact (bZ_ (by repeat (first | (with_reducible first | exact HB.out | refine Up1.w ?_ | refine bS_ ?_ GE101.out) | exact HB.out))) : w.heap.size ≤ gb102)); have n5_ := Az0.mk ((by rw [hg]; exact Nat.ne_of_lt (bL_ (g := gb101) (o := .cells #[.slice none 0 0, .int .i64 0] 26 (0, 0)) (by refine Ups.b ?_; exact BK101.out)) : gb101 ≠ gb102)); have n6_ := Az0.mk ((by rw [hg]; exact Nat.ne_of_gt (bL_ (g := gb101) (o := .cells #[.slice none 0 0, .int .i64 0] 26 (0, 0)) (by refine Ups.b ?_; exact BK101.out)) : gb102 ≠ gb101)); clear BK101; clear HB; have BK101 := n0_; have HB := n1_; have BK102 := n2_; have GW102 := n3_; have GE102 := n4_; have NB101_102 := n5_; have NB102_101 := n6_; clear n0_ n1_ n2_ n3_ n4_ n5_ n6_; clear hb hbox hg) | ((with_reducible refine gate_callee (f := 48) rfl ?_); refine goesL_ (some 9) rfl rfl Try.func48 (by kernel_rfl) rfl #[.slice A0 l0.length c0] rfl (by (try simp only [List.map_toArray, List.map_cons, List.map_nil]); first | done | rfl | (simp only [List.length_drop, List.length_take]; rfl)) ?_; (with_reducible refine (jam_stream.calls _ _ l0 t103 _ ?side1 ?side2 A2.out).mono ?_); (case side1 => repeat (first | exact (Kd.C_below HR0.out HB.out) | refine Up1.c ?_)); (case side2 => exact HC0.out); rintro e w7 ⟨rfl, hb⟩; refine ⟨_, rfl, ?_⟩; have n0_ := Az0.mk (bB_ (g := gb101) (o := .cells #[.slice none 0 0, .int .i64 0] 26 (0, 0)) (by refine Ups.b ?_; exact BK101.out) hb); have n1_ := Az0.mk (bB_ (g := gb102) (o := .cells #[.int .i64 0, .int .i64 0] 28 (0, 0)) (by refine Ups.b ?_; exact BK102.out) hb); have n2_ := Az0.mk (bP_ (by repeat (first | (with_reducible first | exact HB.out | refine Up1.w ?_ | refine bS_ ?_ GE101.out | refine bS_ ?_ GE102.out) | exact HB.out)) hb); clear BK101; clear BK102; clear HB; have BK101 := n0_; have BK102 := n1_; have HB := n2_; clear n0_ n1_ n2_; (try clear hb); (try clear hb2); (try clear hk); (try clear hi)) | ((with_reducible refine gate_callee (f := 49) rfl ?_); refine goesL_ (some 17) rfl rfl Try.func49 (by kernel_rfl) rfl #[.slice A0 l0.length c0, .int .i64 1] rfl (by (try simp only [List.map_toArray, List.map_cons, List.map_nil]); first | done | rfl | (simp only [List.length_drop, List.length_take]; rfl)) ?_; (with_reducible refine (jBa.calls k _ _ l0 1 t104 t107 t108 t109 _ ?side1 ?side2 A4.out).mono ?_); (case side1 => repeat (first | exact (Kd.C_below HR0.out HB.out) | refine Up1.c ?_)); (case side2 => exact HC0.out); rintro e w8 ⟨v105, rfl, ho0, hb⟩; refine ⟨_, rfl, ?_⟩; have n0_ := Az0.mk (Kd.R_lower ho0 (bZ_ (by repeat (first | (with_reducible first | exact HB.out | refine Up1.w ?_ | refine bS_ ?_ GE101.out | refine bS_ ?_ GE102.out) | exact HB.out)))); have n1_ := Az0.mk (bB_ (g := gb101) (o := .cells #[.slice none 0 0, .int .i64 0] 26 (0, 0)) (by refine Ups.b ?_; exact BK101.out) hb); have n2_ := Az0.mk (bB_ (g := gb102) (o := .cells #[.int .i64 0, .int .i64 0] 28 (0, 0)) (by refine Ups.b ?_; exact BK102.out) hb); have n3_ := Az0.mk (bP_ (by repeat (first | (with_reducible first | exact HB.out | refine Up1.w ?_ | refine bS_ ?_ GE101.out | refine bS_ ?_ GE102.out) | exact HB.out)) hb); clear BK101; clear BK102; clear HB; have HO106 := n0_; have BK101 := n1_; have BK102 := n2_; have HB := n3_; clear n0_ n1_ n2_ n3_; (try clear hb); (try clear hb2); (try clear hk); (try clear hi); (try clear ho0)) | ((with_reducible refine gD_ (N := 6) rfl ?_); refine bE_ ?hg (N := 6) ?hd (cs := #[.slice none 0 0, .int .i64 0]) (t := 26) ?hr ?_; (case hd => rfl); (case hg => rfl); (case hr => first | (go_simp; done) | (go_simp; rfl)); intro gb110 hg w9 hbox hb; have n0_ := Az0.mk (Kd.rW_ (by (repeat refine Up1.r ?_); exact HO106.out) hb); have n1_ := Az0.mk (bB_ (g := gb101) (o := .cells #[.slice none 0 0, .int .i64 0] 26 (0, 0)) (by refine Ups.b ?_; exact BK101.out) hb); have n2_ := Az0.mk (bB_ (g := gb102) (o := .cells #[.int .i64 0, .int .i64 0] 28 (0, 0)) (by refine Ups.b ?_; exact BK102.out) hb); have n3_ := Az0.mk (bP_ (by repeat (first | (with_reducible first | exact HB.out | refine Up1.w ?_ | refine bS_ ?_ GE101.out | refine bS_ ?_ GE102.out) | exact HB.out)) hb); have n4_ := Az0.mk (hbox); have n5_ := Az0.mk ((by rw [hg]; exact (bZ_ (by repeat (first | (with_reducible first | exact HB.out | refine Up1.w ?_ | refine bS_ ?_ GE101.out | refine bS_ ?_ GE102.out) | exact HB.out))) : w.heap.size ≤ gb110)); have n6_ := Az0.mk ((by rw [hg]; exact (bZ_ (by repeat (first | (with_reducible first | exact HB.out | refine Up1.w ?_ | refine bS_ ?_ GE101.out | refine bS_ ?_ GE102.out) | exact HB.out))) : w.heap.size ≤ gb110)); have n7_ := Az0.mk ((by rw [hg]; exact Nat.ne_of_lt (bL_ (g := gb101) (o := .cells #[.slice none 0 0, .int .i64 0] 26 (0, 0)) (by refine Ups.b ?_; exact BK101.out)) : gb101 ≠ gb110)); have n8_ := Az0.mk ((by rw [hg]; exact Nat.ne_of_gt (bL_ (g := gb101) (o := .cells #[.slice none 0 0, .int .i64 0] 26 (0, 0)) (by refine Ups.b ?_; exact BK101.out)) : gb110 ≠ gb101)); have n9_ := Az0.mk ((by rw [hg]; exact Nat.ne_of_lt (bL_ (g := gb102) (o := .cells #[.int .i64 0, .int .i64 0] 28 (0, 0)) (by refine Ups.b ?_; exact BK102.out)) : gb102 ≠ gb110)); have n10_ := Az0.mk ((by rw [hg]; exact Nat.ne_of_gt (bL_ (g := gb102) (o := .cells #[.int .i64 0, .int .i64 0] 28 (0, 0)) (by refine Ups.b ?_; exact BK102.out)) : gb110 ≠ gb102)); clear HO106; clear BK101; clear BK102; clear HB; have HO106 := n0_; have BK101 := n1_; have BK102 := n2_; have HB := n3_; have BK110 := n4_; have GW110 := n5_; have GE110 := n6_; have NB101_110 := n7_; have NB110_101 := n8_; have NB102_110 := n9_; have NB110_102 := n10_; clear n0_ n1_ n2_ n3_ n4_ n5_ n6_ n7_ n8_ n9_ n10_; clear hb hbox hg) | ((with_reducible refine gD_ (N := 7) rfl ?_); refine bE_ ?hg (N := 7) ?hd (cs := #[.int .i64 0, .int .i64 0]) (t := 28) ?hr ?_; (case hd => rfl); (case hg => rfl); (case hr => first | (go_simp; done) | (go_simp; rfl)); intro gb111 hg w10 hbox hb; have n0_ := Az0.mk (Kd.rW_ (by (repeat refine Up1.r ?_); exact HO106.out) hb); have n1_ := Az0.mk (bB_ (g := gb101) (o := .cells #[.slice none 0 0, .int .i64 0] 26 (0, 0)) (by refine Ups.b ?_; exact BK101.out) hb); have n2_ := Az0.mk (bB_ (g := gb102) (o := .cells #[.int .i64 0, .int .i64 0] 28 (0, 0)) (by refine Ups.b ?_; exact BK102.out) hb); have n3_ := Az0.mk (bB_ (g := gb110) (o := .cells #[.slice none 0 0, .int .i64 0] 26 (0, 0)) (by refine Ups.b ?_; exact BK110.out) hb); have n4_ := Az0.mk (bP_ (by repeat (first | (with_reducible first | exact HB.out | refine Up1.w ?_ | refine bS_ ?_ GE101.out | refine bS_ ?_ GE102.out | refine bS_ ?_ GE110.out) | exact HB.out)) hb); have n5_ := Az0.mk (hbox); have n6_ := Az0.mk ((by rw [hg]; exact (bZ_ (by repeat (first | (with_reducible first | exact HB.out | refine Up1.w ?_ | refine bS_ ?_ GE101.out | refine bS_ ?_ GE102.out | refine bS_ ?_ GE110.out) | exact HB.out))) : w.heap.size ≤ gb111)); have n7_ := Az0.mk ((by rw [hg]; exact (bZ_ (by repeat (first | (with_reducible first | exact HB.out | refine Up1.w ?_ | refine bS_ ?_ GE101.out | refine bS_ ?_ GE102.out | refine bS_ ?_ GE110.out) | exact HB.out))) : w.heap.size ≤ gb111)); have n8_ := Az0.mk ((by rw [hg]; exact Nat.ne_of_lt (bL_ (g := gb101) (o := .cells #[.slice none 0 0, .int .i64 0] 26 (0, 0)) (by refine Ups.b ?_; exact BK101.out)) : gb101 ≠ gb111)); have n9_ := Az0.mk ((by rw [hg]; exact Nat.ne_of_gt (bL_ (g := gb101) (o := .cells #[.slice none 0 0, .int .i64 0] 26 (0, 0)) (by refine Ups.b ?_; exact BK101.out)) : gb111 ≠ gb101)); have n10_ := Az0.mk ((by rw [hg]; exact Nat.ne_of_lt (bL_ (g := gb102) (o := .cells #[.int .i64 0, .int .i64 0] 28 (0, 0)) (by refine Ups.b ?_; exact BK102.out)) : gb102 ≠ gb111)); have n11_ := Az0.mk ((by rw [hg]; exact Nat.ne_of_gt (bL_ (g := gb102) (o := .cells #[.int .i64 0, .int .i64 0] 28 (0, 0)) (by refine Ups.b ?_; exact BK102.out)) : gb111 ≠ gb102)); have n12_ := Az0.mk ((by rw [hg]; exact Nat.ne_of_lt (bL_ (g := gb110) (o := .cells #[.slice none 0 0, .int .i64 0] 26 (0, 0)) (by refine Ups.b ?_; exact BK110.out)) : gb110 ≠ gb111)); have n13_ := Az0.mk ((by rw [hg]; exact Nat.ne_of_gt (bL_ (g := gb110) (o := .cells #[.slice none 0 0, .int .i64 0] 26 (0, 0)) (by refine Ups.b ?_; exact BK110.out)) : gb111 ≠ gb110)); clear HO106; clear BK101; clear BK102; clear BK110; clear HB; have HO106 := n0_; have BK101 := n1_; have BK102 := n2_; have BK110 := n3_; have HB := n4_; have BK111 := n5_; have GW111 := n6_; have GE111 := n7_; have NB101_111 := n8_; have NB111_101 := n9_; have NB102_111 := n10_; have NB111_102 := n11_; have NB110_111 := n12_; have NB111_110 := n13_; clear n0_ n1_ n2_ n3_ n4_ n5_ n6_ n7_ n8_ n9_ n10_ n11_ n12_ n13_; clear hb hbox hg; obtain ⟨Ao11, co11, eo11⟩ := Kd.R_slice HO106.out; subst eo11; have hnb12 := NB110_101.out; have hnc12 := NB101_110.out; have hnb13 := NB110_102.out; have hnc13 := NB102_110.out; have hnb14 := NB110_111.out; have hnc14 := NB111_110.out; have hcz15_0 : w10.cell? ⟨gb110, 0, none⟩ = some (.slice none 0 0) := (bkC BK110.out 0).trans rfl; have hcz15_1 : w10.cell? ⟨gb110, 1, none⟩ = some (.int .i64 0) := (bkC BK110.out 1).trans rfl; have hfz15_0 := bF_ BK110.out 0; have hfz15_1 := bF_ BK110.out 1; have hnb16 := NB111_101.out; have hnc16 := NB101_111.out; have hnb17 := NB111_102.out; have hnc17 := NB102_111.out; have hcz18_0 : w10.cell? ⟨gb111, 0, none⟩ = some (.int .i64 0) := (bkC BK111.out 0).trans rfl; have hcz18_1 : w10.cell? ⟨gb111, 1, none⟩ = some (.int .i64 0) := (bkC BK111.out 1).trans rfl; have hfz18_0 := bF_ BK111.out 0; have hfz18_1 := bF_ BK111.out 1))
  have n0_ : Az0 (Kd.R (Kd.int .i64) 3 ((((w10.setCell ⟨gb110, 0, none⟩ (.slice Ao11 t104.length co11)).setCell ⟨gb110, 1, none⟩ (.int .i64 t107)).setCell ⟨gb111, 0, none⟩ (.int .i64 t108)).setCell ⟨gb111, 1, none⟩ (.int .i64 t109)) w.heap.size (fun _ => True) (.slice Ao11 t104.length co11) t104) := ⟨by (repeat refine Up1.r ?_); exact Kd.rM_ (Kd.rF_ (p := ⟨gb111, 1, none⟩) (Kd.rF_ (p := ⟨gb111, 0, none⟩) (Kd.rF_ (p := ⟨gb110, 1, none⟩) (Kd.rF_ (p := ⟨gb110, 0, none⟩) (Kd.rY_ (Kd.rY_ HO106.out BK110.out (by decide)) BK111.out (by decide)) (fun _ hk => hk.1.2) (.slice Ao11 t104.length co11)) (fun _ hk => hk.1.2) (.int .i64 t107)) (fun _ hk => hk.2) (.int .i64 t108)) (fun _ hk => hk.2) (.int .i64 t109)) (fun _ hk => trivial)⟩
  have n1_ : Az0 (((((w10.setCell ⟨gb110, 0, none⟩ (.slice Ao11 t104.length co11)).setCell ⟨gb110, 1, none⟩ (.int .i64 t107)).setCell ⟨gb111, 0, none⟩ (.int .i64 t108)).setCell ⟨gb111, 1, none⟩ (.int .i64 t109)).heap[gb101]? = some (.cells #[.slice none 0 0, .int .i64 0] 26 (0, 0))) := ⟨by refine Ups.b ?_; refine bR_ ?_ NB101_111.out _; refine Ups.b ?_; refine bR_ ?_ NB101_111.out _; refine Ups.b ?_; refine bR_ ?_ NB101_110.out _; refine Ups.b ?_; refine bR_ ?_ NB101_110.out _; refine Ups.b ?_; exact BK101.out⟩
  have n2_ : Az0 (((((w10.setCell ⟨gb110, 0, none⟩ (.slice Ao11 t104.length co11)).setCell ⟨gb110, 1, none⟩ (.int .i64 t107)).setCell ⟨gb111, 0, none⟩ (.int .i64 t108)).setCell ⟨gb111, 1, none⟩ (.int .i64 t109)).heap[gb102]? = some (.cells #[.int .i64 0, .int .i64 0] 28 (0, 0))) := ⟨by refine Ups.b ?_; refine bR_ ?_ NB102_111.out _; refine Ups.b ?_; refine bR_ ?_ NB102_111.out _; refine Ups.b ?_; refine bR_ ?_ NB102_110.out _; refine Ups.b ?_; refine bR_ ?_ NB102_110.out _; refine Ups.b ?_; exact BK102.out⟩
  have n3_ : Az0 (((((w10.setCell ⟨gb110, 0, none⟩ (.slice Ao11 t104.length co11)).setCell ⟨gb110, 1, none⟩ (.int .i64 t107)).setCell ⟨gb111, 0, none⟩ (.int .i64 t108)).setCell ⟨gb111, 1, none⟩ (.int .i64 t109)).heap[gb110]? = some (.cells #[.slice Ao11 t104.length co11, .int .i64 t107] 26 (0, 0))) := ⟨by refine Ups.b ?_; refine bR_ ?_ NB110_111.out _; refine Ups.b ?_; refine bR_ ?_ NB110_111.out _; refine Ups.b ?_; refine blk_put (cs := #[.slice Ao11 t104.length co11, .int .i64 0]) ?_ 1 _ rfl; refine Ups.b ?_; refine blk_put (cs := #[.slice none 0 0, .int .i64 0]) ?_ 0 _ rfl; refine Ups.b ?_; exact BK110.out⟩
  have n4_ : Az0 (((((w10.setCell ⟨gb110, 0, none⟩ (.slice Ao11 t104.length co11)).setCell ⟨gb110, 1, none⟩ (.int .i64 t107)).setCell ⟨gb111, 0, none⟩ (.int .i64 t108)).setCell ⟨gb111, 1, none⟩ (.int .i64 t109)).heap[gb111]? = some (.cells #[.int .i64 t108, .int .i64 t109] 28 (0, 0))) := ⟨by refine Ups.b ?_; refine blk_put (cs := #[.int .i64 t108, .int .i64 0]) ?_ 1 _ rfl; refine Ups.b ?_; refine blk_put (cs := #[.int .i64 0, .int .i64 0]) ?_ 0 _ rfl; refine Ups.b ?_; refine bR_ ?_ NB111_110.out _; refine Ups.b ?_; refine bR_ ?_ NB111_110.out _; refine Ups.b ?_; exact BK111.out⟩
  have n5_ : Az0 (Below w.heap.size w ((((w10.setCell ⟨gb110, 0, none⟩ (.slice Ao11 t104.length co11)).setCell ⟨gb110, 1, none⟩ (.int .i64 t107)).setCell ⟨gb111, 0, none⟩ (.int .i64 t108)).setCell ⟨gb111, 1, none⟩ (.int .i64 t109))) := ⟨by repeat (first | (with_reducible first | exact HB.out | refine Up1.w ?_ | refine bS_ ?_ GE101.out | refine bS_ ?_ GE102.out | refine bS_ ?_ GE110.out | refine bS_ ?_ GE111.out) | exact HB.out)⟩
  (try clear HO106)
  (try clear BK101)
  (try clear BK102)
  (try clear BK110)
  (try clear BK111)
  (try clear HB)
  generalize ((((w10.setCell ⟨gb110, 0, none⟩ (.slice Ao11 t104.length co11)).setCell ⟨gb110, 1, none⟩ (.int .i64 t107)).setCell ⟨gb111, 0, none⟩ (.int .i64 t108)).setCell ⟨gb111, 1, none⟩ (.int .i64 t109)) = w19 at n0_ n1_ n2_ n3_ n4_ n5_ ⊢
  have HO106 := n0_
  have BK101 := n1_
  have BK102 := n2_
  have BK110 := n3_
  have BK111 := n4_
  have HB := n5_
  clear n0_ n1_ n2_ n3_ n4_ n5_
  have n0_ := Az0.mk (Kd.R_drew HO106.out)
  have n1_ := Az0.mk (bW_ BK101.out)
  have n2_ := Az0.mk (bW_ BK102.out)
  have n3_ := Az0.mk (bW_ BK110.out)
  have n4_ := Az0.mk (bW_ BK111.out)
  have n5_ := Az0.mk (bD1_ HB.out)
  clear HO106
  clear BK101
  clear BK102
  clear BK110
  clear BK111
  clear HB
  have HO106 := n0_
  have BK101 := n1_
  have BK102 := n2_
  have BK110 := n3_
  have BK111 := n4_
  have HB := n5_
  clear n0_ n1_ n2_ n3_ n4_ n5_
  refine start_ (n := 5) (S := fun w' => w'.cell? ⟨gb110, 0, none⟩ = some (.slice Ao11 t104.length co11) ∧ w'.cell? ⟨gb110, 1, none⟩ = some (.int .i64 t107) ∧ w'.cell? ⟨gb111, 0, none⟩ = some (.int .i64 t108) ∧ w'.cell? ⟨gb111, 1, none⟩ = some (.int .i64 t109)) (ds := []) #[false, false, false, false, false] (by kernel_rfl) rfl rfl ⟨(bkC BK110.out 0).trans rfl, (bkC BK110.out 1).trans rfl, (bkC BK111.out 0).trans rfl, (bkC BK111.out 1).trans rfl⟩ (fun hHeld => ?_)
  generalize w19.drew = w20 at HO106 BK101 BK102 BK110 BK111 HB hHeld ⊢
  refine take_ (i := 0) (N := some 20) (v := ?_) (a' := ?_) #[true, false, false, false, false] rfl rfl (by kernel_rfl) (fun _ _ _ h => h) (Or.inl ⟨by rfl, ?_⟩) hHeld ?_ ?_
  rotate_left
  ·rintro w' ⟨s0, s1, s2, s3⟩
   go_simp
   with_reducible rfl
  rotate_left
  ·simp only [Act.put, Ups.sA, Ups.sZ, Ups.sS, i64_w, i32_w]
   rfl
  refine take_ (i := 1) (N := some 21) (v := ?_) (a' := ?_) #[true, true, false, false, false] rfl rfl (by kernel_rfl) (fun _ _ _ h => h) (Or.inl ⟨by rfl, ?_⟩) hHeld ?_ ?_
  rotate_left
  ·rintro w' ⟨s0, s1, s2, s3⟩
   go_simp
   with_reducible rfl
  rotate_left
  ·simp only [Act.put, Ups.sA, Ups.sZ, Ups.sS, i64_w, i32_w]
   rfl
  refine one_ (i := 2) (N := none) #[true, true, true, false, false] rfl rfl (by kernel_rfl) (by decide) (fun K hK => ?_)
  have hs21 : w20.cell? ⟨gb101, 0, none⟩ = some (.slice none 0 0) := (bkC BK101.out 0).trans rfl
  have hfs21 := bF_ BK101.out 0
  have hns21_1 := NB102_101.out
  have hns21_2 := NB110_101.out
  have hns21_3 := NB111_101.out
  have hms21_1 := NB101_102.out
  have hms21_2 := NB101_110.out
  have hms21_3 := NB101_111.out
  have hs22 : w20.cell? ⟨gb101, 1, none⟩ = some (.int .i64 0) := (bkC BK101.out 1).trans rfl
  have hfs22 := bF_ BK101.out 1
  have hns22_1 := NB102_101.out
  have hns22_2 := NB110_101.out
  have hns22_3 := NB111_101.out
  have hms22_1 := NB101_102.out
  have hms22_2 := NB101_110.out
  have hms22_3 := NB101_111.out
  refine skip_ (w1 := ?_) (by rfl) rfl ?_ ?_
  rotate_left
  ·go_simp
   rfl
  refine hK.out _ _ ⟨((cell_far (p := ⟨gb101, _, none⟩) NB110_101.out _).trans (((cell_far (p := ⟨gb101, _, none⟩) NB110_101.out _).trans (hHeld.1)))), ((cell_far (p := ⟨gb101, _, none⟩) NB110_101.out _).trans (((cell_far (p := ⟨gb101, _, none⟩) NB110_101.out _).trans (hHeld.2.1)))), ((cell_far (p := ⟨gb101, _, none⟩) NB111_101.out _).trans (((cell_far (p := ⟨gb101, _, none⟩) NB111_101.out _).trans (hHeld.2.2.1)))), ((cell_far (p := ⟨gb101, _, none⟩) NB111_101.out _).trans (((cell_far (p := ⟨gb101, _, none⟩) NB111_101.out _).trans (hHeld.2.2.2))))⟩ (fun hHeld => ?_)
  clear hK K
  refine one_ (i := 3) (N := none) #[true, true, true, true, false] rfl rfl (by kernel_rfl) (by decide) (fun K hK => ?_)
  have hs23 : w20.cell? ⟨gb102, 0, none⟩ = some (.int .i64 0) := (bkC BK102.out 0).trans rfl
  have hfs23 := bF_ BK102.out 0
  have hns23_0 := NB101_102.out
  have hns23_2 := NB110_102.out
  have hns23_3 := NB111_102.out
  have hms23_0 := NB102_101.out
  have hms23_2 := NB102_110.out
  have hms23_3 := NB102_111.out
  have hs24 : w20.cell? ⟨gb102, 1, none⟩ = some (.int .i64 0) := (bkC BK102.out 1).trans rfl
  have hfs24 := bF_ BK102.out 1
  have hns24_0 := NB101_102.out
  have hns24_2 := NB110_102.out
  have hns24_3 := NB111_102.out
  have hms24_0 := NB102_101.out
  have hms24_2 := NB102_110.out
  have hms24_3 := NB102_111.out
  refine skip_ (w1 := ?_) (by rfl) rfl ?_ ?_
  rotate_left
  ·go_simp
   rfl
  refine hK.out _ _ ⟨((cell_far (p := ⟨gb102, _, none⟩) NB110_102.out _).trans (((cell_far (p := ⟨gb102, _, none⟩) NB110_102.out _).trans (hHeld.1)))), ((cell_far (p := ⟨gb102, _, none⟩) NB110_102.out _).trans (((cell_far (p := ⟨gb102, _, none⟩) NB110_102.out _).trans (hHeld.2.1)))), ((cell_far (p := ⟨gb102, _, none⟩) NB111_102.out _).trans (((cell_far (p := ⟨gb102, _, none⟩) NB111_102.out _).trans (hHeld.2.2.1)))), ((cell_far (p := ⟨gb102, _, none⟩) NB111_102.out _).trans (((cell_far (p := ⟨gb102, _, none⟩) NB111_102.out _).trans (hHeld.2.2.2))))⟩ (fun hHeld => ?_)
  clear hK K
  refine pure_ (i := 4) (N := some 4) (v := ?_) (a' := ?_) #[true, true, true, true, true] rfl rfl (by kernel_rfl) (fun _ _ _ h => h) (Or.inl ⟨by rfl, ?_⟩) ?_ ?_
  rotate_left
  ·intro w'
   go_simp
   with_reducible rfl
  rotate_left
  ·simp only [Act.put, Ups.sA, Ups.sZ, Ups.sS, i64_w, i32_w]
   rfl
  refine done_ (by kernel_rfl) ?_
  try go_wp2
  refine bodyPost_ret (results_list (rs := [.cell 2 26, .cell 3 28, .tmp 4]) rfl (by simp) (.cell gb101 26 #[.slice Ao11 t104.length co11, .int .i64 t107] (0, 0) _ rfl (by refine Ups.b ?_; refine bR_ ?_ NB101_102.out _; refine Ups.b ?_; refine bR_ ?_ NB101_102.out _; refine Ups.b ?_; refine blk_put (cs := #[.slice Ao11 t104.length co11, .int .i64 0]) ?_ 1 _ rfl; refine Ups.b ?_; refine blk_put (cs := #[.slice none 0 0, .int .i64 0]) ?_ 0 _ rfl; refine Ups.b ?_; exact BK101.out) Try.underlying26 rfl (by kernel_rfl) (.cell gb102 28 #[.int .i64 t108, .int .i64 t109] (0, 0) _ rfl (by refine Ups.b ?_; refine blk_put (cs := #[.int .i64 t108, .int .i64 0]) ?_ 1 _ rfl; refine Ups.b ?_; refine blk_put (cs := #[.int .i64 0, .int .i64 0]) ?_ 0 _ rfl; refine Ups.b ?_; refine bR_ ?_ NB102_101.out _; refine Ups.b ?_; refine bR_ ?_ NB102_101.out _; refine Ups.b ?_; exact BK102.out) Try.underlying28 rfl (by kernel_rfl) (.tmp .nil)))) rfl ?_
  exact ⟨_, by first | rfl | (simp [errW_none, errW_some] <;> rfl) | (simp [*, errW_none, errW_some] <;> rfl), by (repeat refine Up1.r ?_); exact Kd.rM_ (Kd.rF_ (p := ⟨gb102, 1, none⟩) (Kd.rF_ (p := ⟨gb102, 0, none⟩) (Kd.rF_ (p := ⟨gb101, 1, none⟩) (Kd.rF_ (p := ⟨gb101, 0, none⟩) (Kd.rY_ (Kd.rY_ HO106.out BK101.out (by decide)) BK102.out (by decide)) (fun _ hk => hk.1.2) (.slice Ao11 t104.length co11)) (fun _ hk => hk.1.2) (.int .i64 t107)) (fun _ hk => hk.2) (.int .i64 t108)) (fun _ hk => hk.2) (.int .i64 t109)) (fun _ hk => trivial), by repeat (first | (with_reducible first | exact HB.out | refine Up1.w ?_ | refine bS_ ?_ GE101.out | refine bS_ ?_ GE102.out | refine bS_ ?_ GE110.out | refine bS_ ?_ GE111.out) | exact HB.out)⟩
 ·rw [if_neg c3] at H
  have c3b0 : (t103 == 0) = false := beq_eq_false_iff_ne.mpr c3
  have c3b1 : (t103 != 0) = true := bne_iff_ne.mpr c3
  simp only [Option.some.injEq, Prod.mk.injEq] at H
  obtain ⟨rfl, rfl, rfl, rfl, rfl⟩ := H
  go_enter Try.func17, Try.ntmps17
  go_wp2_with (first | ((with_reducible refine gD_ (N := 2) rfl ?_); refine bE_ ?hg (N := 2) ?hd (cs := #[.slice none 0 0, .int .i64 0]) (t := 26) ?hr ?_; (case hd => rfl); (case hg => rfl); (case hr => first | (go_simp; done) | (go_simp; rfl)); intro gb101 hg w25 hbox hb; have n0_ := Az0.mk (bP_ (by exact Ups.w HB.out) hb); have n1_ := Az0.mk (hbox); have n2_ := Az0.mk ((by rw [hg]; exact (bZ_ (by exact Ups.w HB.out)) : w.heap.size ≤ gb101)); have n3_ := Az0.mk ((by rw [hg]; exact (bZ_ (by exact Ups.w HB.out)) : w.heap.size ≤ gb101)); clear HB; have HB := n0_; have BK101 := n1_; have GW101 := n2_; have GE101 := n3_; clear n0_ n1_ n2_ n3_; clear hb hbox hg) | ((with_reducible refine gD_ (N := 3) rfl ?_); refine bE_ ?hg (N := 3) ?hd (cs := #[.int .i64 0, .int .i64 0]) (t := 28) ?hr ?_; (case hd => rfl); (case hg => rfl); (case hr => first | (go_simp; done) | (go_simp; rfl)); intro gb102 hg w26 hbox hb; have n0_ := Az0.mk (bB_ (g := gb101) (o := .cells #[.slice none 0 0, .int .i64 0] 26 (0, 0)) (by refine Ups.b ?_; exact BK101.out) hb); have n1_ := Az0.mk (bP_ (by repeat (first | (with_reducible first | exact HB.out | refine Up1.w ?_ | refine bS_ ?_ GE101.out) | exact HB.out)) hb); have n2_ := Az0.mk (hbox); have n3_ := Az0.mk ((by rw [hg]; exact (bZ_ (by repeat (first | (with_reducible first | exact HB.out | refine Up1.w ?_ | refine bS_ ?_ GE101.out) | exact HB.out))) : w.heap.size ≤ gb102)); have n4_ := Az0.mk ((by rw [hg]; exact (bZ_ (by repeat (first | (with_reducible first | exact HB.out | refine Up1.w ?_ | refine bS_ ?_ GE101.out) | exact HB.out))) : w.heap.size ≤ gb102)); have n5_ := Az0.mk ((by rw [hg]; exact Nat.ne_of_lt (bL_ (g := gb101) (o := .cells #[.slice none 0 0, .int .i64 0] 26 (0, 0)) (by refine Ups.b ?_; exact BK101.out)) : gb101 ≠ gb102)); have n6_ := Az0.mk ((by rw [hg]; exact Nat.ne_of_gt (bL_ (g := gb101) (o := .cells #[.slice none 0 0, .int .i64 0] 26 (0, 0)) (by refine Ups.b ?_; exact BK101.out)) : gb102 ≠ gb101)); clear BK101; clear HB; have BK101 := n0_; have HB := n1_; have BK102 := n2_; have GW102 := n3_; have GE102 := n4_; have NB101_102 := n5_; have NB102_101 := n6_; clear n0_ n1_ n2_ n3_ n4_ n5_ n6_; clear hb hbox hg) | ((with_reducible refine gate_callee (f := 48) rfl ?_); refine goesL_ (some 9) rfl rfl Try.func48 (by kernel_rfl) rfl #[.slice A0 l0.length c0] rfl (by (try simp only [List.map_toArray, List.map_cons, List.map_nil]); first | done | rfl | (simp only [List.length_drop, List.length_take]; rfl)) ?_; (with_reducible refine (jam_stream.calls _ _ l0 t103 _ ?side1 ?side2 A2.out).mono ?_); (case side1 => repeat (first | exact (Kd.C_below HR0.out HB.out) | refine Up1.c ?_)); (case side2 => exact HC0.out); rintro e w27 ⟨rfl, hb⟩; refine ⟨_, rfl, ?_⟩; have n0_ := Az0.mk (bB_ (g := gb101) (o := .cells #[.slice none 0 0, .int .i64 0] 26 (0, 0)) (by refine Ups.b ?_; exact BK101.out) hb); have n1_ := Az0.mk (bB_ (g := gb102) (o := .cells #[.int .i64 0, .int .i64 0] 28 (0, 0)) (by refine Ups.b ?_; exact BK102.out) hb); have n2_ := Az0.mk (bP_ (by repeat (first | (with_reducible first | exact HB.out | refine Up1.w ?_ | refine bS_ ?_ GE101.out | refine bS_ ?_ GE102.out) | exact HB.out)) hb); clear BK101; clear BK102; clear HB; have BK101 := n0_; have BK102 := n1_; have HB := n2_; clear n0_ n1_ n2_; (try clear hb); (try clear hb2); (try clear hk); (try clear hi); have hnb28 := NB101_102.out; have hnc28 := NB102_101.out; have hcz29_0 : w27.cell? ⟨gb101, 0, none⟩ = some (.slice none 0 0) := (bkC BK101.out 0).trans rfl; have hcz29_1 : w27.cell? ⟨gb101, 1, none⟩ = some (.int .i64 0) := (bkC BK101.out 1).trans rfl; have hfz29_0 := bF_ BK101.out 0; have hfz29_1 := bF_ BK101.out 1; have hcz30_0 : w27.cell? ⟨gb102, 0, none⟩ = some (.int .i64 0) := (bkC BK102.out 0).trans rfl; have hcz30_1 : w27.cell? ⟨gb102, 1, none⟩ = some (.int .i64 0) := (bkC BK102.out 1).trans rfl; have hfz30_0 := bF_ BK102.out 0; have hfz30_1 := bF_ BK102.out 1))
  refine bodyPost_ret (results_list (rs := [.cell 2 26, .cell 3 28, .tmp 4]) rfl (by simp) (.cell gb101 26 #[.slice none 0 0, .int .i64 0] (0, 0) _ rfl (by refine Ups.b ?_; refine bR_ ?_ NB101_102.out _; refine Ups.b ?_; refine bR_ ?_ NB101_102.out _; refine Ups.b ?_; refine blk_put (cs := #[.slice none 0 0, .int .i64 0]) ?_ 1 _ rfl; refine Ups.b ?_; refine blk_put (cs := #[.slice none 0 0, .int .i64 0]) ?_ 0 _ rfl; refine Ups.b ?_; exact BK101.out) Try.underlying26 rfl (by kernel_rfl) (.cell gb102 28 #[.int .i64 0, .int .i64 0] (0, 0) _ rfl (by refine Ups.b ?_; refine blk_put (cs := #[.int .i64 0, .int .i64 0]) ?_ 1 _ rfl; refine Ups.b ?_; refine blk_put (cs := #[.int .i64 0, .int .i64 0]) ?_ 0 _ rfl; refine Ups.b ?_; refine bR_ ?_ NB102_101.out _; refine Ups.b ?_; refine bR_ ?_ NB102_101.out _; refine Ups.b ?_; exact BK102.out) Try.underlying28 rfl (by kernel_rfl) (.tmp .nil)))) rfl ?_
  exact ⟨_, by first | rfl | (simp [errW_none, errW_some] <;> rfl) | (simp [*, errW_none, errW_some] <;> rfl), by first | exact Kd.R_nil _ _ _ _ _ | exact Kd.N_nil _ _ _ _ _ | exact Kd.V_nil _ _ _ _ _ | exact Kd.Q_nil _ _ _ _ _ | exact Kd.S_nil _ _ _ _ _, by repeat (first | (with_reducible first | exact HB.out | refine Up1.w ?_ | refine bS_ ?_ GE101.out | refine bS_ ?_ GE102.out) | exact HB.out)⟩
def jCh_.f (k : Nat) (l0 : List (S36)) : Option (List Int × Int × Int × Int × Int) := (jam_stream.f l0).bind fun t114 => (if t114 = 0 then ((jBa.f k l0 2).bind fun bt115 => ((jam_delay.f k l0 bt115.1 bt115.2.1).bind fun bt123 => (some (bt115.1, bt115.2.1, bt123.1, bt123.2, 0)))) else (some (([] : List Int), 0, 0, 0, t114)))
theorem jCh_.mono : ∀ a0 k, LeO (jCh_.f k a0) (jCh_.f (k + 1) a0) := by
  intro a0 k
  unfold jCh_.f
  repeat' first
      | (with_reducible exact jBa.mono _ _ _)
      | (with_reducible exact jam_delay.mono _ _ _ _)
      | (with_reducible exact LeO.refl _)
      | (with_reducible exact LeO.none _)
      | (with_reducible refine LeO.ite ?_ ?_)
      | (with_reducible refine LeO.bind ?_ (fun _ => ?_))
      | exact jBa.mono _ _ _
      | exact jam_delay.mono _ _ _ _
      | exact LeO.none _
      | refine LeO.ite ?_ ?_
      | refine LeO.bind ?_ (fun _ => ?_)
set_option maxHeartbeats 8000000 in
set_option maxRecDepth 100000 in
theorem jCh_.calls (k : Nat) (A0 : Option Addr) (c0 : Nat) (l0 : List (S36)) (r1 : List Int) (r2 : Int) (r3 : Int) (r4 : Int) (r5 : Int) (w : World) (hr0 : Kd.C k36 w A0 l0.length l0) (hc0 : l0.length ≤ c0) (h : jCh_.f k l0 = some (r1, r2, r3, r4, r5)) :
  Calls Try.prog 20 #[.slice A0 l0.length c0] w fun e w' => ∃ v0_ : Value, e = .returned (.tuple #[.agg #[v0_, .int .i64 r2], .agg #[.int .i64 r3, .int .i64 r4], .int .i64 r5]) ∧ Kd.R (Kd.int .i64) 3 w' w.heap.size (fun _ => True) v0_ r1 ∧ Below w.heap.size w w' := by
 have hu26 := Try.underlying26
 have hu28 := Try.underlying28
 have HR0 := Az0.mk hr0
 have HC0 := Az0.mk hc0
 clear hr0 hc0
 have HB := Az0.mk (Below.refl w.heap.size w)
 have H : ((jam_stream.f l0).bind fun t114 => (if t114 = 0 then ((jBa.f k l0 2).bind fun bt115 => ((jam_delay.f k l0 bt115.1 bt115.2.1).bind fun bt123 => (some (bt115.1, bt115.2.1, bt123.1, bt123.2, 0)))) else (some (([] : List Int), 0, 0, 0, t114)))) = some (r1, r2, r3, r4, r5) := h
 clear h
 replace H := Option.bind_eq_some_iff.mp H
 obtain ⟨t114, A20, H⟩ := H
 replace H : (if t114 = 0 then ((jBa.f k l0 2).bind fun bt115 => ((jam_delay.f k l0 bt115.1 bt115.2.1).bind fun bt123 => (some (bt115.1, bt115.2.1, bt123.1, bt123.2, 0)))) else (some (([] : List Int), 0, 0, 0, t114))) = some (r1, r2, r3, r4, r5) := H
 have A2 := Az0.mk A20
 clear A20
 by_cases c3 : t114 = 0
 ·rw [if_pos c3] at H
  have c3b0 : (t114 == 0) = true := beq_iff_eq.mpr c3
  have c3b1 : (t114 != 0) = false := bne_eq_false_iff_eq.mpr c3
  clear c3
  replace H := Option.bind_eq_some_iff.mp H
  obtain ⟨⟨t115, t118, t119, t120⟩, A40, H⟩ := H
  replace H : ((jam_delay.f k l0 t115 t118).bind fun bt123 => (some (t115, t118, bt123.1, bt123.2, 0))) = some (r1, r2, r3, r4, r5) := H
  have A4 := Az0.mk A40
  clear A40
  replace H := Option.bind_eq_some_iff.mp H
  obtain ⟨⟨t123, t124⟩, A50, H⟩ := H
  replace H : (some (t115, t118, t123, t124, 0)) = some (r1, r2, r3, r4, r5) := H
  have A5 := Az0.mk A50
  clear A50
  simp only [Option.some.injEq, Prod.mk.injEq] at H
  obtain ⟨rfl, rfl, rfl, rfl, rfl⟩ := H
  go_enter Try.func20, Try.ntmps20
  try go_wp2_with (first | ((with_reducible refine gD_ (N := 2) rfl ?_); refine bE_ ?hg (N := 2) ?hd (cs := #[.slice none 0 0, .int .i64 0]) (t := 26) ?hr ?_; (case hd => rfl); (case hg => rfl); (case hr => first | (go_simp; done) | (go_simp; rfl)); intro gb112 hg w6 hbox hb; have n0_ := Az0.mk (bP_ (by exact Ups.w HB.out) hb); have n1_ := Az0.mk (hbox); have n2_ := Az0.mk ((by rw [hg]; exact (bZ_ (by exact Ups.w HB.out)) : w.heap.size ≤ gb112)); have n3_ := Az0.mk ((by rw [hg]; exact (bZ_ (by exact Ups.w HB.out)) : w.heap.size ≤ gb112)); clear HB; have HB := n0_; have BK112 := n1_; have GW112 := n2_; have GE112 := n3_; clear n0_ n1_ n2_ n3_; clear hb hbox hg) | ((with_reducible refine gD_ (N := 3) rfl ?_); refine bE_ ?hg (N := 3) ?hd (cs := #[.int .i64 0, .int .i64 0]) (t := 28) ?hr ?_; (case hd => rfl); (case hg => rfl); (case hr => first | (go_simp; done) | (go_simp; rfl)); intro gb113 hg w7 hbox hb; have n0_ := Az0.mk (bB_ (g := gb112) (o := .cells #[.slice none 0 0, .int .i64 0] 26 (0, 0)) (by refine Ups.b ?_; exact BK112.out) hb); have n1_ := Az0.mk (bP_ (by repeat (first | (with_reducible first | exact HB.out | refine Up1.w ?_ | refine bS_ ?_ GE112.out) | exact HB.out)) hb); have n2_ := Az0.mk (hbox); have n3_ := Az0.mk ((by rw [hg]; exact (bZ_ (by repeat (first | (with_reducible first | exact HB.out | refine Up1.w ?_ | refine bS_ ?_ GE112.out) | exact HB.out))) : w.heap.size ≤ gb113)); have n4_ := Az0.mk ((by rw [hg]; exact (bZ_ (by repeat (first | (with_reducible first | exact HB.out | refine Up1.w ?_ | refine bS_ ?_ GE112.out) | exact HB.out))) : w.heap.size ≤ gb113)); have n5_ := Az0.mk ((by rw [hg]; exact Nat.ne_of_lt (bL_ (g := gb112) (o := .cells #[.slice none 0 0, .int .i64 0] 26 (0, 0)) (by refine Ups.b ?_; exact BK112.out)) : gb112 ≠ gb113)); have n6_ := Az0.mk ((by rw [hg]; exact Nat.ne_of_gt (bL_ (g := gb112) (o := .cells #[.slice none 0 0, .int .i64 0] 26 (0, 0)) (by refine Ups.b ?_; exact BK112.out)) : gb113 ≠ gb112)); clear BK112; clear HB; have BK112 := n0_; have HB := n1_; have BK113 := n2_; have GW113 := n3_; have GE113 := n4_; have NB112_113 := n5_; have NB113_112 := n6_; clear n0_ n1_ n2_ n3_ n4_ n5_ n6_; clear hb hbox hg) | ((with_reducible refine gate_callee (f := 48) rfl ?_); refine goesL_ (some 9) rfl rfl Try.func48 (by kernel_rfl) rfl #[.slice A0 l0.length c0] rfl (by (try simp only [List.map_toArray, List.map_cons, List.map_nil]); first | done | rfl | (simp only [List.length_drop, List.length_take]; rfl)) ?_; (with_reducible refine (jam_stream.calls _ _ l0 t114 _ ?side1 ?side2 A2.out).mono ?_); (case side1 => repeat (first | exact (Kd.C_below HR0.out HB.out) | refine Up1.c ?_)); (case side2 => exact HC0.out); rintro e w8 ⟨rfl, hb⟩; refine ⟨_, rfl, ?_⟩; have n0_ := Az0.mk (bB_ (g := gb112) (o := .cells #[.slice none 0 0, .int .i64 0] 26 (0, 0)) (by refine Ups.b ?_; exact BK112.out) hb); have n1_ := Az0.mk (bB_ (g := gb113) (o := .cells #[.int .i64 0, .int .i64 0] 28 (0, 0)) (by refine Ups.b ?_; exact BK113.out) hb); have n2_ := Az0.mk (bP_ (by repeat (first | (with_reducible first | exact HB.out | refine Up1.w ?_ | refine bS_ ?_ GE112.out | refine bS_ ?_ GE113.out) | exact HB.out)) hb); clear BK112; clear BK113; clear HB; have BK112 := n0_; have BK113 := n1_; have HB := n2_; clear n0_ n1_ n2_; (try clear hb); (try clear hb2); (try clear hk); (try clear hi)) | ((with_reducible refine gate_callee (f := 49) rfl ?_); refine goesL_ (some 17) rfl rfl Try.func49 (by kernel_rfl) rfl #[.slice A0 l0.length c0, .int .i64 2] rfl (by (try simp only [List.map_toArray, List.map_cons, List.map_nil]); first | done | rfl | (simp only [List.length_drop, List.length_take]; rfl)) ?_; (with_reducible refine (jBa.calls k _ _ l0 2 t115 t118 t119 t120 _ ?side1 ?side2 A4.out).mono ?_); (case side1 => repeat (first | exact (Kd.C_below HR0.out HB.out) | refine Up1.c ?_)); (case side2 => exact HC0.out); rintro e w9 ⟨v116, rfl, ho0, hb⟩; refine ⟨_, rfl, ?_⟩; have n0_ := Az0.mk (Kd.R_lower ho0 (bZ_ (by repeat (first | (with_reducible first | exact HB.out | refine Up1.w ?_ | refine bS_ ?_ GE112.out | refine bS_ ?_ GE113.out) | exact HB.out)))); have n1_ := Az0.mk (bB_ (g := gb112) (o := .cells #[.slice none 0 0, .int .i64 0] 26 (0, 0)) (by refine Ups.b ?_; exact BK112.out) hb); have n2_ := Az0.mk (bB_ (g := gb113) (o := .cells #[.int .i64 0, .int .i64 0] 28 (0, 0)) (by refine Ups.b ?_; exact BK113.out) hb); have n3_ := Az0.mk (bP_ (by repeat (first | (with_reducible first | exact HB.out | refine Up1.w ?_ | refine bS_ ?_ GE112.out | refine bS_ ?_ GE113.out) | exact HB.out)) hb); clear BK112; clear BK113; clear HB; have HO117 := n0_; have BK112 := n1_; have BK113 := n2_; have HB := n3_; clear n0_ n1_ n2_ n3_; (try clear hb); (try clear hb2); (try clear hk); (try clear hi); (try clear ho0)) | ((with_reducible refine gD_ (N := 6) rfl ?_); refine bE_ ?hg (N := 6) ?hd (cs := #[.slice none 0 0, .int .i64 0]) (t := 26) ?hr ?_; (case hd => rfl); (case hg => rfl); (case hr => first | (go_simp; done) | (go_simp; rfl)); intro gb121 hg w10 hbox hb; have n0_ := Az0.mk (Kd.rW_ (by (repeat refine Up1.r ?_); exact HO117.out) hb); have n1_ := Az0.mk (bB_ (g := gb112) (o := .cells #[.slice none 0 0, .int .i64 0] 26 (0, 0)) (by refine Ups.b ?_; exact BK112.out) hb); have n2_ := Az0.mk (bB_ (g := gb113) (o := .cells #[.int .i64 0, .int .i64 0] 28 (0, 0)) (by refine Ups.b ?_; exact BK113.out) hb); have n3_ := Az0.mk (bP_ (by repeat (first | (with_reducible first | exact HB.out | refine Up1.w ?_ | refine bS_ ?_ GE112.out | refine bS_ ?_ GE113.out) | exact HB.out)) hb); have n4_ := Az0.mk (hbox); have n5_ := Az0.mk ((by rw [hg]; exact (bZ_ (by repeat (first | (with_reducible first | exact HB.out | refine Up1.w ?_ | refine bS_ ?_ GE112.out | refine bS_ ?_ GE113.out) | exact HB.out))) : w.heap.size ≤ gb121)); have n6_ := Az0.mk ((by rw [hg]; exact (bZ_ (by repeat (first | (with_reducible first | exact HB.out | refine Up1.w ?_ | refine bS_ ?_ GE112.out | refine bS_ ?_ GE113.out) | exact HB.out))) : w.heap.size ≤ gb121)); have n7_ := Az0.mk ((by rw [hg]; exact Nat.ne_of_lt (bL_ (g := gb112) (o := .cells #[.slice none 0 0, .int .i64 0] 26 (0, 0)) (by refine Ups.b ?_; exact BK112.out)) : gb112 ≠ gb121)); have n8_ := Az0.mk ((by rw [hg]; exact Nat.ne_of_gt (bL_ (g := gb112) (o := .cells #[.slice none 0 0, .int .i64 0] 26 (0, 0)) (by refine Ups.b ?_; exact BK112.out)) : gb121 ≠ gb112)); have n9_ := Az0.mk ((by rw [hg]; exact Nat.ne_of_lt (bL_ (g := gb113) (o := .cells #[.int .i64 0, .int .i64 0] 28 (0, 0)) (by refine Ups.b ?_; exact BK113.out)) : gb113 ≠ gb121)); have n10_ := Az0.mk ((by rw [hg]; exact Nat.ne_of_gt (bL_ (g := gb113) (o := .cells #[.int .i64 0, .int .i64 0] 28 (0, 0)) (by refine Ups.b ?_; exact BK113.out)) : gb121 ≠ gb113)); clear HO117; clear BK112; clear BK113; clear HB; have HO117 := n0_; have BK112 := n1_; have BK113 := n2_; have HB := n3_; have BK121 := n4_; have GW121 := n5_; have GE121 := n6_; have NB112_121 := n7_; have NB121_112 := n8_; have NB113_121 := n9_; have NB121_113 := n10_; clear n0_ n1_ n2_ n3_ n4_ n5_ n6_ n7_ n8_ n9_ n10_; clear hb hbox hg) | ((with_reducible refine gD_ (N := 7) rfl ?_); refine bE_ ?hg (N := 7) ?hd (cs := #[.int .i64 0, .int .i64 0]) (t := 28) ?hr ?_; (case hd => rfl); (case hg => rfl); (case hr => first | (go_simp; done) | (go_simp; rfl)); intro gb122 hg w11 hbox hb; have n0_ := Az0.mk (Kd.rW_ (by (repeat refine Up1.r ?_); exact HO117.out) hb); have n1_ := Az0.mk (bB_ (g := gb112) (o := .cells #[.slice none 0 0, .int .i64 0] 26 (0, 0)) (by refine Ups.b ?_; exact BK112.out) hb); have n2_ := Az0.mk (bB_ (g := gb113) (o := .cells #[.int .i64 0, .int .i64 0] 28 (0, 0)) (by refine Ups.b ?_; exact BK113.out) hb); have n3_ := Az0.mk (bB_ (g := gb121) (o := .cells #[.slice none 0 0, .int .i64 0] 26 (0, 0)) (by refine Ups.b ?_; exact BK121.out) hb); have n4_ := Az0.mk (bP_ (by repeat (first | (with_reducible first | exact HB.out | refine Up1.w ?_ | refine bS_ ?_ GE112.out | refine bS_ ?_ GE113.out | refine bS_ ?_ GE121.out) | exact HB.out)) hb); have n5_ := Az0.mk (hbox); have n6_ := Az0.mk ((by rw [hg]; exact (bZ_ (by repeat (first | (with_reducible first | exact HB.out | refine Up1.w ?_ | refine bS_ ?_ GE112.out | refine bS_ ?_ GE113.out | refine bS_ ?_ GE121.out) | exact HB.out))) : w.heap.size ≤ gb122)); have n7_ := Az0.mk ((by rw [hg]; exact (bZ_ (by repeat (first | (with_reducible first | exact HB.out | refine Up1.w ?_ | refine bS_ ?_ GE112.out | refine bS_ ?_ GE113.out | refine bS_ ?_ GE121.out) | exact HB.out))) : w.heap.size ≤ gb122)); have n8_ := Az0.mk ((by rw [hg]; exact Nat.ne_of_lt (bL_ (g := gb112) (o := .cells #[.slice none 0 0, .int .i64 0] 26 (0, 0)) (by refine Ups.b ?_; exact BK112.out)) : gb112 ≠ gb122)); have n9_ := Az0.mk ((by rw [hg]; exact Nat.ne_of_gt (bL_ (g := gb112) (o := .cells #[.slice none 0 0, .int .i64 0] 26 (0, 0)) (by refine Ups.b ?_; exact BK112.out)) : gb122 ≠ gb112)); have n10_ := Az0.mk ((by rw [hg]; exact Nat.ne_of_lt (bL_ (g := gb113) (o := .cells #[.int .i64 0, .int .i64 0] 28 (0, 0)) (by refine Ups.b ?_; exact BK113.out)) : gb113 ≠ gb122)); have n11_ := Az0.mk ((by rw [hg]; exact Nat.ne_of_gt (bL_ (g := gb113) (o := .cells #[.int .i64 0, .int .i64 0] 28 (0, 0)) (by refine Ups.b ?_; exact BK113.out)) : gb122 ≠ gb113)); have n12_ := Az0.mk ((by rw [hg]; exact Nat.ne_of_lt (bL_ (g := gb121) (o := .cells #[.slice none 0 0, .int .i64 0] 26 (0, 0)) (by refine Ups.b ?_; exact BK121.out)) : gb121 ≠ gb122)); have n13_ := Az0.mk ((by rw [hg]; exact Nat.ne_of_gt (bL_ (g := gb121) (o := .cells #[.slice none 0 0, .int .i64 0] 26 (0, 0)) (by refine Ups.b ?_; exact BK121.out)) : gb122 ≠ gb121)); clear HO117; clear BK112; clear BK113; clear BK121; clear HB; have HO117 := n0_; have BK112 := n1_; have BK113 := n2_; have BK121 := n3_; have HB := n4_; have BK122 := n5_; have GW122 := n6_; have GE122 := n7_; have NB112_122 := n8_; have NB122_112 := n9_; have NB113_122 := n10_; have NB122_113 := n11_; have NB121_122 := n12_; have NB122_121 := n13_; clear n0_ n1_ n2_ n3_ n4_ n5_ n6_ n7_ n8_ n9_ n10_ n11_ n12_ n13_; clear hb hbox hg; obtain ⟨Ao12, co12, eo12⟩ := Kd.R_slice HO117.out; subst eo12; have hnb13 := NB121_112.out; have hnc13 := NB112_121.out; have hnb14 := NB121_113.out; have hnc14 := NB113_121.out; have hnb15 := NB121_122.out; have hnc15 := NB122_121.out; have hcz16_0 : w11.cell? ⟨gb121, 0, none⟩ = some (.slice none 0 0) := (bkC BK121.out 0).trans rfl; have hcz16_1 : w11.cell? ⟨gb121, 1, none⟩ = some (.int .i64 0) := (bkC BK121.out 1).trans rfl; have hfz16_0 := bF_ BK121.out 0; have hfz16_1 := bF_ BK121.out 1; have hnb17 := NB122_112.out; have hnc17 := NB112_122.out; have hnb18 := NB122_113.out; have hnc18 := NB113_122.out; have hcz19_0 : w11.cell? ⟨gb122, 0, none⟩ = some (.int .i64 0) := (bkC BK122.out 0).trans rfl; have hcz19_1 : w11.cell? ⟨gb122, 1, none⟩ = some (.int .i64 0) := (bkC BK122.out 1).trans rfl; have hfz19_0 := bF_ BK122.out 0; have hfz19_1 := bF_ BK122.out 1))
  have n0_ : Az0 (Kd.R (Kd.int .i64) 3 ((((w11.setCell ⟨gb121, 0, none⟩ (.slice Ao12 t115.length co12)).setCell ⟨gb121, 1, none⟩ (.int .i64 t118)).setCell ⟨gb122, 0, none⟩ (.int .i64 t119)).setCell ⟨gb122, 1, none⟩ (.int .i64 t120)) w.heap.size (fun _ => True) (.slice Ao12 t115.length co12) t115) := ⟨by (repeat refine Up1.r ?_); exact Kd.rM_ (Kd.rF_ (p := ⟨gb122, 1, none⟩) (Kd.rF_ (p := ⟨gb122, 0, none⟩) (Kd.rF_ (p := ⟨gb121, 1, none⟩) (Kd.rF_ (p := ⟨gb121, 0, none⟩) (Kd.rY_ (Kd.rY_ HO117.out BK121.out (by decide)) BK122.out (by decide)) (fun _ hk => hk.1.2) (.slice Ao12 t115.length co12)) (fun _ hk => hk.1.2) (.int .i64 t118)) (fun _ hk => hk.2) (.int .i64 t119)) (fun _ hk => hk.2) (.int .i64 t120)) (fun _ hk => trivial)⟩
  have n1_ : Az0 (((((w11.setCell ⟨gb121, 0, none⟩ (.slice Ao12 t115.length co12)).setCell ⟨gb121, 1, none⟩ (.int .i64 t118)).setCell ⟨gb122, 0, none⟩ (.int .i64 t119)).setCell ⟨gb122, 1, none⟩ (.int .i64 t120)).heap[gb112]? = some (.cells #[.slice none 0 0, .int .i64 0] 26 (0, 0))) := ⟨by refine Ups.b ?_; refine bR_ ?_ NB112_122.out _; refine Ups.b ?_; refine bR_ ?_ NB112_122.out _; refine Ups.b ?_; refine bR_ ?_ NB112_121.out _; refine Ups.b ?_; refine bR_ ?_ NB112_121.out _; refine Ups.b ?_; exact BK112.out⟩
  have n2_ : Az0 (((((w11.setCell ⟨gb121, 0, none⟩ (.slice Ao12 t115.length co12)).setCell ⟨gb121, 1, none⟩ (.int .i64 t118)).setCell ⟨gb122, 0, none⟩ (.int .i64 t119)).setCell ⟨gb122, 1, none⟩ (.int .i64 t120)).heap[gb113]? = some (.cells #[.int .i64 0, .int .i64 0] 28 (0, 0))) := ⟨by refine Ups.b ?_; refine bR_ ?_ NB113_122.out _; refine Ups.b ?_; refine bR_ ?_ NB113_122.out _; refine Ups.b ?_; refine bR_ ?_ NB113_121.out _; refine Ups.b ?_; refine bR_ ?_ NB113_121.out _; refine Ups.b ?_; exact BK113.out⟩
  have n3_ : Az0 (((((w11.setCell ⟨gb121, 0, none⟩ (.slice Ao12 t115.length co12)).setCell ⟨gb121, 1, none⟩ (.int .i64 t118)).setCell ⟨gb122, 0, none⟩ (.int .i64 t119)).setCell ⟨gb122, 1, none⟩ (.int .i64 t120)).heap[gb121]? = some (.cells #[.slice Ao12 t115.length co12, .int .i64 t118] 26 (0, 0))) := ⟨by refine Ups.b ?_; refine bR_ ?_ NB121_122.out _; refine Ups.b ?_; refine bR_ ?_ NB121_122.out _; refine Ups.b ?_; refine blk_put (cs := #[.slice Ao12 t115.length co12, .int .i64 0]) ?_ 1 _ rfl; refine Ups.b ?_; refine blk_put (cs := #[.slice none 0 0, .int .i64 0]) ?_ 0 _ rfl; refine Ups.b ?_; exact BK121.out⟩
  have n4_ : Az0 (((((w11.setCell ⟨gb121, 0, none⟩ (.slice Ao12 t115.length co12)).setCell ⟨gb121, 1, none⟩ (.int .i64 t118)).setCell ⟨gb122, 0, none⟩ (.int .i64 t119)).setCell ⟨gb122, 1, none⟩ (.int .i64 t120)).heap[gb122]? = some (.cells #[.int .i64 t119, .int .i64 t120] 28 (0, 0))) := ⟨by refine Ups.b ?_; refine blk_put (cs := #[.int .i64 t119, .int .i64 0]) ?_ 1 _ rfl; refine Ups.b ?_; refine blk_put (cs := #[.int .i64 0, .int .i64 0]) ?_ 0 _ rfl; refine Ups.b ?_; refine bR_ ?_ NB122_121.out _; refine Ups.b ?_; refine bR_ ?_ NB122_121.out _; refine Ups.b ?_; exact BK122.out⟩
  have n5_ : Az0 (Below w.heap.size w ((((w11.setCell ⟨gb121, 0, none⟩ (.slice Ao12 t115.length co12)).setCell ⟨gb121, 1, none⟩ (.int .i64 t118)).setCell ⟨gb122, 0, none⟩ (.int .i64 t119)).setCell ⟨gb122, 1, none⟩ (.int .i64 t120))) := ⟨by repeat (first | (with_reducible first | exact HB.out | refine Up1.w ?_ | refine bS_ ?_ GE112.out | refine bS_ ?_ GE113.out | refine bS_ ?_ GE121.out | refine bS_ ?_ GE122.out) | exact HB.out)⟩
  (try clear HO117)
  (try clear BK112)
  (try clear BK113)
  (try clear BK121)
  (try clear BK122)
  (try clear HB)
  generalize ((((w11.setCell ⟨gb121, 0, none⟩ (.slice Ao12 t115.length co12)).setCell ⟨gb121, 1, none⟩ (.int .i64 t118)).setCell ⟨gb122, 0, none⟩ (.int .i64 t119)).setCell ⟨gb122, 1, none⟩ (.int .i64 t120)) = w20 at n0_ n1_ n2_ n3_ n4_ n5_ ⊢
  have HO117 := n0_
  have BK112 := n1_
  have BK113 := n2_
  have BK121 := n3_
  have BK122 := n4_
  have HB := n5_
  clear n0_ n1_ n2_ n3_ n4_ n5_
  have n0_ := Az0.mk (Kd.R_drew HO117.out)
  have n1_ := Az0.mk (bW_ BK112.out)
  have n2_ := Az0.mk (bW_ BK113.out)
  have n3_ := Az0.mk (bW_ BK121.out)
  have n4_ := Az0.mk (bW_ BK122.out)
  have n5_ := Az0.mk (bD1_ HB.out)
  clear HO117
  clear BK112
  clear BK113
  clear BK121
  clear BK122
  clear HB
  have HO117 := n0_
  have BK112 := n1_
  have BK113 := n2_
  have BK121 := n3_
  have BK122 := n4_
  have HB := n5_
  clear n0_ n1_ n2_ n3_ n4_ n5_
  refine start_ (n := 7) (S := fun w' => w'.cell? ⟨gb121, 0, none⟩ = some (.slice Ao12 t115.length co12) ∧ w'.cell? ⟨gb121, 1, none⟩ = some (.int .i64 t118)) (ds := []) #[false, false, false, false, false, false, false] (by kernel_rfl) rfl rfl ⟨(bkC BK121.out 0).trans rfl, (bkC BK121.out 1).trans rfl⟩ (fun hHeld => ?_)
  generalize w20.drew = w21 at HO117 BK112 BK113 BK121 BK122 HB hHeld ⊢
  refine pure_ (i := 1) (N := some 21) (v := ?_) (a' := ?_) #[false, true, false, false, false, false, false] rfl rfl (by kernel_rfl) (fun _ _ _ h => h) (Or.inl ⟨by rfl, ?_⟩) ?_ ?_
  rotate_left
  ·intro w'
   go_simp
   with_reducible rfl
  rotate_left
  ·simp only [Act.put, Ups.sA, Ups.sZ, Ups.sS, i64_w, i32_w]
   rfl
  refine take_ (i := 0) (N := some 20) (v := ?_) (a' := ?_) #[true, true, false, false, false, false, false] rfl rfl (by kernel_rfl) (fun _ _ _ h => h) (Or.inl ⟨by rfl, ?_⟩) hHeld ?_ ?_
  rotate_left
  ·rintro w' ⟨s0, s1⟩
   go_simp
   with_reducible rfl
  rotate_left
  ·simp only [Act.put, Ups.sA, Ups.sZ, Ups.sS, i64_w, i32_w]
   rfl
  refine take_ (i := 2) (N := some 22) (v := ?_) (a' := ?_) #[true, true, true, false, false, false, false] rfl rfl (by kernel_rfl) (fun _ _ _ h => h) (Or.inl ⟨by rfl, ?_⟩) hHeld ?_ ?_
  rotate_left
  ·rintro w' ⟨s0, s1⟩
   go_simp
   with_reducible rfl
  rotate_left
  ·simp only [Act.put, Ups.sA, Ups.sZ, Ups.sS, i64_w, i32_w]
   rfl
  refine one_ (i := 3) (N := some 23) #[true, true, true, true, false, false, false] rfl rfl (by kernel_rfl) (by decide) (fun K hK => ?_)
  refine goes_ Try.func52 (by kernel_rfl) rfl #[.slice A0 l0.length c0, .agg #[.slice Ao12 t115.length co12, .int .i64 t118]] (by rfl) rfl rfl (by (try simp only [List.map_toArray, List.map_cons, List.map_nil]); first | done | rfl | (simp only [List.length_drop, List.length_take]; rfl)) ?_
  with_reducible refine (jam_delay.calls k _ _ l0 _ _ t115 t118 t123 t124 _ ?side1 ?side2 ?side3 ?side4 A5.out).mono ?_
  (case side1 => repeat (first | exact (Kd.C_below HR0.out HB.out) | refine Up1.c ?_))
  (case side2 => exact HC0.out)
  (case side3 => repeat (first | exact (Kd.R_reads' HO117.out).2.2 | refine Up1.c ?_))
  (case side4 => exact (Kd.R_reads' HO117.out).2.1)
  rintro e w22 ⟨rfl, hb⟩
  refine ⟨_, rfl, ?_⟩
  have n0_ := Az0.mk (Kd.rW_ (by (repeat refine Up1.r ?_); exact HO117.out) hb)
  have n1_ := Az0.mk (bB_ (g := gb112) (o := .cells #[.slice none 0 0, .int .i64 0] 26 (0, 0)) (by refine Ups.b ?_; exact BK112.out) hb)
  have n2_ := Az0.mk (bB_ (g := gb113) (o := .cells #[.int .i64 0, .int .i64 0] 28 (0, 0)) (by refine Ups.b ?_; exact BK113.out) hb)
  have n3_ := Az0.mk (bB_ (g := gb121) (o := .cells #[.slice Ao12 t115.length co12, .int .i64 t118] 26 (0, 0)) (by refine Ups.b ?_; exact BK121.out) hb)
  have n4_ := Az0.mk (bB_ (g := gb122) (o := .cells #[.int .i64 t119, .int .i64 t120] 28 (0, 0)) (by refine Ups.b ?_; exact BK122.out) hb)
  have n5_ := Az0.mk (bP_ (by repeat (first | (with_reducible first | exact HB.out | refine Up1.w ?_ | refine bS_ ?_ GE112.out | refine bS_ ?_ GE113.out | refine bS_ ?_ GE121.out | refine bS_ ?_ GE122.out) | exact HB.out)) hb)
  clear HO117
  clear BK112
  clear BK113
  clear BK121
  clear BK122
  clear HB
  have HO117 := n0_
  have BK112 := n1_
  have BK113 := n2_
  have BK121 := n3_
  have BK122 := n4_
  have HB := n5_
  clear n0_ n1_ n2_ n3_ n4_ n5_
  (try clear hb)
  (try clear hb2)
  (try clear hk)
  (try clear hi)
  refine hK.out _ _ ⟨(bkC BK121.out 0).trans rfl, (bkC BK121.out 1).trans rfl⟩ (fun hHeld => ?_)
  clear hK K
  refine norm_ (a' := ?_) ?_ ?_
  rotate_left
  ·show Act.put _ (some 23) _ = _
   simp only [Act.put, Ups.sA, Ups.sZ, Ups.sS, i64_w, i32_w]
   rfl
  refine one_ (i := 4) (N := none) #[true, true, true, true, true, false, false] rfl rfl (by kernel_rfl) (by decide) (fun K hK => ?_)
  have hs23 : w22.cell? ⟨gb112, 0, none⟩ = some (.slice none 0 0) := (bkC BK112.out 0).trans rfl
  have hfs23 := bF_ BK112.out 0
  have hns23_1 := NB113_112.out
  have hns23_2 := NB121_112.out
  have hns23_3 := NB122_112.out
  have hms23_1 := NB112_113.out
  have hms23_2 := NB112_121.out
  have hms23_3 := NB112_122.out
  have hs24 : w22.cell? ⟨gb112, 1, none⟩ = some (.int .i64 0) := (bkC BK112.out 1).trans rfl
  have hfs24 := bF_ BK112.out 1
  have hns24_1 := NB113_112.out
  have hns24_2 := NB121_112.out
  have hns24_3 := NB122_112.out
  have hms24_1 := NB112_113.out
  have hms24_2 := NB112_121.out
  have hms24_3 := NB112_122.out
  refine skip_ (w1 := ?_) (by rfl) rfl ?_ ?_
  rotate_left
  ·go_simp
   rfl
  refine hK.out _ _ ⟨((cell_far (p := ⟨gb112, _, none⟩) NB121_112.out _).trans (((cell_far (p := ⟨gb112, _, none⟩) NB121_112.out _).trans (hHeld.1)))), ((cell_far (p := ⟨gb112, _, none⟩) NB121_112.out _).trans (((cell_far (p := ⟨gb112, _, none⟩) NB121_112.out _).trans (hHeld.2))))⟩ (fun hHeld => ?_)
  clear hK K
  refine one_ (i := 5) (N := none) #[true, true, true, true, true, true, false] rfl rfl (by kernel_rfl) (by decide) (fun K hK => ?_)
  have hs25 : w22.cell? ⟨gb113, 0, none⟩ = some (.int .i64 0) := (bkC BK113.out 0).trans rfl
  have hfs25 := bF_ BK113.out 0
  have hns25_0 := NB112_113.out
  have hns25_2 := NB121_113.out
  have hns25_3 := NB122_113.out
  have hms25_0 := NB113_112.out
  have hms25_2 := NB113_121.out
  have hms25_3 := NB113_122.out
  have hs26 : w22.cell? ⟨gb113, 1, none⟩ = some (.int .i64 0) := (bkC BK113.out 1).trans rfl
  have hfs26 := bF_ BK113.out 1
  have hns26_0 := NB112_113.out
  have hns26_2 := NB121_113.out
  have hns26_3 := NB122_113.out
  have hms26_0 := NB113_112.out
  have hms26_2 := NB113_121.out
  have hms26_3 := NB113_122.out
  refine skip_ (w1 := ?_) (by rfl) rfl ?_ ?_
  rotate_left
  ·go_simp
   rfl
  refine hK.out _ _ ⟨((cell_far (p := ⟨gb113, _, none⟩) NB121_113.out _).trans (((cell_far (p := ⟨gb113, _, none⟩) NB121_113.out _).trans (hHeld.1)))), ((cell_far (p := ⟨gb113, _, none⟩) NB121_113.out _).trans (((cell_far (p := ⟨gb113, _, none⟩) NB121_113.out _).trans (hHeld.2))))⟩ (fun hHeld => ?_)
  clear hK K
  refine pure_ (i := 6) (N := some 4) (v := ?_) (a' := ?_) #[true, true, true, true, true, true, true] rfl rfl (by kernel_rfl) (fun _ _ _ h => h) (Or.inl ⟨by rfl, ?_⟩) ?_ ?_
  rotate_left
  ·intro w'
   go_simp
   with_reducible rfl
  rotate_left
  ·simp only [Act.put, Ups.sA, Ups.sZ, Ups.sS, i64_w, i32_w]
   rfl
  refine done_ (by kernel_rfl) ?_
  try go_wp2
  refine bodyPost_ret (results_list (rs := [.cell 2 26, .cell 3 28, .tmp 4]) rfl (by simp) (.cell gb112 26 #[.slice Ao12 t115.length co12, .int .i64 t118] (0, 0) _ rfl (by refine Ups.b ?_; refine bR_ ?_ NB112_113.out _; refine Ups.b ?_; refine bR_ ?_ NB112_113.out _; refine Ups.b ?_; refine blk_put (cs := #[.slice Ao12 t115.length co12, .int .i64 0]) ?_ 1 _ rfl; refine Ups.b ?_; refine blk_put (cs := #[.slice none 0 0, .int .i64 0]) ?_ 0 _ rfl; refine Ups.b ?_; exact BK112.out) Try.underlying26 rfl (by kernel_rfl) (.cell gb113 28 #[.int .i64 t123, .int .i64 t124] (0, 0) _ rfl (by refine Ups.b ?_; refine blk_put (cs := #[.int .i64 t123, .int .i64 0]) ?_ 1 _ rfl; refine Ups.b ?_; refine blk_put (cs := #[.int .i64 0, .int .i64 0]) ?_ 0 _ rfl; refine Ups.b ?_; refine bR_ ?_ NB113_112.out _; refine Ups.b ?_; refine bR_ ?_ NB113_112.out _; refine Ups.b ?_; exact BK113.out) Try.underlying28 rfl (by kernel_rfl) (.tmp .nil)))) rfl ?_
  exact ⟨_, by first | rfl | (simp [errW_none, errW_some] <;> rfl) | (simp [*, errW_none, errW_some] <;> rfl), by (repeat refine Up1.r ?_); exact Kd.rM_ (Kd.rF_ (p := ⟨gb113, 1, none⟩) (Kd.rF_ (p := ⟨gb113, 0, none⟩) (Kd.rF_ (p := ⟨gb112, 1, none⟩) (Kd.rF_ (p := ⟨gb112, 0, none⟩) (Kd.rY_ (Kd.rY_ HO117.out BK112.out (by decide)) BK113.out (by decide)) (fun _ hk => hk.1.2) (.slice Ao12 t115.length co12)) (fun _ hk => hk.1.2) (.int .i64 t118)) (fun _ hk => hk.2) (.int .i64 t123)) (fun _ hk => hk.2) (.int .i64 t124)) (fun _ hk => trivial), by repeat (first | (with_reducible first | exact HB.out | refine Up1.w ?_ | refine bS_ ?_ GE112.out | refine bS_ ?_ GE113.out | refine bS_ ?_ GE121.out | refine bS_ ?_ GE122.out) | exact HB.out)⟩
 ·rw [if_neg c3] at H
  have c3b0 : (t114 == 0) = false := beq_eq_false_iff_ne.mpr c3
  have c3b1 : (t114 != 0) = true := bne_iff_ne.mpr c3
  simp only [Option.some.injEq, Prod.mk.injEq] at H
  obtain ⟨rfl, rfl, rfl, rfl, rfl⟩ := H
  go_enter Try.func20, Try.ntmps20
  go_wp2_with (first | ((with_reducible refine gD_ (N := 2) rfl ?_); refine bE_ ?hg (N := 2) ?hd (cs := #[.slice none 0 0, .int .i64 0]) (t := 26) ?hr ?_; (case hd => rfl); (case hg => rfl); (case hr => first | (go_simp; done) | (go_simp; rfl)); intro gb112 hg w27 hbox hb; have n0_ := Az0.mk (bP_ (by exact Ups.w HB.out) hb); have n1_ := Az0.mk (hbox); have n2_ := Az0.mk ((by rw [hg]; exact (bZ_ (by exact Ups.w HB.out)) : w.heap.size ≤ gb112)); have n3_ := Az0.mk ((by rw [hg]; exact (bZ_ (by exact Ups.w HB.out)) : w.heap.size ≤ gb112)); clear HB; have HB := n0_; have BK112 := n1_; have GW112 := n2_; have GE112 := n3_; clear n0_ n1_ n2_ n3_; clear hb hbox hg) | ((with_reducible refine gD_ (N := 3) rfl ?_); refine bE_ ?hg (N := 3) ?hd (cs := #[.int .i64 0, .int .i64 0]) (t := 28) ?hr ?_; (case hd => rfl); (case hg => rfl); (case hr => first | (go_simp; done) | (go_simp; rfl)); intro gb113 hg w28 hbox hb; have n0_ := Az0.mk (bB_ (g := gb112) (o := .cells #[.slice none 0 0, .int .i64 0] 26 (0, 0)) (by refine Ups.b ?_; exact BK112.out) hb); have n1_ := Az0.mk (bP_ (by repeat (first | (with_reducible first | exact HB.out | refine Up1.w ?_ | refine bS_ ?_ GE112.out) | exact HB.out)) hb); have n2_ := Az0.mk (hbox); have n3_ := Az0.mk ((by rw [hg]; exact (bZ_ (by repeat (first | (with_reducible first | exact HB.out | refine Up1.w ?_ | refine bS_ ?_ GE112.out) | exact HB.out))) : w.heap.size ≤ gb113)); have n4_ := Az0.mk ((by rw [hg]; exact (bZ_ (by repeat (first | (with_reducible first | exact HB.out | refine Up1.w ?_ | refine bS_ ?_ GE112.out) | exact HB.out))) : w.heap.size ≤ gb113)); have n5_ := Az0.mk ((by rw [hg]; exact Nat.ne_of_lt (bL_ (g := gb112) (o := .cells #[.slice none 0 0, .int .i64 0] 26 (0, 0)) (by refine Ups.b ?_; exact BK112.out)) : gb112 ≠ gb113)); have n6_ := Az0.mk ((by rw [hg]; exact Nat.ne_of_gt (bL_ (g := gb112) (o := .cells #[.slice none 0 0, .int .i64 0] 26 (0, 0)) (by refine Ups.b ?_; exact BK112.out)) : gb113 ≠ gb112)); clear BK112; clear HB; have BK112 := n0_; have HB := n1_; have BK113 := n2_; have GW113 := n3_; have GE113 := n4_; have NB112_113 := n5_; have NB113_112 := n6_; clear n0_ n1_ n2_ n3_ n4_ n5_ n6_; clear hb hbox hg) | ((with_reducible refine gate_callee (f := 48) rfl ?_); refine goesL_ (some 9) rfl rfl Try.func48 (by kernel_rfl) rfl #[.slice A0 l0.length c0] rfl (by (try simp only [List.map_toArray, List.map_cons, List.map_nil]); first | done | rfl | (simp only [List.length_drop, List.length_take]; rfl)) ?_; (with_reducible refine (jam_stream.calls _ _ l0 t114 _ ?side1 ?side2 A2.out).mono ?_); (case side1 => repeat (first | exact (Kd.C_below HR0.out HB.out) | refine Up1.c ?_)); (case side2 => exact HC0.out); rintro e w29 ⟨rfl, hb⟩; refine ⟨_, rfl, ?_⟩; have n0_ := Az0.mk (bB_ (g := gb112) (o := .cells #[.slice none 0 0, .int .i64 0] 26 (0, 0)) (by refine Ups.b ?_; exact BK112.out) hb); have n1_ := Az0.mk (bB_ (g := gb113) (o := .cells #[.int .i64 0, .int .i64 0] 28 (0, 0)) (by refine Ups.b ?_; exact BK113.out) hb); have n2_ := Az0.mk (bP_ (by repeat (first | (with_reducible first | exact HB.out | refine Up1.w ?_ | refine bS_ ?_ GE112.out | refine bS_ ?_ GE113.out) | exact HB.out)) hb); clear BK112; clear BK113; clear HB; have BK112 := n0_; have BK113 := n1_; have HB := n2_; clear n0_ n1_ n2_; (try clear hb); (try clear hb2); (try clear hk); (try clear hi); have hnb30 := NB112_113.out; have hnc30 := NB113_112.out; have hcz31_0 : w29.cell? ⟨gb112, 0, none⟩ = some (.slice none 0 0) := (bkC BK112.out 0).trans rfl; have hcz31_1 : w29.cell? ⟨gb112, 1, none⟩ = some (.int .i64 0) := (bkC BK112.out 1).trans rfl; have hfz31_0 := bF_ BK112.out 0; have hfz31_1 := bF_ BK112.out 1; have hcz32_0 : w29.cell? ⟨gb113, 0, none⟩ = some (.int .i64 0) := (bkC BK113.out 0).trans rfl; have hcz32_1 : w29.cell? ⟨gb113, 1, none⟩ = some (.int .i64 0) := (bkC BK113.out 1).trans rfl; have hfz32_0 := bF_ BK113.out 0; have hfz32_1 := bF_ BK113.out 1))
  refine bodyPost_ret (results_list (rs := [.cell 2 26, .cell 3 28, .tmp 4]) rfl (by simp) (.cell gb112 26 #[.slice none 0 0, .int .i64 0] (0, 0) _ rfl (by refine Ups.b ?_; refine bR_ ?_ NB112_113.out _; refine Ups.b ?_; refine bR_ ?_ NB112_113.out _; refine Ups.b ?_; refine blk_put (cs := #[.slice none 0 0, .int .i64 0]) ?_ 1 _ rfl; refine Ups.b ?_; refine blk_put (cs := #[.slice none 0 0, .int .i64 0]) ?_ 0 _ rfl; refine Ups.b ?_; exact BK112.out) Try.underlying26 rfl (by kernel_rfl) (.cell gb113 28 #[.int .i64 0, .int .i64 0] (0, 0) _ rfl (by refine Ups.b ?_; refine blk_put (cs := #[.int .i64 0, .int .i64 0]) ?_ 1 _ rfl; refine Ups.b ?_; refine blk_put (cs := #[.int .i64 0, .int .i64 0]) ?_ 0 _ rfl; refine Ups.b ?_; refine bR_ ?_ NB113_112.out _; refine Ups.b ?_; refine bR_ ?_ NB113_112.out _; refine Ups.b ?_; exact BK113.out) Try.underlying28 rfl (by kernel_rfl) (.tmp .nil)))) rfl ?_
  exact ⟨_, by first | rfl | (simp [errW_none, errW_some] <;> rfl) | (simp [*, errW_none, errW_some] <;> rfl), by first | exact Kd.R_nil _ _ _ _ _ | exact Kd.N_nil _ _ _ _ _ | exact Kd.V_nil _ _ _ _ _ | exact Kd.Q_nil _ _ _ _ _ | exact Kd.S_nil _ _ _ _ _, by repeat (first | (with_reducible first | exact HB.out | refine Up1.w ?_ | refine bS_ ?_ GE112.out | refine bS_ ?_ GE113.out) | exact HB.out)⟩
end Go.Proofs.Ytjgbdicbdlollaa.B
namespace Go.Proofs.Ytjgbdicbdlollaa.B
open Go.RowKit Go.Proofs.YtjgbdicbdlollaaW.PrintWords Go.Proofs.YtjgbdicbdlollaaW.PrintLast Go.Proofs.YtjgbdicbdlollaaW.PrintMore
attribute [local go_sem] max2_int min2_int max_two min_two max_three min_three max_four min_four   -- for this text's walks alone
set_option linter.unusedVariables false
set_option linter.unusedSimpArgs false
theorem eqA28 (d : Nat) (w : World) (x0 y0 : Int) (x1 y1 : Int) :
    (Op.equalIn (d + 2) 28 (.agg #[.int .i64 x0, .int .i64 x1]) (.agg #[.int .i64 y0, .int .i64 y1])).run Try.prog w = .ok (x0 == y0 && (x1 == y1)) w := by
  refine eqA_of Try.underlying28 (by kernel_rfl) ?_
  refine eqf_cons (by rfl) (by go_simp; rfl) (by go_simp; rfl) (by go_simp) ?_
  exact eqf_last (by rfl) (by go_simp; rfl) (by go_simp; rfl) (by go_simp)
end Go.Proofs.Ytjgbdicbdlollaa.B
namespace Go.Proofs.Ytjgbdicbdlollaa.B
open Go.RowKit Go.Proofs.YtjgbdicbdlollaaW.PrintWords Go.Proofs.YtjgbdicbdlollaaW.PrintLast Go.Proofs.YtjgbdicbdlollaaW.PrintMore
attribute [local go_sem] max2_int min2_int max_two min_two max_three min_three max_four min_four   -- for this text's walks alone
set_option linter.unusedVariables false
set_option linter.unusedSimpArgs false
def lSa.l0 : Nat → List Int → List Int → Int → Option (Bool)
  | 0, _, _, _ => none
  | k + 1, x0, x1, x5 => if x5 < (x0.length : Int) then (if 0 ≤ x5 then (if x5 < (x1.length : Int) then (if (rd x0 x5) = (rd x1 x5) then (lSa.l0 k x0 x1 (wrap64 (x5 + 1))) else (some false)) else (none)) else (none)) else (some true)
def lSa.f (k : Nat) (l0 : List Int) (l1 : List Int) : Option (Bool) := if (l0.length : Int) = (l1.length : Int) then (lSa.l0 k l0 l1 0) else (some false)
theorem lSa.mono_l : ∀ k, (∀ y0 y1 y2, LeO (lSa.l0 k y0 y1 y2) (lSa.l0 (k + 1) y0 y1 y2))
  | 0 => fun _ _ _ r h => by simp [lSa.l0] at h
  | k + 1 => by
    have ih0 := lSa.mono_l k
    · intro y0 y1 y2
      unfold lSa.l0
      repeat' first
      | (with_reducible exact ih0 _ _ _)
      | (with_reducible exact LeO.refl _)
      | (with_reducible exact LeO.none _)
      | (with_reducible refine LeO.ite ?_ ?_)
      | (with_reducible refine LeO.bind ?_ (fun _ => ?_))
      | exact ih0 _ _ _
      | exact LeO.none _
      | refine LeO.ite ?_ ?_
      | refine LeO.bind ?_ (fun _ => ?_)
theorem lSa.mono : ∀ a0 a1 k, LeO (lSa.f k a0 a1) (lSa.f (k + 1) a0 a1) := by
  intro a0 a1 k
  have ih0 := lSa.mono_l k
  unfold lSa.f
  repeat' first
      | (with_reducible exact ih0 _ _ _)
      | (with_reducible exact LeO.refl _)
      | (with_reducible exact LeO.none _)
      | (with_reducible refine LeO.ite ?_ ?_)
      | (with_reducible refine LeO.bind ?_ (fun _ => ?_))
      | exact ih0 _ _ _
      | exact LeO.none _
      | refine LeO.ite ?_ ?_
      | refine LeO.bind ?_ (fun _ => ?_)
set_option maxHeartbeats 8000000 in
set_option maxRecDepth 100000 in
theorem lSa.calls (k : Nat) (A0 : Option Addr) (c0 : Nat) (l0 : List Int) (A1 : Option Addr) (c1 : Nat) (l1 : List Int) (r : Bool) (w : World) (hr0 : Kd.C (Kd.int .i64) w A0 l0.length l0) (hc0 : l0.length ≤ c0) (hr1 : Kd.C (Kd.int .i64) w A1 l1.length l1) (hc1 : l1.length ≤ c1) (h : lSa.f k l0 l1 = some r) :
  Calls Try.prog 31 #[.slice A0 l0.length c0, .slice A1 l1.length c1] w fun e w' => e = .returned (.bool r) ∧ Drawn0 w w' := by
 have HR0 := Az0.mk hr0
 have HC0 := Az0.mk hc0
 clear hr0 hc0
 have HR1 := Az0.mk hr1
 have HC1 := Az0.mk hc1
 clear hr1 hc1
 have H : (if (l0.length : Int) = (l1.length : Int) then (lSa.l0 k l0 l1 0) else (some false)) = some r := h
 clear h
 by_cases c3 : (l0.length : Int) = (l1.length : Int)
 ·rw [if_pos c3] at H
  have c3b0 : ((l0.length : Int) == (l1.length : Int)) = true := beq_iff_eq.mpr c3
  have c3b1 : ((l0.length : Int) != (l1.length : Int)) = false := bne_eq_false_iff_eq.mpr c3
  have c3b2 : (l0.length == l1.length) = true := by first | simpa using c3 | (simp at c3 ⊢; omega)
  clear c3
  have H' := Az0.mk H
  clear H
  go_enter Try.func31, Try.ntmps31
  go_wp2
  repeat (go_quiet (fail); try go_wp2)
  go_loopg [5] k (fun kq v5 w' => ∃ (x5_1 : Int), v5 = .int .i64 x5_1 ∧ Az0 (lSa.l0 kq l0 l1 x5_1 = some r) ∧ Az0 (kq ≤ k) ∧ Drawn0 w w')
  case atStart => exact ⟨(0), (by first | rfl | (simp; done) | (simp [*]; done)), H', ⟨Nat.le_refl _⟩, by repeat (first | exact Drawn0.refl _ | apply Drawn0.step)⟩
  case round =>
   clear H'
   try clear c1
   try clear p2
   try clear c3
   try clear c3b0
   try clear c3b1
   try clear c3b2
   obtain ⟨x5_1, rfl, HA, HK1, ⟨m1, rfl⟩⟩ := hrel
   cases gk with
   | zero => exact absurd HA.out (by simp [lSa.l0])
   | succ k1 =>
    have H := HA.out
    clear HA
    simp only [lSa.l0] at H
    by_cases c4 : x5_1 < (l0.length : Int)
    ·rw [if_pos c4] at H
     have c4b0 : decide (x5_1 < (l0.length : Int)) = true := decide_eq_true c4
     clear c4
     by_cases c5 : 0 ≤ x5_1
     ·rw [if_pos c5] at H
      have c5b0 : decide (0 ≤ x5_1) = true := decide_eq_true c5
      clear c5
      by_cases c6 : x5_1 < (l1.length : Int)
      ·rw [if_pos c6] at H
       have c6b0 : decide (x5_1 < (l1.length : Int)) = true := decide_eq_true c6
       clear c6
       by_cases c7 : (rd l0 x5_1) = (rd l1 x5_1)
       ·rw [if_pos c7] at H
        have c7b0 : ((rd l0 x5_1) == (rd l1 x5_1)) = true := beq_iff_eq.mpr c7
        have c7b1 : ((rd l0 x5_1) != (rd l1 x5_1)) = false := bne_eq_false_iff_eq.mpr c7
        clear c7
        have H' := Az0.mk H
        clear H
        have p121 : 0 ≤ (x5_1 : Int) := of_decide_eq_true (by first | (with_reducible assumption) | assumption)
        have q121 : x5_1 < (l0.length : Int) := of_decide_eq_true (by first | (with_reducible assumption) | assumption)
        obtain ⟨ad121, e121, hx121_0⟩ := Kd.at_int HR0.out x5_1 p121 q121
        cases e121
        replace p121 := eq_true p121
        replace q121 := eq_true q121
        have p122 : 0 ≤ (x5_1 : Int) := of_decide_eq_true (by first | (with_reducible assumption) | assumption)
        have q122 : x5_1 < (l1.length : Int) := of_decide_eq_true (by first | (with_reducible assumption) | assumption)
        obtain ⟨ad122, e122, hx122_0⟩ := Kd.at_int HR1.out x5_1 p122 q122
        cases e122
        replace p122 := eq_true p122
        replace q122 := eq_true q122
        go_wp2
        repeat (go_quiet (fail); try go_wp2)
        go_roundg k1
        case measure => have := HK1.out; omega
        case rel => exact ⟨(wrap64 (x5_1 + 1)), (by first | rfl | (simp; done) | (simp [*]; done)), H', ⟨by have := HK1.out; omega⟩, by repeat (first | exact Drawn0.refl _ | apply Drawn0.step)⟩
       ·rw [if_neg c7] at H
        have c7b0 : ((rd l0 x5_1) == (rd l1 x5_1)) = false := beq_eq_false_iff_ne.mpr c7
        have c7b1 : ((rd l0 x5_1) != (rd l1 x5_1)) = true := bne_iff_ne.mpr c7
        obtain rfl := Option.some.inj H
        have p121 : 0 ≤ (x5_1 : Int) := of_decide_eq_true (by first | (with_reducible assumption) | assumption)
        have q121 : x5_1 < (l0.length : Int) := of_decide_eq_true (by first | (with_reducible assumption) | assumption)
        obtain ⟨ad121, e121, hx121_0⟩ := Kd.at_int HR0.out x5_1 p121 q121
        cases e121
        replace p121 := eq_true p121
        replace q121 := eq_true q121
        have p122 : 0 ≤ (x5_1 : Int) := of_decide_eq_true (by first | (with_reducible assumption) | assumption)
        have q122 : x5_1 < (l1.length : Int) := of_decide_eq_true (by first | (with_reducible assumption) | assumption)
        obtain ⟨ad122, e122, hx122_0⟩ := Kd.at_int HR1.out x5_1 p122 q122
        cases e122
        replace p122 := eq_true p122
        replace q122 := eq_true q122
        go_wp2
        repeat (go_quiet (fail); try go_wp2)
        go_ret
        exact ⟨by first | rfl | (simp; done) | (simp [*]; done), by repeat (first | exact Drawn0.refl _ | apply Drawn0.step)⟩
      ·rw [if_neg c6] at H
       exact absurd H (by simp)
     ·rw [if_neg c5] at H
      exact absurd H (by simp)
    ·rw [if_neg c4] at H
     have c4b0 : decide (x5_1 < (l0.length : Int)) = false := decide_eq_false c4
     clear c4
     obtain rfl := Option.some.inj H
     go_wp2
     repeat (go_quiet (fail); try go_wp2)
     go_ret
     exact ⟨by first | rfl | (simp; done) | (simp [*]; done), by repeat (first | exact Drawn0.refl _ | apply Drawn0.step)⟩
 ·rw [if_neg c3] at H
  have c3b0 : ((l0.length : Int) == (l1.length : Int)) = false := beq_eq_false_iff_ne.mpr c3
  have c3b1 : ((l0.length : Int) != (l1.length : Int)) = true := bne_iff_ne.mpr c3
  have c3b2 : (l0.length == l1.length) = false := by first | simpa using c3 | (simp at c3 ⊢; omega)
  obtain rfl := Option.some.inj H
  go_enter Try.func31, Try.ntmps31
  go_wp2
  repeat (go_quiet (fail); try go_wp2)
  go_ret
  exact ⟨by first | rfl | (simp; done) | (simp [*]; done), by repeat (first | exact Drawn0.refl _ | apply Drawn0.step)⟩
end Go.Proofs.Ytjgbdicbdlollaa.B
namespace Go.Proofs.Ytjgbdicbdlollaa.B
open Go.RowKit Go.Proofs.YtjgbdicbdlollaaW.PrintWords Go.Proofs.YtjgbdicbdlollaaW.PrintLast Go.Proofs.YtjgbdicbdlollaaW.PrintMore
attribute [local go_sem] max2_int min2_int max_two min_two max_three min_three max_four min_four   -- for this text's walks alone
set_option linter.unusedVariables false
set_option linter.unusedSimpArgs false
def trishawlaw02_parts.f (k : Nat) (l0_0 : List Int) (a0_1 : Int) (l1_0 : List Int) (a1_1 : Int) : Option (Bool) := if a0_1 = a1_1 then ((lSa.f k l0_0 l1_0).bind fun t133 => (some t133)) else (some false)
theorem trishawlaw02_parts.mono : ∀ a0 a1 a2 a3 k, LeO (trishawlaw02_parts.f k a0 a1 a2 a3) (trishawlaw02_parts.f (k + 1) a0 a1 a2 a3) := by
  intro a0 a1 a2 a3 k
  unfold trishawlaw02_parts.f
  repeat' first
      | (with_reducible exact lSa.mono _ _ _)
      | (with_reducible exact LeO.refl _)
      | (with_reducible exact LeO.none _)
      | (with_reducible refine LeO.ite ?_ ?_)
      | (with_reducible refine LeO.bind ?_ (fun _ => ?_))
      | exact lSa.mono _ _ _
      | exact LeO.none _
      | refine LeO.ite ?_ ?_
      | refine LeO.bind ?_ (fun _ => ?_)
set_option maxHeartbeats 8000000 in
set_option maxRecDepth 100000 in
theorem trishawlaw02_parts.calls (k : Nat) (A0_0 : Option Addr) (c0_0 : Nat) (l0_0 : List Int) (a0_1 : Int) (A1_0 : Option Addr) (c1_0 : Nat) (l1_0 : List Int) (a1_1 : Int) (r : Bool) (w : World) (hr0_0 : Kd.C (Kd.int .i64) w A0_0 l0_0.length l0_0) (hc0_0 : l0_0.length ≤ c0_0) (hr1_0 : Kd.C (Kd.int .i64) w A1_0 l1_0.length l1_0) (hc1_0 : l1_0.length ≤ c1_0) (h : trishawlaw02_parts.f k l0_0 a0_1 l1_0 a1_1 = some r) :
  Calls Try.prog 19 #[.agg #[.slice A0_0 l0_0.length c0_0, .int .i64 a0_1], .agg #[.slice A1_0 l1_0.length c1_0, .int .i64 a1_1]] w fun e w' => e = .returned (.bool r) ∧ Below w.heap.size w w' := by
 have hu26 := Try.underlying26
 have HR0_0 := Az0.mk hr0_0
 have HC0_0 := Az0.mk hc0_0
 clear hr0_0 hc0_0
 have HR1_0 := Az0.mk hr1_0
 have HC1_0 := Az0.mk hc1_0
 clear hr1_0 hc1_0
 have HB := Az0.mk (Below.refl w.heap.size w)
 have H : (if a0_1 = a1_1 then ((lSa.f k l0_0 l1_0).bind fun t133 => (some t133)) else (some false)) = some r := h
 clear h
 by_cases c3 : a0_1 = a1_1
 ·rw [if_pos c3] at H
  have c3b0 : (a0_1 == a1_1) = true := beq_iff_eq.mpr c3
  have c3b1 : (a0_1 != a1_1) = false := bne_eq_false_iff_eq.mpr c3
  clear c3
  replace H := Option.bind_eq_some_iff.mp H
  obtain ⟨t133, A40, H⟩ := H
  replace H : (some t133) = some r := H
  have A4 := Az0.mk A40
  clear A40
  obtain rfl := Option.some.inj H
  go_enter Try.func19, Try.ntmps19
  go_wp2_with (first | ((with_reducible refine gD_ (N := 2) rfl ?_); refine bE_ ?hg (N := 2) ?hd (cs := #[.slice A0_0 l0_0.length c0_0, .int .i64 a0_1]) (t := 26) ?hr ?_; (case hd => rfl); (case hg => rfl); (case hr => first | (go_simp; done) | (go_simp; rfl)); intro gb131 hg w5 hbox hb; have n0_ := Az0.mk (bP_ (by exact Ups.w HB.out) hb); have n1_ := Az0.mk (hbox); have n2_ := Az0.mk ((by rw [hg]; exact (bZ_ (by exact Ups.w HB.out)) : w.heap.size ≤ gb131)); have n3_ := Az0.mk ((by rw [hg]; exact (bZ_ (by exact Ups.w HB.out)) : w.heap.size ≤ gb131)); clear HB; have HB := n0_; have BK131 := n1_; have GW131 := n2_; have GE131 := n3_; clear n0_ n1_ n2_ n3_; clear hb hbox hg) | ((with_reducible refine gD_ (N := 3) rfl ?_); refine bE_ ?hg (N := 3) ?hd (cs := #[.slice A1_0 l1_0.length c1_0, .int .i64 a1_1]) (t := 26) ?hr ?_; (case hd => rfl); (case hg => rfl); (case hr => first | (go_simp; done) | (go_simp; rfl)); intro gb132 hg w6 hbox hb; have n0_ := Az0.mk (bB_ (g := gb131) (o := .cells #[.slice A0_0 l0_0.length c0_0, .int .i64 a0_1] 26 (0, 0)) (by refine Ups.b ?_; exact BK131.out) hb); have n1_ := Az0.mk (bP_ (by repeat (first | (with_reducible first | exact HB.out | refine Up1.w ?_ | refine bS_ ?_ GE131.out) | exact HB.out)) hb); have n2_ := Az0.mk (hbox); have n3_ := Az0.mk ((by rw [hg]; exact (bZ_ (by repeat (first | (with_reducible first | exact HB.out | refine Up1.w ?_ | refine bS_ ?_ GE131.out) | exact HB.out))) : w.heap.size ≤ gb132)); have n4_ := Az0.mk ((by rw [hg]; exact (bZ_ (by repeat (first | (with_reducible first | exact HB.out | refine Up1.w ?_ | refine bS_ ?_ GE131.out) | exact HB.out))) : w.heap.size ≤ gb132)); have n5_ := Az0.mk ((by rw [hg]; exact Nat.ne_of_lt (bL_ (g := gb131) (o := .cells #[.slice A0_0 l0_0.length c0_0, .int .i64 a0_1] 26 (0, 0)) (by refine Ups.b ?_; exact BK131.out)) : gb131 ≠ gb132)); have n6_ := Az0.mk ((by rw [hg]; exact Nat.ne_of_gt (bL_ (g := gb131) (o := .cells #[.slice A0_0 l0_0.length c0_0, .int .i64 a0_1] 26 (0, 0)) (by refine Ups.b ?_; exact BK131.out)) : gb132 ≠ gb131)); clear BK131; clear HB; have BK131 := n0_; have HB := n1_; have BK132 := n2_; have GW132 := n3_; have GE132 := n4_; have NB131_132 := n5_; have NB132_131 := n6_; clear n0_ n1_ n2_ n3_ n4_ n5_ n6_; clear hb hbox hg; have hnb7 := NB131_132.out; have hnc7 := NB132_131.out; have hcz8_0 : w6.cell? ⟨gb131, 0, none⟩ = some (.slice A0_0 l0_0.length c0_0) := (bkC BK131.out 0).trans rfl; have hcz8_1 : w6.cell? ⟨gb131, 1, none⟩ = some (.int .i64 a0_1) := (bkC BK131.out 1).trans rfl; have hfz8_0 := bF_ BK131.out 0; have hfz8_1 := bF_ BK131.out 1; have hcz9_0 : w6.cell? ⟨gb132, 0, none⟩ = some (.slice A1_0 l1_0.length c1_0) := (bkC BK132.out 0).trans rfl; have hcz9_1 : w6.cell? ⟨gb132, 1, none⟩ = some (.int .i64 a1_1) := (bkC BK132.out 1).trans rfl; have hfz9_0 := bF_ BK132.out 0; have hfz9_1 := bF_ BK132.out 1) | (go_at_call 31; (with_reducible refine (lSa.calls k _ _ l0_0 _ _ l1_0 t133 _ ?side1 ?side2 ?side3 ?side4 A4.out).mono ?_); (case side1 => repeat (first | exact (Kd.C_below HR0_0.out HB.out) | refine Up1.c ?_)); (case side2 => exact HC0_0.out); (case side3 => repeat (first | exact (Kd.C_below HR1_0.out HB.out) | refine Up1.c ?_)); (case side4 => exact HC1_0.out); rintro e w' ⟨rfl, ⟨nd, rfl⟩⟩))
  go_ret
  exact ⟨by first | rfl | (simp [errW_none, errW_some] <;> rfl) | (simp [*, errW_none, errW_some] <;> rfl), by repeat (first | (with_reducible first | exact HB.out | refine Up1.w ?_ | refine bS_ ?_ GE131.out | refine bS_ ?_ GE132.out) | exact HB.out)⟩
 ·rw [if_neg c3] at H
  have c3b0 : (a0_1 == a1_1) = false := beq_eq_false_iff_ne.mpr c3
  have c3b1 : (a0_1 != a1_1) = true := bne_iff_ne.mpr c3
  obtain rfl := Option.some.inj H
  go_enter Try.func19, Try.ntmps19
  go_wp2_with (first | ((with_reducible refine gD_ (N := 2) rfl ?_); refine bE_ ?hg (N := 2) ?hd (cs := #[.slice A0_0 l0_0.length c0_0, .int .i64 a0_1]) (t := 26) ?hr ?_; (case hd => rfl); (case hg => rfl); (case hr => first | (go_simp; done) | (go_simp; rfl)); intro gb131 hg w10 hbox hb; have n0_ := Az0.mk (bP_ (by exact Ups.w HB.out) hb); have n1_ := Az0.mk (hbox); have n2_ := Az0.mk ((by rw [hg]; exact (bZ_ (by exact Ups.w HB.out)) : w.heap.size ≤ gb131)); have n3_ := Az0.mk ((by rw [hg]; exact (bZ_ (by exact Ups.w HB.out)) : w.heap.size ≤ gb131)); clear HB; have HB := n0_; have BK131 := n1_; have GW131 := n2_; have GE131 := n3_; clear n0_ n1_ n2_ n3_; clear hb hbox hg) | ((with_reducible refine gD_ (N := 3) rfl ?_); refine bE_ ?hg (N := 3) ?hd (cs := #[.slice A1_0 l1_0.length c1_0, .int .i64 a1_1]) (t := 26) ?hr ?_; (case hd => rfl); (case hg => rfl); (case hr => first | (go_simp; done) | (go_simp; rfl)); intro gb132 hg w11 hbox hb; have n0_ := Az0.mk (bB_ (g := gb131) (o := .cells #[.slice A0_0 l0_0.length c0_0, .int .i64 a0_1] 26 (0, 0)) (by refine Ups.b ?_; exact BK131.out) hb); have n1_ := Az0.mk (bP_ (by repeat (first | (with_reducible first | exact HB.out | refine Up1.w ?_ | refine bS_ ?_ GE131.out) | exact HB.out)) hb); have n2_ := Az0.mk (hbox); have n3_ := Az0.mk ((by rw [hg]; exact (bZ_ (by repeat (first | (with_reducible first | exact HB.out | refine Up1.w ?_ | refine bS_ ?_ GE131.out) | exact HB.out))) : w.heap.size ≤ gb132)); have n4_ := Az0.mk ((by rw [hg]; exact (bZ_ (by repeat (first | (with_reducible first | exact HB.out | refine Up1.w ?_ | refine bS_ ?_ GE131.out) | exact HB.out))) : w.heap.size ≤ gb132)); have n5_ := Az0.mk ((by rw [hg]; exact Nat.ne_of_lt (bL_ (g := gb131) (o := .cells #[.slice A0_0 l0_0.length c0_0, .int .i64 a0_1] 26 (0, 0)) (by refine Ups.b ?_; exact BK131.out)) : gb131 ≠ gb132)); have n6_ := Az0.mk ((by rw [hg]; exact Nat.ne_of_gt (bL_ (g := gb131) (o := .cells #[.slice A0_0 l0_0.length c0_0, .int .i64 a0_1] 26 (0, 0)) (by refine Ups.b ?_; exact BK131.out)) : gb132 ≠ gb131)); clear BK131; clear HB; have BK131 := n0_; have HB := n1_; have BK132 := n2_; have GW132 := n3_; have GE132 := n4_; have NB131_132 := n5_; have NB132_131 := n6_; clear n0_ n1_ n2_ n3_ n4_ n5_ n6_; clear hb hbox hg; have hnb12 := NB131_132.out; have hnc12 := NB132_131.out; have hcz13_0 : w11.cell? ⟨gb131, 0, none⟩ = some (.slice A0_0 l0_0.length c0_0) := (bkC BK131.out 0).trans rfl; have hcz13_1 : w11.cell? ⟨gb131, 1, none⟩ = some (.int .i64 a0_1) := (bkC BK131.out 1).trans rfl; have hfz13_0 := bF_ BK131.out 0; have hfz13_1 := bF_ BK131.out 1; have hcz14_0 : w11.cell? ⟨gb132, 0, none⟩ = some (.slice A1_0 l1_0.length c1_0) := (bkC BK132.out 0).trans rfl; have hcz14_1 : w11.cell? ⟨gb132, 1, none⟩ = some (.int .i64 a1_1) := (bkC BK132.out 1).trans rfl; have hfz14_0 := bF_ BK132.out 0; have hfz14_1 := bF_ BK132.out 1))
  go_ret
  exact ⟨by first | rfl | (simp [errW_none, errW_some] <;> rfl) | (simp [*, errW_none, errW_some] <;> rfl), by repeat (first | (with_reducible first | exact HB.out | refine Up1.w ?_ | refine bS_ ?_ GE131.out | refine bS_ ?_ GE132.out) | exact HB.out)⟩
def trishawlaw02_two.f  : Option ((List (List Int)) × (List (List Int))) := some ((([(([1, 2] : List Int)), (([1, 2] : List Int))] : List (List Int))), (([(([1, 2] : List Int)), (([2, 2] : List Int))] : List (List Int))))
set_option maxHeartbeats 8000000 in
set_option maxRecDepth 100000 in
theorem trishawlaw02_two.calls  (r1 : List (List Int)) (r2 : List (List Int)) (w : World) (h : trishawlaw02_two.f  = some (r1, r2)) :
  Calls Try.prog 47 #[] w fun e w' => ∃ v0_ v1_ : Value, e = .returned (.agg #[v0_, v1_]) ∧ Kd.N (Kd.slice 3 (Kd.int .i64)) 24 w' w.heap.size (fun k_ => (w.heap.size ≤ k_) ∧ some k_ ≠ (v1_ : Value).ownBlock) v0_ r1 ∧ Kd.N (Kd.slice 3 (Kd.int .i64)) 24 w' w.heap.size (fun k_ => (w.heap.size ≤ k_) ∧ some k_ ≠ (v0_ : Value).ownBlock) v1_ r2 ∧ Below w.heap.size w w' := by
 have hu41 := Try.underlying41
 have HB := Az0.mk (Below.refl w.heap.size w)
 have H : (some ((([(([1, 2] : List Int)), (([1, 2] : List Int))] : List (List Int))), (([(([1, 2] : List Int)), (([2, 2] : List Int))] : List (List Int))))) = some (r1, r2) := h
 clear h
 obtain ⟨y135, hy135⟩ : ∃ y_ : List Int, y_ = (([1, 2] : List Int)) := ⟨_, rfl⟩
 replace H : (some ((([y135, (([1, 2] : List Int))] : List (List Int))), (([(([1, 2] : List Int)), (([2, 2] : List Int))] : List (List Int))))) = some (r1, r2) := by first | (rw [hy135]; with_reducible exact H) | (have H2_ := (Option.bind_some _ _).symm.trans H; rw [hy135]; with_reducible exact H2_) | (have H2_ := (Option.bind_some _ _).symm.trans H; with_reducible exact H2_) | with_reducible exact H | (rw [hy135]; exact H) | exact H
 have Ny135 := Az0.mk hy135
 clear hy135
 obtain ⟨y138, hy138⟩ : ∃ y_ : List Int, y_ = (([1, 2] : List Int)) := ⟨_, rfl⟩
 replace H : (some ((([y135, y138] : List (List Int))), (([(([1, 2] : List Int)), (([2, 2] : List Int))] : List (List Int))))) = some (r1, r2) := by first | (rw [hy138]; with_reducible exact H) | (have H2_ := (Option.bind_some _ _).symm.trans H; rw [hy138]; with_reducible exact H2_) | (have H2_ := (Option.bind_some _ _).symm.trans H; with_reducible exact H2_) | with_reducible exact H | (rw [hy138]; exact H) | exact H
 have Ny138 := Az0.mk hy138
 clear hy138
 obtain ⟨y141, hy141⟩ : ∃ y_ : List (List Int), y_ = (([y135, y138] : List (List Int))) := ⟨_, rfl⟩
 replace H : (some (y141, (([(([1, 2] : List Int)), (([2, 2] : List Int))] : List (List Int))))) = some (r1, r2) := by first | (rw [hy141]; with_reducible exact H) | (have H2_ := (Option.bind_some _ _).symm.trans H; rw [hy141]; with_reducible exact H2_) | (have H2_ := (Option.bind_some _ _).symm.trans H; with_reducible exact H2_) | with_reducible exact H | (rw [hy141]; exact H) | exact H
 have Ny141 := Az0.mk hy141
 clear hy141
 obtain ⟨y144, hy144⟩ : ∃ y_ : List Int, y_ = (([1, 2] : List Int)) := ⟨_, rfl⟩
 replace H : (some (y141, (([y144, (([2, 2] : List Int))] : List (List Int))))) = some (r1, r2) := by first | (rw [hy144]; with_reducible exact H) | (have H2_ := (Option.bind_some _ _).symm.trans H; rw [hy144]; with_reducible exact H2_) | (have H2_ := (Option.bind_some _ _).symm.trans H; with_reducible exact H2_) | with_reducible exact H | (rw [hy144]; exact H) | exact H
 have Ny144 := Az0.mk hy144
 clear hy144
 obtain ⟨y147, hy147⟩ : ∃ y_ : List Int, y_ = (([2, 2] : List Int)) := ⟨_, rfl⟩
 replace H : (some (y141, (([y144, y147] : List (List Int))))) = some (r1, r2) := by first | (rw [hy147]; with_reducible exact H) | (have H2_ := (Option.bind_some _ _).symm.trans H; rw [hy147]; with_reducible exact H2_) | (have H2_ := (Option.bind_some _ _).symm.trans H; with_reducible exact H2_) | with_reducible exact H | (rw [hy147]; exact H) | exact H
 have Ny147 := Az0.mk hy147
 clear hy147
 obtain ⟨y150, hy150⟩ : ∃ y_ : List (List Int), y_ = (([y144, y147] : List (List Int))) := ⟨_, rfl⟩
 replace H : (some (y141, y150)) = some (r1, r2) := by first | (rw [hy150]; with_reducible exact H) | (have H2_ := (Option.bind_some _ _).symm.trans H; rw [hy150]; with_reducible exact H2_) | (have H2_ := (Option.bind_some _ _).symm.trans H; with_reducible exact H2_) | with_reducible exact H | (rw [hy150]; exact H) | exact H
 have Ny150 := Az0.mk hy150
 clear hy150
 simp only [Option.some.injEq, Prod.mk.injEq] at H
 obtain ⟨rfl, rfl⟩ := H
 go_enter Try.func47, Try.ntmps47
 go_wp2_with (first | ((with_reducible refine gD_ (N := 0) rfl ?_); refine bE_ ?hg (N := 0) ?hd (cs := #[.slice none 0 0, .slice none 0 0]) (t := 41) ?hr ?_; (case hd => rfl); (case hg => rfl); (case hr => first | (go_simp; done) | (go_simp; rfl)); intro gb134 hg w1 hbox hb; have n0_ := Az0.mk (bP_ (by exact Ups.w HB.out) hb); have n1_ := Az0.mk (hbox); have n2_ := Az0.mk ((by rw [hg]; exact (bZ_ (by exact Ups.w HB.out)) : w.heap.size ≤ gb134)); have n3_ := Az0.mk ((by rw [hg]; exact (bZ_ (by exact Ups.w HB.out)) : w.heap.size ≤ gb134)); clear HB; have HB := n0_; have BK134 := n1_; have GW134 := n2_; have GE134 := n3_; clear n0_ n1_ n2_ n3_; clear hb hbox hg) | ((with_reducible refine gD_ (N := 1) rfl ?_); refine Kd.R_lit (Kd.int .i64) _ 3 ?hg (N := 1) ?hd (xs := ([1, 2] : List Int)) (inner := [.int .i64 1, .int .i64 2]) (ok := fun _ => True) (okp := fun _ => True) ?hr ?hp (fun _ hk => hk) trivial (Below.refl _ _) (Nat.le_refl _) (by simp) ?_; (case hd => rfl); (case hg => rfl); (case hr => first | (go_simp; done) | (go_simp; rfl)); (case hp => exact (Reps.one (show Kd.M (Kd.int .i64) _ _ _ 1 [.int .i64 1] from rfl) (Reps.one (show Kd.M (Kd.int .i64) _ _ _ 2 [.int .i64 2] from rfl) (Reps.none _ _)))); intro v136 w2 ho3 hb hg_ hnew_; clear hg_ hnew_; (first | rw [← Ny135.out] at ho3 | (simp only [Int.reduceToNat] at ho3; rw [← Ny135.out] at ho3)); have n0_ := Az0.mk (Kd.R_lower (Kd.R_newM (M := fun k_ => (w.heap.size ≤ k_)) ho3 (bZ_ (by repeat (first | (with_reducible first | exact HB.out | refine Up1.w ?_ | refine bS_ ?_ GE134.out) | exact HB.out))) (fun k_ h_ => h_)) (bZ_ (by repeat (first | (with_reducible first | exact HB.out | refine Up1.w ?_ | refine bS_ ?_ GE134.out) | exact HB.out)))); have n1_ := Az0.mk (bB_ (g := gb134) (o := .cells #[.slice none 0 0, .slice none 0 0] 41 (0, 0)) (by refine Ups.b ?_; exact BK134.out) hb); have n2_ := Az0.mk (bP_ (by repeat (first | (with_reducible first | exact HB.out | refine Up1.w ?_ | refine bS_ ?_ GE134.out) | exact HB.out)) hb); clear BK134; clear HB; have HO137 := n0_; have BK134 := n1_; have HB := n2_; clear n0_ n1_ n2_; clear hb ho3) | ((with_reducible refine gD_ (N := 2) rfl ?_); refine Kd.R_lit (Kd.int .i64) _ 3 ?hg (N := 2) ?hd (xs := ([1, 2] : List Int)) (inner := [.int .i64 1, .int .i64 2]) (ok := fun _ => True) (okp := fun _ => True) ?hr ?hp (fun _ hk => hk) trivial (Below.refl _ _) (Nat.le_refl _) (by simp) ?_; (case hd => rfl); (case hg => rfl); (case hr => first | (go_simp; done) | (go_simp; rfl)); (case hp => exact (Reps.one (show Kd.M (Kd.int .i64) _ _ _ 1 [.int .i64 1] from rfl) (Reps.one (show Kd.M (Kd.int .i64) _ _ _ 2 [.int .i64 2] from rfl) (Reps.none _ _)))); intro v139 w4 ho5 hb hg_ hnew_; clear hg_ hnew_; (first | rw [← Ny138.out] at ho5 | (simp only [Int.reduceToNat] at ho5; rw [← Ny138.out] at ho5)); have n0_ := Az0.mk (Kd.R_elder' (by (repeat refine Up1.r ?_); exact HO137.out) (Kd.rB_ ho5) hb); have n1_ := Az0.mk (Kd.R_lower (Kd.R_new' (Kd.R_newM (M := fun k_ => (w.heap.size ≤ k_)) ho5 (bZ_ (by repeat (first | (with_reducible first | exact HB.out | refine Up1.w ?_ | refine bS_ ?_ GE134.out) | exact HB.out))) (fun k_ h_ => h_)) (Kd.R_lt (by (repeat refine Up1.r ?_); exact HO137.out))) (bZ_ (by repeat (first | (with_reducible first | exact HB.out | refine Up1.w ?_ | refine bS_ ?_ GE134.out) | exact HB.out)))); have n2_ := Az0.mk (bB_ (g := gb134) (o := .cells #[.slice none 0 0, .slice none 0 0] 41 (0, 0)) (by refine Ups.b ?_; exact BK134.out) hb); have n3_ := Az0.mk (bP_ (by repeat (first | (with_reducible first | exact HB.out | refine Up1.w ?_ | refine bS_ ?_ GE134.out) | exact HB.out)) hb); clear HO137; clear BK134; clear HB; have HO137 := n0_; have HO140 := n1_; have BK134 := n2_; have HB := n3_; clear n0_ n1_ n2_ n3_; clear hb ho5; obtain ⟨Ao6, co6, eo6⟩ := Kd.R_slice HO137.out; subst eo6; obtain ⟨Ao7, co7, eo7⟩ := Kd.R_slice HO140.out; subst eo7) | ((with_reducible refine gD_ (N := 3) rfl ?_); refine Kd.N_lit (Kd.slice 3 (Kd.int .i64)) _ 24 ?hg (N' := 3) ?hd (xs := ([y135, y138] : List (List Int))) (inner := [.slice Ao6 y135.length co6, .slice Ao7 y138.length co7]) (ok := (fun k_ => (w.heap.size ≤ k_) ∧ k_ ≠ gb134)) (okp := (fun k_ => (w.heap.size ≤ k_) ∧ k_ ≠ gb134)) ?hr ?hp (fun _ hk => hk) ((show ∀ k_, w4.heap.size ≤ k_ → (fun k_ => (w.heap.size ≤ k_) ∧ k_ ≠ gb134) k_ from fun k_ hk => ⟨(Nat.le_trans (bZ_ (by repeat (first | (with_reducible first | exact HB.out | refine Up1.w ?_ | refine bS_ ?_ GE134.out) | exact HB.out))) hk), Kd.freshB (g := gb134) (o := .cells #[.slice none 0 0, .slice none 0 0] 41 (0, 0)) (by refine Ups.b ?_; exact BK134.out) k_ hk⟩) _ (Nat.le_refl _)) (Below.refl _ _) (Nat.le_refl _) (by simp) ?_; (case hd => rfl); (case hg => rfl); (case hr => first | (go_simp; done) | (go_simp; rfl)); (case hp => exact (Reps.one (show Kd.FK (Kd.slice 3 (Kd.int .i64)) _ _ y135 [.slice Ao6 y135.length co6] from (Kd.FK_slice_mk (Kd.R_reads' (Kd.rM_ (ok' := (fun k_ => (w.heap.size ≤ k_) ∧ k_ ≠ gb134)) (Kd.rY_ (HO137.out) BK134.out (by decide)) (fun k_ hk => ⟨hk.1.1.1, hk.2⟩))).2.1 (Kd.R_F (Kd.rM_ (ok' := (fun k_ => (w.heap.size ≤ k_) ∧ k_ ≠ gb134)) (Kd.rY_ (HO137.out) BK134.out (by decide)) (fun k_ hk => ⟨hk.1.1.1, hk.2⟩))))) (Reps.one (show Kd.FK (Kd.slice 3 (Kd.int .i64)) _ _ y138 [.slice Ao7 y138.length co7] from (Kd.FK_slice_mk (Kd.R_reads' (Kd.rM_ (ok' := (fun k_ => (w.heap.size ≤ k_) ∧ k_ ≠ gb134)) (Kd.rY_ (HO140.out) BK134.out (by decide)) (fun k_ hk => ⟨hk.1.1.1, hk.2⟩))).2.1 (Kd.R_F (Kd.rM_ (ok' := (fun k_ => (w.heap.size ≤ k_) ∧ k_ ≠ gb134)) (Kd.rY_ (HO140.out) BK134.out (by decide)) (fun k_ hk => ⟨hk.1.1.1, hk.2⟩))))) (Reps.none _ _)))); intro v142 w8 ho9 hb hg_ hnew_; clear hg_ hnew_; (first | rw [← Ny141.out] at ho9 | (simp only [Int.reduceToNat] at ho9; rw [← Ny141.out] at ho9)); have n0_ := Az0.mk (Kd.N_lower ho9 (bZ_ (by repeat (first | (with_reducible first | exact HB.out | refine Up1.w ?_ | refine bS_ ?_ GE134.out) | exact HB.out)))); have n1_ := Az0.mk (bB_ (g := gb134) (o := .cells #[.slice none 0 0, .slice none 0 0] 41 (0, 0)) (by refine Ups.b ?_; exact BK134.out) hb); have n2_ := Az0.mk (bP_ (by repeat (first | (with_reducible first | exact HB.out | refine Up1.w ?_ | refine bS_ ?_ GE134.out) | exact HB.out)) hb); clear BK134; clear HB; clear HO137; clear HO140; have HO143 := n0_; have BK134 := n1_; have HB := n2_; clear n0_ n1_ n2_; clear hb ho9) | ((with_reducible refine gD_ (N := 4) rfl ?_); refine Kd.R_lit (Kd.int .i64) _ 3 ?hg (N := 4) ?hd (xs := ([1, 2] : List Int)) (inner := [.int .i64 1, .int .i64 2]) (ok := fun _ => True) (okp := fun _ => True) ?hr ?hp (fun _ hk => hk) trivial (Below.refl _ _) (Nat.le_refl _) (by simp) ?_; (case hd => rfl); (case hg => rfl); (case hr => first | (go_simp; done) | (go_simp; rfl)); (case hp => exact (Reps.one (show Kd.M (Kd.int .i64) _ _ _ 1 [.int .i64 1] from rfl) (Reps.one (show Kd.M (Kd.int .i64) _ _ _ 2 [.int .i64 2] from rfl) (Reps.none _ _)))); intro v145 w10 ho11 hb hg_ hnew_; clear hg_ hnew_; (first | rw [← Ny144.out] at ho11 | (simp only [Int.reduceToNat] at ho11; rw [← Ny144.out] at ho11)); have n0_ := Az0.mk (Kd.N_elder' (by (with_reducible repeat (first | apply Kd.N_alloc | apply Kd.N_drewN | apply Kd.N_drew)); exact HO143.out) (Kd.rB_ ho11) hb); have n1_ := Az0.mk (Kd.R_lower (Kd.R_newM (M := fun k_ => (w.heap.size ≤ k_)) ho11 (bZ_ (by repeat (first | (with_reducible first | exact HB.out | refine Up1.w ?_ | refine bS_ ?_ GE134.out) | exact HB.out))) (fun k_ h_ => h_)) (bZ_ (by repeat (first | (with_reducible first | exact HB.out | refine Up1.w ?_ | refine bS_ ?_ GE134.out) | exact HB.out)))); have n2_ := Az0.mk (bB_ (g := gb134) (o := .cells #[.slice none 0 0, .slice none 0 0] 41 (0, 0)) (by refine Ups.b ?_; exact BK134.out) hb); have n3_ := Az0.mk (bP_ (by repeat (first | (with_reducible first | exact HB.out | refine Up1.w ?_ | refine bS_ ?_ GE134.out) | exact HB.out)) hb); clear HO143; clear BK134; clear HB; have HO143 := n0_; have HO146 := n1_; have BK134 := n2_; have HB := n3_; clear n0_ n1_ n2_ n3_; clear hb ho11) | ((with_reducible refine gD_ (N := 5) rfl ?_); refine Kd.R_lit (Kd.int .i64) _ 3 ?hg (N := 5) ?hd (xs := ([2, 2] : List Int)) (inner := [.int .i64 2, .int .i64 2]) (ok := fun _ => True) (okp := fun _ => True) ?hr ?hp (fun _ hk => hk) trivial (Below.refl _ _) (Nat.le_refl _) (by simp) ?_; (case hd => rfl); (case hg => rfl); (case hr => first | (go_simp; done) | (go_simp; rfl)); (case hp => exact (Reps.one (show Kd.M (Kd.int .i64) _ _ _ 2 [.int .i64 2] from rfl) (Reps.one (show Kd.M (Kd.int .i64) _ _ _ 2 [.int .i64 2] from rfl) (Reps.none _ _)))); intro v148 w12 ho13 hb hg_ hnew_; clear hg_ hnew_; (first | rw [← Ny147.out] at ho13 | (simp only [Int.reduceToNat] at ho13; rw [← Ny147.out] at ho13)); have n0_ := Az0.mk (Kd.N_elder' (by (with_reducible repeat (first | apply Kd.N_alloc | apply Kd.N_drewN | apply Kd.N_drew)); exact HO143.out) (Kd.rB_ ho13) hb); have n1_ := Az0.mk (Kd.R_elder' (by (repeat refine Up1.r ?_); exact HO146.out) (Kd.rB_ ho13) hb); have n2_ := Az0.mk (Kd.R_lower (Kd.R_new' (Kd.R_newM (M := fun k_ => (w.heap.size ≤ k_)) ho13 (bZ_ (by repeat (first | (with_reducible first | exact HB.out | refine Up1.w ?_ | refine bS_ ?_ GE134.out) | exact HB.out))) (fun k_ h_ => h_)) (Kd.R_lt (by (repeat refine Up1.r ?_); exact HO146.out))) (bZ_ (by repeat (first | (with_reducible first | exact HB.out | refine Up1.w ?_ | refine bS_ ?_ GE134.out) | exact HB.out)))); have n3_ := Az0.mk (bB_ (g := gb134) (o := .cells #[.slice none 0 0, .slice none 0 0] 41 (0, 0)) (by refine Ups.b ?_; exact BK134.out) hb); have n4_ := Az0.mk (bP_ (by repeat (first | (with_reducible first | exact HB.out | refine Up1.w ?_ | refine bS_ ?_ GE134.out) | exact HB.out)) hb); clear HO143; clear HO146; clear BK134; clear HB; have HO143 := n0_; have HO146 := n1_; have HO149 := n2_; have BK134 := n3_; have HB := n4_; clear n0_ n1_ n2_ n3_ n4_; clear hb ho13; obtain ⟨Ao14, co14, eo14⟩ := Kd.R_slice HO146.out; subst eo14; obtain ⟨Ao15, co15, eo15⟩ := Kd.R_slice HO149.out; subst eo15) | ((with_reducible refine gD_ (N := 6) rfl ?_); refine Kd.N_lit (Kd.slice 3 (Kd.int .i64)) _ 24 ?hg (N' := 6) ?hd (xs := ([y144, y147] : List (List Int))) (inner := [.slice Ao14 y144.length co14, .slice Ao15 y147.length co15]) (ok := (fun k_ => (w.heap.size ≤ k_) ∧ some k_ ≠ (v142 : Value).ownBlock ∧ k_ ≠ gb134)) (okp := (fun k_ => (w.heap.size ≤ k_) ∧ some k_ ≠ (v142 : Value).ownBlock ∧ k_ ≠ gb134)) ?hr ?hp (fun _ hk => hk) ((show ∀ k_, w12.heap.size ≤ k_ → (fun k_ => (w.heap.size ≤ k_) ∧ some k_ ≠ (v142 : Value).ownBlock ∧ k_ ≠ gb134) k_ from fun k_ hk => ⟨(Nat.le_trans (bZ_ (by repeat (first | (with_reducible first | exact HB.out | refine Up1.w ?_ | refine bS_ ?_ GE134.out) | exact HB.out))) hk), Kd.fresh' (Kd.N_lt (by (with_reducible repeat (first | apply Kd.N_alloc | apply Kd.N_drewN | apply Kd.N_drew)); exact HO143.out)) k_ hk, Kd.freshB (g := gb134) (o := .cells #[.slice none 0 0, .slice none 0 0] 41 (0, 0)) (by refine Ups.b ?_; exact BK134.out) k_ hk⟩) _ (Nat.le_refl _)) (Below.refl _ _) (Nat.le_refl _) (by simp) ?_; (case hd => rfl); (case hg => rfl); (case hr => first | (go_simp; done) | (go_simp; rfl)); (case hp => exact (Reps.one (show Kd.FK (Kd.slice 3 (Kd.int .i64)) _ _ y144 [.slice Ao14 y144.length co14] from (Kd.FK_slice_mk (Kd.R_reads' (Kd.rM_ (ok' := (fun k_ => (w.heap.size ≤ k_) ∧ some k_ ≠ (v142 : Value).ownBlock ∧ k_ ≠ gb134)) (Kd.rY_ (Kd.R_apart' (HO146.out) (Kd.N_typed HO143.out) (by decide)) BK134.out (by decide)) (fun k_ hk => ⟨hk.1.1.1.1, ⟨hk.1.2, hk.2⟩⟩))).2.1 (Kd.R_F (Kd.rM_ (ok' := (fun k_ => (w.heap.size ≤ k_) ∧ some k_ ≠ (v142 : Value).ownBlock ∧ k_ ≠ gb134)) (Kd.rY_ (Kd.R_apart' (HO146.out) (Kd.N_typed HO143.out) (by decide)) BK134.out (by decide)) (fun k_ hk => ⟨hk.1.1.1.1, ⟨hk.1.2, hk.2⟩⟩))))) (Reps.one (show Kd.FK (Kd.slice 3 (Kd.int .i64)) _ _ y147 [.slice Ao15 y147.length co15] from (Kd.FK_slice_mk (Kd.R_reads' (Kd.rM_ (ok' := (fun k_ => (w.heap.size ≤ k_) ∧ some k_ ≠ (v142 : Value).ownBlock ∧ k_ ≠ gb134)) (Kd.rY_ (Kd.R_apart' (HO149.out) (Kd.N_typed HO143.out) (by decide)) BK134.out (by decide)) (fun k_ hk => ⟨hk.1.1.1.1, ⟨hk.1.2, hk.2⟩⟩))).2.1 (Kd.R_F (Kd.rM_ (ok' := (fun k_ => (w.heap.size ≤ k_) ∧ some k_ ≠ (v142 : Value).ownBlock ∧ k_ ≠ gb134)) (Kd.rY_ (Kd.R_apart' (HO149.out) (Kd.N_typed HO143.out) (by decide)) BK134.out (by decide)) (fun k_ hk => ⟨hk.1.1.1.1, ⟨hk.1.2, hk.2⟩⟩))))) (Reps.none _ _)))); intro v151 w16 ho17 hb hg_ hnew_; clear hg_ hnew_; (first | rw [← Ny150.out] at ho17 | (simp only [Int.reduceToNat] at ho17; rw [← Ny150.out] at ho17)); have n0_ := Az0.mk (Kd.N_elder' (by (with_reducible repeat (first | apply Kd.N_alloc | apply Kd.N_drewN | apply Kd.N_drew)); exact HO143.out) (Kd.N_base ho17) hb); have n1_ := Az0.mk (Kd.N_lower ho17 (bZ_ (by repeat (first | (with_reducible first | exact HB.out | refine Up1.w ?_ | refine bS_ ?_ GE134.out) | exact HB.out)))); have n2_ := Az0.mk (bB_ (g := gb134) (o := .cells #[.slice none 0 0, .slice none 0 0] 41 (0, 0)) (by refine Ups.b ?_; exact BK134.out) hb); have n3_ := Az0.mk (bP_ (by repeat (first | (with_reducible first | exact HB.out | refine Up1.w ?_ | refine bS_ ?_ GE134.out) | exact HB.out)) hb); clear HO143; clear BK134; clear HB; clear HO146; clear HO149; have HO143 := n0_; have HO152 := n1_; have BK134 := n2_; have HB := n3_; clear n0_ n1_ n2_ n3_; clear hb ho17; obtain ⟨Ao18, co18, eo18⟩ := Kd.N_slice HO152.out; subst eo18; obtain ⟨Ao19, co19, eo19⟩ := Kd.N_slice HO143.out; subst eo19; have hcz20_0 : w16.cell? ⟨gb134, 0, none⟩ = some (.slice none 0 0) := (bkC BK134.out 0).trans rfl; have hcz20_1 : w16.cell? ⟨gb134, 1, none⟩ = some (.slice none 0 0) := (bkC BK134.out 1).trans rfl; have hfz20_0 := bF_ BK134.out 0; have hfz20_1 := bF_ BK134.out 1))
 refine bodyPost_ret (results_cell_row rfl _ _ gb134 41 #[.slice Ao19 y141.length co19, .slice Ao18 y150.length co18] (0, 0) _ rfl (by refine Ups.b ?_; refine blk_put (cs := #[.slice Ao19 y141.length co19, .slice none 0 0]) ?_ 1 _ rfl; refine Ups.b ?_; refine blk_put (cs := #[.slice none 0 0, .slice none 0 0]) ?_ 0 _ rfl; refine Ups.b ?_; exact BK134.out) Try.underlying41 rfl (by kernel_rfl)) rfl ?_
 exact ⟨_, _, by first | rfl | (simp [errW_none, errW_some] <;> rfl) | (simp [*, errW_none, errW_some] <;> rfl), by (with_reducible repeat (first | apply Kd.N_alloc | apply Kd.N_drewN | apply Kd.N_drew)); exact Kd.N_mono (Kd.N_far (p := ⟨gb134, 1, none⟩) (Kd.N_far (p := ⟨gb134, 0, none⟩) (Kd.N_mono HO143.out (fun k_ hk => (⟨hk, hk.1.1.1.2⟩ : _ ∧ k_ ≠ gb134))) (fun _ hk => hk.2) (.slice Ao19 y141.length co19)) (fun _ hk => hk.2) (.slice Ao18 y150.length co18)) (fun _ hk => ⟨hk.1.1.1.1.1, hk.1.2⟩), by (with_reducible repeat (first | apply Kd.N_alloc | apply Kd.N_drewN | apply Kd.N_drew)); exact Kd.N_mono (Kd.N_far (p := ⟨gb134, 1, none⟩) (Kd.N_far (p := ⟨gb134, 0, none⟩) (Kd.N_mono HO152.out (fun k_ hk => (⟨hk, hk.2.2⟩ : _ ∧ k_ ≠ gb134))) (fun _ hk => hk.2) (.slice Ao19 y141.length co19)) (fun _ hk => hk.2) (.slice Ao18 y150.length co18)) (fun _ hk => ⟨hk.1.1, hk.1.2.1⟩), by repeat (first | (with_reducible first | exact HB.out | refine Up1.w ?_ | refine bS_ ?_ GE134.out) | exact HB.out)⟩
end Go.Proofs.Ytjgbdicbdlollaa.B
namespace Go.Proofs.Ytjgbdicbdlollaa.B
open Go.RowKit Go.Proofs.YtjgbdicbdlollaaW.PrintWords Go.Proofs.YtjgbdicbdlollaaW.PrintLast Go.Proofs.YtjgbdicbdlollaaW.PrintMore
attribute [local go_sem] max2_int min2_int max_two min_two max_three min_three max_four min_four   -- for this text's walks alone
set_option linter.unusedVariables false
set_option linter.unusedSimpArgs false
attribute [local go_sem high] eqA28
def lAl_.f (k : Nat)  : Option (Bool) := (trishawlaw02_two.f).bind fun bt101 => ((jam_Costs.f k bt101.1 bt101.2 (([0, 0] : List Int))).bind fun bt110 => ((trishawlaw02_two.f).bind fun bt115 => ((jam_Best.f k bt115.1 bt115.2).bind fun bt121 => ((jam_Balance.f k (([(⟨0, 2⟩ : S36), (⟨1, 1⟩ : S36)] : List (S36)))).bind fun bt129 => ((jCh_.f k (([(⟨0, 1⟩ : S36), (⟨1, 1⟩ : S36)] : List (S36)))).bind fun bt141 => (if bt110.2.2 = 0 then ((lSa.f k bt110.1 (([2, 2] : List Int))).bind fun t153 => (if t153 = true then (if bt110.2.1 = 4 then (if bt121.2.2 = 0 then ((lSa.f k bt121.1 (([0, 1] : List Int))).bind fun t157 => (if t157 = true then (if bt121.2.1 = 3 then (if bt129.2.2.2.2 = 0 then ((trishawlaw02_parts.f k bt129.1 bt129.2.1 (([2, 1] : List Int)) 3).bind fun t161 => (if t161 = true then (if (bt129.2.2.1 == 4 && (bt129.2.2.2.1 == 3)) = true then (if bt141.2.2.2.2 = 0 then (some (bt141.2.2.1 == 7 && (bt141.2.2.2.1 == 8))) else (some false)) else (some false)) else (some false))) else (some false)) else (some false)) else (some false))) else (some false)) else (some false)) else (some false))) else (some false)))))))
theorem lAl_.mono : ∀ k, LeO (lAl_.f k ) (lAl_.f (k + 1) ) := by
  intro  k
  unfold lAl_.f
  repeat' first
      | (with_reducible exact jam_Balance.mono _ _)
      | (with_reducible exact jam_Best.mono _ _ _)
      | (with_reducible exact jCh_.mono _ _)
      | (with_reducible exact jam_Costs.mono _ _ _ _)
      | (with_reducible exact trishawlaw02_parts.mono _ _ _ _ _)
      | (with_reducible exact lSa.mono _ _ _)
      | (with_reducible exact LeO.refl _)
      | (with_reducible exact LeO.none _)
      | (with_reducible refine LeO.ite ?_ ?_)
      | (with_reducible refine LeO.bind ?_ (fun _ => ?_))
      | exact jam_Balance.mono _ _
      | exact jam_Best.mono _ _ _
      | exact jCh_.mono _ _
      | exact jam_Costs.mono _ _ _ _
      | exact trishawlaw02_parts.mono _ _ _ _ _
      | exact lSa.mono _ _ _
      | exact LeO.none _
      | refine LeO.ite ?_ ?_
      | refine LeO.bind ?_ (fun _ => ?_)
theorem alive_true : lAl_.f 60 = some true := by kernel_rfl
theorem alive_from (k : Nat) (h : 60 ≤ k) : lAl_.f k = some true := by
  obtain ⟨d, rfl⟩ : ∃ d, k = 60 + d := ⟨k - 60, by omega⟩
  induction d with
  | zero => exact alive_true
  | succ d ih => exact lAl_.mono (60 + d) true (ih (by omega))
theorem alive_up (k : Nat) (r : Bool) (h : lAl_.f k = some r) (d : Nat) : lAl_.f (k + d) = some r := by
  induction d with
  | zero => exact h
  | succ d ih => exact lAl_.mono (k + d) r ih
theorem alive_only (k : Nat) (r : Bool) (h : lAl_.f k = some r) : r = true := by
  have h1 := alive_up k r h 60
  rw [alive_from (k + 60) (by omega)] at h1
  exact (Option.some.inj h1).symm
set_option maxHeartbeats 8000000 in
set_option maxRecDepth 100000 in
theorem lAl_.calls (k : Nat)  (r : Bool) (w : World) (h : lAl_.f k  = some r) :
  Calls Try.prog 16 #[] w fun e w' => e = .returned (.bool r) ∧ Below w.heap.size w w' := by
 have hu36 := Try.underlying36
 have hu26 := Try.underlying26
 have hu28 := Try.underlying28
 have HB := Az0.mk (Below.refl w.heap.size w)
 have H : ((trishawlaw02_two.f).bind fun bt101 => ((jam_Costs.f k bt101.1 bt101.2 (([0, 0] : List Int))).bind fun bt110 => ((trishawlaw02_two.f).bind fun bt115 => ((jam_Best.f k bt115.1 bt115.2).bind fun bt121 => ((jam_Balance.f k (([(⟨0, 2⟩ : S36), (⟨1, 1⟩ : S36)] : List (S36)))).bind fun bt129 => ((jCh_.f k (([(⟨0, 1⟩ : S36), (⟨1, 1⟩ : S36)] : List (S36)))).bind fun bt141 => (if bt110.2.2 = 0 then ((lSa.f k bt110.1 (([2, 2] : List Int))).bind fun t153 => (if t153 = true then (if bt110.2.1 = 4 then (if bt121.2.2 = 0 then ((lSa.f k bt121.1 (([0, 1] : List Int))).bind fun t157 => (if t157 = true then (if bt121.2.1 = 3 then (if bt129.2.2.2.2 = 0 then ((trishawlaw02_parts.f k bt129.1 bt129.2.1 (([2, 1] : List Int)) 3).bind fun t161 => (if t161 = true then (if (bt129.2.2.1 == 4 && (bt129.2.2.2.1 == 3)) = true then (if bt141.2.2.2.2 = 0 then (some (bt141.2.2.1 == 7 && (bt141.2.2.2.1 == 8))) else (some false)) else (some false)) else (some false))) else (some false)) else (some false)) else (some false))) else (some false)) else (some false)) else (some false))) else (some false)))))))) = some r := h
 have HRT := Az0.mk (alive_only k r h)
 clear h
 replace H := Option.bind_eq_some_iff.mp H
 obtain ⟨⟨t101, t104⟩, A10, H⟩ := H
 replace H : ((jam_Costs.f k t101 t104 (([0, 0] : List Int))).bind fun bt110 => ((trishawlaw02_two.f).bind fun bt115 => ((jam_Best.f k bt115.1 bt115.2).bind fun bt121 => ((jam_Balance.f k (([(⟨0, 2⟩ : S36), (⟨1, 1⟩ : S36)] : List (S36)))).bind fun bt129 => ((jCh_.f k (([(⟨0, 1⟩ : S36), (⟨1, 1⟩ : S36)] : List (S36)))).bind fun bt141 => (if bt110.2.2 = 0 then ((lSa.f k bt110.1 (([2, 2] : List Int))).bind fun t153 => (if t153 = true then (if bt110.2.1 = 4 then (if bt121.2.2 = 0 then ((lSa.f k bt121.1 (([0, 1] : List Int))).bind fun t157 => (if t157 = true then (if bt121.2.1 = 3 then (if bt129.2.2.2.2 = 0 then ((trishawlaw02_parts.f k bt129.1 bt129.2.1 (([2, 1] : List Int)) 3).bind fun t161 => (if t161 = true then (if (bt129.2.2.1 == 4 && (bt129.2.2.2.1 == 3)) = true then (if bt141.2.2.2.2 = 0 then (some (bt141.2.2.1 == 7 && (bt141.2.2.2.1 == 8))) else (some false)) else (some false)) else (some false))) else (some false)) else (some false)) else (some false))) else (some false)) else (some false)) else (some false))) else (some false))))))) = some r := H
 have A1 := Az0.mk A10
 clear A10
 obtain ⟨y107, hy107⟩ : ∃ y_ : List Int, y_ = (([0, 0] : List Int)) := ⟨_, rfl⟩
 replace H : ((jam_Costs.f k t101 t104 y107).bind fun bt110 => ((trishawlaw02_two.f).bind fun bt115 => ((jam_Best.f k bt115.1 bt115.2).bind fun bt121 => ((jam_Balance.f k (([(⟨0, 2⟩ : S36), (⟨1, 1⟩ : S36)] : List (S36)))).bind fun bt129 => ((jCh_.f k (([(⟨0, 1⟩ : S36), (⟨1, 1⟩ : S36)] : List (S36)))).bind fun bt141 => (if bt110.2.2 = 0 then ((lSa.f k bt110.1 (([2, 2] : List Int))).bind fun t153 => (if t153 = true then (if bt110.2.1 = 4 then (if bt121.2.2 = 0 then ((lSa.f k bt121.1 (([0, 1] : List Int))).bind fun t157 => (if t157 = true then (if bt121.2.1 = 3 then (if bt129.2.2.2.2 = 0 then ((trishawlaw02_parts.f k bt129.1 bt129.2.1 (([2, 1] : List Int)) 3).bind fun t161 => (if t161 = true then (if (bt129.2.2.1 == 4 && (bt129.2.2.2.1 == 3)) = true then (if bt141.2.2.2.2 = 0 then (some (bt141.2.2.1 == 7 && (bt141.2.2.2.1 == 8))) else (some false)) else (some false)) else (some false))) else (some false)) else (some false)) else (some false))) else (some false)) else (some false)) else (some false))) else (some false))))))) = some r := by first | (rw [hy107]; with_reducible exact H) | (have H2_ := (Option.bind_some _ _).symm.trans H; rw [hy107]; with_reducible exact H2_) | (have H2_ := (Option.bind_some _ _).symm.trans H; with_reducible exact H2_) | with_reducible exact H | (rw [hy107]; exact H) | exact H
 have Ny107 := Az0.mk hy107
 clear hy107
 replace H := Option.bind_eq_some_iff.mp H
 obtain ⟨⟨t110, t113, t114⟩, A20, H⟩ := H
 replace H : ((trishawlaw02_two.f).bind fun bt115 => ((jam_Best.f k bt115.1 bt115.2).bind fun bt121 => ((jam_Balance.f k (([(⟨0, 2⟩ : S36), (⟨1, 1⟩ : S36)] : List (S36)))).bind fun bt129 => ((jCh_.f k (([(⟨0, 1⟩ : S36), (⟨1, 1⟩ : S36)] : List (S36)))).bind fun bt141 => (if t114 = 0 then ((lSa.f k t110 (([2, 2] : List Int))).bind fun t153 => (if t153 = true then (if t113 = 4 then (if bt121.2.2 = 0 then ((lSa.f k bt121.1 (([0, 1] : List Int))).bind fun t157 => (if t157 = true then (if bt121.2.1 = 3 then (if bt129.2.2.2.2 = 0 then ((trishawlaw02_parts.f k bt129.1 bt129.2.1 (([2, 1] : List Int)) 3).bind fun t161 => (if t161 = true then (if (bt129.2.2.1 == 4 && (bt129.2.2.2.1 == 3)) = true then (if bt141.2.2.2.2 = 0 then (some (bt141.2.2.1 == 7 && (bt141.2.2.2.1 == 8))) else (some false)) else (some false)) else (some false))) else (some false)) else (some false)) else (some false))) else (some false)) else (some false)) else (some false))) else (some false)))))) = some r := H
 have A2 := Az0.mk A20
 clear A20
 replace H := Option.bind_eq_some_iff.mp H
 obtain ⟨⟨t115, t118⟩, A30, H⟩ := H
 replace H : ((jam_Best.f k t115 t118).bind fun bt121 => ((jam_Balance.f k (([(⟨0, 2⟩ : S36), (⟨1, 1⟩ : S36)] : List (S36)))).bind fun bt129 => ((jCh_.f k (([(⟨0, 1⟩ : S36), (⟨1, 1⟩ : S36)] : List (S36)))).bind fun bt141 => (if t114 = 0 then ((lSa.f k t110 (([2, 2] : List Int))).bind fun t153 => (if t153 = true then (if t113 = 4 then (if bt121.2.2 = 0 then ((lSa.f k bt121.1 (([0, 1] : List Int))).bind fun t157 => (if t157 = true then (if bt121.2.1 = 3 then (if bt129.2.2.2.2 = 0 then ((trishawlaw02_parts.f k bt129.1 bt129.2.1 (([2, 1] : List Int)) 3).bind fun t161 => (if t161 = true then (if (bt129.2.2.1 == 4 && (bt129.2.2.2.1 == 3)) = true then (if bt141.2.2.2.2 = 0 then (some (bt141.2.2.1 == 7 && (bt141.2.2.2.1 == 8))) else (some false)) else (some false)) else (some false))) else (some false)) else (some false)) else (some false))) else (some false)) else (some false)) else (some false))) else (some false))))) = some r := H
 have A3 := Az0.mk A30
 clear A30
 replace H := Option.bind_eq_some_iff.mp H
 obtain ⟨⟨t121, t124, t125⟩, A40, H⟩ := H
 replace H : ((jam_Balance.f k (([(⟨0, 2⟩ : S36), (⟨1, 1⟩ : S36)] : List (S36)))).bind fun bt129 => ((jCh_.f k (([(⟨0, 1⟩ : S36), (⟨1, 1⟩ : S36)] : List (S36)))).bind fun bt141 => (if t114 = 0 then ((lSa.f k t110 (([2, 2] : List Int))).bind fun t153 => (if t153 = true then (if t113 = 4 then (if t125 = 0 then ((lSa.f k t121 (([0, 1] : List Int))).bind fun t157 => (if t157 = true then (if t124 = 3 then (if bt129.2.2.2.2 = 0 then ((trishawlaw02_parts.f k bt129.1 bt129.2.1 (([2, 1] : List Int)) 3).bind fun t161 => (if t161 = true then (if (bt129.2.2.1 == 4 && (bt129.2.2.2.1 == 3)) = true then (if bt141.2.2.2.2 = 0 then (some (bt141.2.2.1 == 7 && (bt141.2.2.2.1 == 8))) else (some false)) else (some false)) else (some false))) else (some false)) else (some false)) else (some false))) else (some false)) else (some false)) else (some false))) else (some false)))) = some r := H
 have A4 := Az0.mk A40
 clear A40
 obtain ⟨y126, hy126⟩ : ∃ y_ : List (S36), y_ = (([(⟨0, 2⟩ : S36), (⟨1, 1⟩ : S36)] : List (S36))) := ⟨_, rfl⟩
 replace H : ((jam_Balance.f k y126).bind fun bt129 => ((jCh_.f k (([(⟨0, 1⟩ : S36), (⟨1, 1⟩ : S36)] : List (S36)))).bind fun bt141 => (if t114 = 0 then ((lSa.f k t110 (([2, 2] : List Int))).bind fun t153 => (if t153 = true then (if t113 = 4 then (if t125 = 0 then ((lSa.f k t121 (([0, 1] : List Int))).bind fun t157 => (if t157 = true then (if t124 = 3 then (if bt129.2.2.2.2 = 0 then ((trishawlaw02_parts.f k bt129.1 bt129.2.1 (([2, 1] : List Int)) 3).bind fun t161 => (if t161 = true then (if (bt129.2.2.1 == 4 && (bt129.2.2.2.1 == 3)) = true then (if bt141.2.2.2.2 = 0 then (some (bt141.2.2.1 == 7 && (bt141.2.2.2.1 == 8))) else (some false)) else (some false)) else (some false))) else (some false)) else (some false)) else (some false))) else (some false)) else (some false)) else (some false))) else (some false)))) = some r := by first | (rw [hy126]; with_reducible exact H) | (have H2_ := (Option.bind_some _ _).symm.trans H; rw [hy126]; with_reducible exact H2_) | (have H2_ := (Option.bind_some _ _).symm.trans H; with_reducible exact H2_) | with_reducible exact H | (rw [hy126]; exact H) | exact H
 have Ny126 := Az0.mk hy126
 clear hy126
 replace H := Option.bind_eq_some_iff.mp H
 obtain ⟨⟨t129, t132, t133, t134, t135⟩, A50, H⟩ := H
 replace H : ((jCh_.f k (([(⟨0, 1⟩ : S36), (⟨1, 1⟩ : S36)] : List (S36)))).bind fun bt141 => (if t114 = 0 then ((lSa.f k t110 (([2, 2] : List Int))).bind fun t153 => (if t153 = true then (if t113 = 4 then (if t125 = 0 then ((lSa.f k t121 (([0, 1] : List Int))).bind fun t157 => (if t157 = true then (if t124 = 3 then (if t135 = 0 then ((trishawlaw02_parts.f k t129 t132 (([2, 1] : List Int)) 3).bind fun t161 => (if t161 = true then (if (t133 == 4 && (t134 == 3)) = true then (if bt141.2.2.2.2 = 0 then (some (bt141.2.2.1 == 7 && (bt141.2.2.2.1 == 8))) else (some false)) else (some false)) else (some false))) else (some false)) else (some false)) else (some false))) else (some false)) else (some false)) else (some false))) else (some false))) = some r := H
 have A5 := Az0.mk A50
 clear A50
 obtain ⟨y138, hy138⟩ : ∃ y_ : List (S36), y_ = (([(⟨0, 1⟩ : S36), (⟨1, 1⟩ : S36)] : List (S36))) := ⟨_, rfl⟩
 replace H : ((jCh_.f k y138).bind fun bt141 => (if t114 = 0 then ((lSa.f k t110 (([2, 2] : List Int))).bind fun t153 => (if t153 = true then (if t113 = 4 then (if t125 = 0 then ((lSa.f k t121 (([0, 1] : List Int))).bind fun t157 => (if t157 = true then (if t124 = 3 then (if t135 = 0 then ((trishawlaw02_parts.f k t129 t132 (([2, 1] : List Int)) 3).bind fun t161 => (if t161 = true then (if (t133 == 4 && (t134 == 3)) = true then (if bt141.2.2.2.2 = 0 then (some (bt141.2.2.1 == 7 && (bt141.2.2.2.1 == 8))) else (some false)) else (some false)) else (some false))) else (some false)) else (some false)) else (some false))) else (some false)) else (some false)) else (some false))) else (some false))) = some r := by first | (rw [hy138]; with_reducible exact H) | (have H2_ := (Option.bind_some _ _).symm.trans H; rw [hy138]; with_reducible exact H2_) | (have H2_ := (Option.bind_some _ _).symm.trans H; with_reducible exact H2_) | with_reducible exact H | (rw [hy138]; exact H) | exact H
 have Ny138 := Az0.mk hy138
 clear hy138
 replace H := Option.bind_eq_some_iff.mp H
 obtain ⟨⟨t141, t144, t145, t146, t147⟩, A60, H⟩ := H
 replace H : (if t114 = 0 then ((lSa.f k t110 (([2, 2] : List Int))).bind fun t153 => (if t153 = true then (if t113 = 4 then (if t125 = 0 then ((lSa.f k t121 (([0, 1] : List Int))).bind fun t157 => (if t157 = true then (if t124 = 3 then (if t135 = 0 then ((trishawlaw02_parts.f k t129 t132 (([2, 1] : List Int)) 3).bind fun t161 => (if t161 = true then (if (t133 == 4 && (t134 == 3)) = true then (if t147 = 0 then (some (t145 == 7 && (t146 == 8))) else (some false)) else (some false)) else (some false))) else (some false)) else (some false)) else (some false))) else (some false)) else (some false)) else (some false))) else (some false)) = some r := H
 have A6 := Az0.mk A60
 clear A60
 by_cases c7 : t114 = 0
 ·rw [if_pos c7] at H
  have c7b0 : (t114 == 0) = true := beq_iff_eq.mpr c7
  have c7b1 : (t114 != 0) = false := bne_eq_false_iff_eq.mpr c7
  clear c7
  obtain ⟨y150, hy150⟩ : ∃ y_ : List Int, y_ = (([2, 2] : List Int)) := ⟨_, rfl⟩
  replace H : ((lSa.f k t110 y150).bind fun t153 => (if t153 = true then (if t113 = 4 then (if t125 = 0 then ((lSa.f k t121 (([0, 1] : List Int))).bind fun t157 => (if t157 = true then (if t124 = 3 then (if t135 = 0 then ((trishawlaw02_parts.f k t129 t132 (([2, 1] : List Int)) 3).bind fun t161 => (if t161 = true then (if (t133 == 4 && (t134 == 3)) = true then (if t147 = 0 then (some (t145 == 7 && (t146 == 8))) else (some false)) else (some false)) else (some false))) else (some false)) else (some false)) else (some false))) else (some false)) else (some false)) else (some false))) = some r := by first | (rw [hy150]; with_reducible exact H) | (have H2_ := (Option.bind_some _ _).symm.trans H; rw [hy150]; with_reducible exact H2_) | (have H2_ := (Option.bind_some _ _).symm.trans H; with_reducible exact H2_) | with_reducible exact H | (rw [hy150]; exact H) | exact H
  have Ny150 := Az0.mk hy150
  clear hy150
  replace H := Option.bind_eq_some_iff.mp H
  obtain ⟨t153, A80, H⟩ := H
  replace H : (if t153 = true then (if t113 = 4 then (if t125 = 0 then ((lSa.f k t121 (([0, 1] : List Int))).bind fun t157 => (if t157 = true then (if t124 = 3 then (if t135 = 0 then ((trishawlaw02_parts.f k t129 t132 (([2, 1] : List Int)) 3).bind fun t161 => (if t161 = true then (if (t133 == 4 && (t134 == 3)) = true then (if t147 = 0 then (some (t145 == 7 && (t146 == 8))) else (some false)) else (some false)) else (some false))) else (some false)) else (some false)) else (some false))) else (some false)) else (some false)) else (some false)) = some r := H
  have A8 := Az0.mk A80
  clear A80
  by_cases c9 : t153 = true
  ·subst c9
   have H1 : (if t113 = 4 then (if t125 = 0 then ((lSa.f k t121 (([0, 1] : List Int))).bind fun t157 => (if t157 = true then (if t124 = 3 then (if t135 = 0 then ((trishawlaw02_parts.f k t129 t132 (([2, 1] : List Int)) 3).bind fun t161 => (if t161 = true then (if (t133 == 4 && (t134 == 3)) = true then (if t147 = 0 then (some (t145 == 7 && (t146 == 8))) else (some false)) else (some false)) else (some false))) else (some false)) else (some false)) else (some false))) else (some false)) else (some false)) = some r := by rw [if_pos rfl] at H; exact H
   clear H
   have H := H1
   clear H1
   by_cases c10 : t113 = 4
   ·rw [if_pos c10] at H
    have c10b0 : (t113 == 4) = true := beq_iff_eq.mpr c10
    have c10b1 : (t113 != 4) = false := bne_eq_false_iff_eq.mpr c10
    clear c10
    by_cases c11 : t125 = 0
    ·rw [if_pos c11] at H
     have c11b0 : (t125 == 0) = true := beq_iff_eq.mpr c11
     have c11b1 : (t125 != 0) = false := bne_eq_false_iff_eq.mpr c11
     clear c11
     obtain ⟨y154, hy154⟩ : ∃ y_ : List Int, y_ = (([0, 1] : List Int)) := ⟨_, rfl⟩
     replace H : ((lSa.f k t121 y154).bind fun t157 => (if t157 = true then (if t124 = 3 then (if t135 = 0 then ((trishawlaw02_parts.f k t129 t132 (([2, 1] : List Int)) 3).bind fun t161 => (if t161 = true then (if (t133 == 4 && (t134 == 3)) = true then (if t147 = 0 then (some (t145 == 7 && (t146 == 8))) else (some false)) else (some false)) else (some false))) else (some false)) else (some false)) else (some false))) = some r := by first | (rw [hy154]; with_reducible exact H) | (have H2_ := (Option.bind_some _ _).symm.trans H; rw [hy154]; with_reducible exact H2_) | (have H2_ := (Option.bind_some _ _).symm.trans H; with_reducible exact H2_) | with_reducible exact H | (rw [hy154]; exact H) | exact H
     have Ny154 := Az0.mk hy154
     clear hy154
     replace H := Option.bind_eq_some_iff.mp H
     obtain ⟨t157, A120, H⟩ := H
     replace H : (if t157 = true then (if t124 = 3 then (if t135 = 0 then ((trishawlaw02_parts.f k t129 t132 (([2, 1] : List Int)) 3).bind fun t161 => (if t161 = true then (if (t133 == 4 && (t134 == 3)) = true then (if t147 = 0 then (some (t145 == 7 && (t146 == 8))) else (some false)) else (some false)) else (some false))) else (some false)) else (some false)) else (some false)) = some r := H
     have A12 := Az0.mk A120
     clear A120
     by_cases c13 : t157 = true
     ·subst c13
      have H1 : (if t124 = 3 then (if t135 = 0 then ((trishawlaw02_parts.f k t129 t132 (([2, 1] : List Int)) 3).bind fun t161 => (if t161 = true then (if (t133 == 4 && (t134 == 3)) = true then (if t147 = 0 then (some (t145 == 7 && (t146 == 8))) else (some false)) else (some false)) else (some false))) else (some false)) else (some false)) = some r := by rw [if_pos rfl] at H; exact H
      clear H
      have H := H1
      clear H1
      by_cases c14 : t124 = 3
      ·rw [if_pos c14] at H
       have c14b0 : (t124 == 3) = true := beq_iff_eq.mpr c14
       have c14b1 : (t124 != 3) = false := bne_eq_false_iff_eq.mpr c14
       clear c14
       by_cases c15 : t135 = 0
       ·rw [if_pos c15] at H
        have c15b0 : (t135 == 0) = true := beq_iff_eq.mpr c15
        have c15b1 : (t135 != 0) = false := bne_eq_false_iff_eq.mpr c15
        clear c15
        obtain ⟨y158, hy158⟩ : ∃ y_ : List Int, y_ = (([2, 1] : List Int)) := ⟨_, rfl⟩
        replace H : ((trishawlaw02_parts.f k t129 t132 y158 3).bind fun t161 => (if t161 = true then (if (t133 == 4 && (t134 == 3)) = true then (if t147 = 0 then (some (t145 == 7 && (t146 == 8))) else (some false)) else (some false)) else (some false))) = some r := by first | (rw [hy158]; with_reducible exact H) | (have H2_ := (Option.bind_some _ _).symm.trans H; rw [hy158]; with_reducible exact H2_) | (have H2_ := (Option.bind_some _ _).symm.trans H; with_reducible exact H2_) | with_reducible exact H | (rw [hy158]; exact H) | exact H
        have Ny158 := Az0.mk hy158
        clear hy158
        replace H := Option.bind_eq_some_iff.mp H
        obtain ⟨t161, A160, H⟩ := H
        replace H : (if t161 = true then (if (t133 == 4 && (t134 == 3)) = true then (if t147 = 0 then (some (t145 == 7 && (t146 == 8))) else (some false)) else (some false)) else (some false)) = some r := H
        have A16 := Az0.mk A160
        clear A160
        by_cases c17 : t161 = true
        ·subst c17
         have H1 : (if (t133 == 4 && (t134 == 3)) = true then (if t147 = 0 then (some (t145 == 7 && (t146 == 8))) else (some false)) else (some false)) = some r := by rw [if_pos rfl] at H; exact H
         clear H
         have H := H1
         clear H1
         by_cases c18 : (t133 == 4 && (t134 == 3)) = true
         ·rw [if_pos c18] at H
          have c18b0 : (t133 == 4 && (t134 == 3)) = true := c18
          (try (have c18b1 : decide (t133 = 4 && (t134 == 3)) = true := by simpa using c18))
          (try (have c18b2 : (t133 == 4 && (t134 == 3)) = true := by simpa using c18))
          clear c18
          by_cases c19 : t147 = 0
          ·rw [if_pos c19] at H
           have c19b0 : (t147 == 0) = true := beq_iff_eq.mpr c19
           have c19b1 : (t147 != 0) = false := bne_eq_false_iff_eq.mpr c19
           clear c19
           obtain rfl := Option.some.inj H
           go_enter Try.func16, Try.ntmps16
           go_wp2_with (first | ((with_reducible refine gate_callee (f := 47) rfl ?_); refine goesL_ (some 14) rfl rfl Try.func47 (by kernel_rfl) rfl #[] rfl (by (try simp only [List.map_toArray, List.map_cons, List.map_nil]); first | done | rfl | (simp only [List.length_drop, List.length_take]; rfl)) ?_; (with_reducible refine (trishawlaw02_two.calls  t101 t104 _ A1.out).mono ?_); rintro e w20 ⟨v102, v105, rfl, ho0, ho1, hb⟩; refine ⟨_, rfl, ?_⟩; have n0_ := Az0.mk (Kd.N_lower (Kd.N_mono (ok' := fun k_ => some k_ ≠ (v105 : Value).ownBlock) ho0 (fun k_ hk_ => hk_.2)) (bZ_ (by repeat (first | (with_reducible first | exact HB.out | apply baA_ | apply pbN_ | apply bD1_) | exact HB.out)))); have n1_ := Az0.mk (Kd.N_lower (Kd.N_mono (ok' := fun k_ => some k_ ≠ (v102 : Value).ownBlock) ho1 (fun k_ hk_ => hk_.2)) (bZ_ (by repeat (first | (with_reducible first | exact HB.out | apply baA_ | apply pbN_ | apply bD1_) | exact HB.out)))); have n2_ := Az0.mk (bP_ (by repeat (first | (with_reducible first | exact HB.out | apply baA_ | apply pbN_ | apply bD1_) | exact HB.out)) hb); clear HB; have HO103 := n0_; have HO106 := n1_; have HB := n2_; clear n0_ n1_ n2_; (try clear hb); (try clear hb2); (try clear hk); (try clear hi); (try clear ho0); (try clear ho1)) | ((with_reducible refine gD_ (N := 15) rfl ?_); (try (refine gate_guard (by rfl) ?_; dsimp only)); refine Kd.R_lit (Kd.int .i64) _ 3 ?hg (N := 15) ?hd (xs := ([0, 0] : List Int)) (inner := [.int .i64 0, .int .i64 0]) (ok := fun _ => True) (okp := fun _ => True) ?hr ?hp (fun _ hk => hk) trivial (Below.refl _ _) (Nat.le_refl _) (by simp) ?_; (case hd => rfl); (case hg => rfl); (case hr => first | (go_simp; done) | (go_simp; rfl)); (case hp => exact (Reps.one (show Kd.M (Kd.int .i64) _ _ _ 0 [.int .i64 0] from rfl) (Reps.one (show Kd.M (Kd.int .i64) _ _ _ 0 [.int .i64 0] from rfl) (Reps.none _ _)))); intro v108 w21 ho22 hb hg_ hnew_; clear hg_ hnew_; (first | rw [← Ny107.out] at ho22 | (simp only [Int.reduceToNat] at ho22; rw [← Ny107.out] at ho22)); have n0_ := Az0.mk (Kd.N_elder' (by (with_reducible repeat (first | apply Kd.N_alloc | apply Kd.N_drewN | apply Kd.N_drew)); exact HO103.out) (Kd.rB_ ho22) hb); have n1_ := Az0.mk (Kd.N_elder' (by (with_reducible repeat (first | apply Kd.N_alloc | apply Kd.N_drewN | apply Kd.N_drew)); exact HO106.out) (Kd.rB_ ho22) hb); have n2_ := Az0.mk (Kd.R_lower ho22 (bZ_ (by repeat (first | (with_reducible first | exact HB.out | apply baA_ | apply pbN_ | apply bD1_) | exact HB.out)))); have n3_ := Az0.mk (bP_ (by repeat (first | (with_reducible first | exact HB.out | apply baA_ | apply pbN_ | apply bD1_) | exact HB.out)) hb); clear HO103; clear HO106; clear HB; have HO103 := n0_; have HO106 := n1_; have HO109 := n2_; have HB := n3_; clear n0_ n1_ n2_ n3_; clear hb ho22; obtain ⟨Ao23, co23, eo23⟩ := Kd.N_slice HO103.out; subst eo23; obtain ⟨Ao24, co24, eo24⟩ := Kd.N_slice HO106.out; subst eo24; obtain ⟨Ao25, co25, eo25⟩ := Kd.R_slice HO109.out; subst eo25) | ((with_reducible refine gate_callee (f := 28) rfl ?_); refine goesL_ (some 16) rfl rfl Try.func28 (by kernel_rfl) rfl #[.agg #[.slice Ao23 t101.length co23, .slice Ao24 t104.length co24], .slice Ao25 y107.length co25] rfl (by (try simp only [List.map_toArray, List.map_cons, List.map_nil]); first | done | rfl | (simp only [List.length_drop, List.length_take]; rfl)) ?_; (with_reducible refine (jam_Costs.calls k _ _ t101 _ _ t104 _ _ y107 t110 t113 t114 _ ?side1 ?side2 ?side3 ?side4 ?side5 ?side6 A2.out).mono ?_); (case side1 => repeat (first | exact (Kd.N_reads' HO103.out).2.2 | (with_reducible refine Kd.C_alloc ?_ _) | (with_reducible refine Kd.C_drewN ?_ _) | (with_reducible refine Kd.C_drew ?_))); (case side2 => exact (Kd.N_reads' HO103.out).2.1); (case side3 => repeat (first | exact (Kd.N_reads' HO106.out).2.2 | (with_reducible refine Kd.C_alloc ?_ _) | (with_reducible refine Kd.C_drewN ?_ _) | (with_reducible refine Kd.C_drew ?_))); (case side4 => exact (Kd.N_reads' HO106.out).2.1); (case side5 => repeat (first | exact (Kd.R_reads' HO109.out).2.2 | (with_reducible refine Kd.C_alloc ?_ _) | (with_reducible refine Kd.C_drewN ?_ _) | (with_reducible refine Kd.C_drew ?_))); (case side6 => exact (Kd.R_reads' HO109.out).2.1); rintro e w26 ⟨v111, rfl, ho0, hb⟩; refine ⟨_, rfl, ?_⟩; have n0_ := Az0.mk (Kd.N_elder' (by (with_reducible repeat (first | apply Kd.N_alloc | apply Kd.N_drewN | apply Kd.N_drew)); exact HO103.out) (Kd.rB_ ho0) hb); have n1_ := Az0.mk (Kd.N_elder' (by (with_reducible repeat (first | apply Kd.N_alloc | apply Kd.N_drewN | apply Kd.N_drew)); exact HO106.out) (Kd.rB_ ho0) hb); have n2_ := Az0.mk (Kd.R_elder' (by (with_reducible repeat (first | apply Kd.R_alloc | apply Kd.R_drewN | apply Kd.R_drew)); exact HO109.out) (Kd.rB_ ho0) hb); have n3_ := Az0.mk (Kd.R_lower (Kd.R_new' ho0 (Kd.R_lt (by (with_reducible repeat (first | apply Kd.R_alloc | apply Kd.R_drewN | apply Kd.R_drew)); exact HO109.out))) (bZ_ (by repeat (first | (with_reducible first | exact HB.out | apply baA_ | apply pbN_ | apply bD1_) | exact HB.out)))); have n4_ := Az0.mk (bP_ (by repeat (first | (with_reducible first | exact HB.out | apply baA_ | apply pbN_ | apply bD1_) | exact HB.out)) hb); clear HO103; clear HO106; clear HO109; clear HB; have HO103 := n0_; have HO106 := n1_; have HO109 := n2_; have HO112 := n3_; have HB := n4_; clear n0_ n1_ n2_ n3_ n4_; (try clear hb); (try clear hb2); (try clear hk); (try clear hi); (try clear ho0)) | ((with_reducible refine gate_callee (f := 47) rfl ?_); refine goesL_ (some 21) rfl rfl Try.func47 (by kernel_rfl) rfl #[] rfl (by (try simp only [List.map_toArray, List.map_cons, List.map_nil]); first | done | rfl | (simp only [List.length_drop, List.length_take]; rfl)) ?_; (with_reducible refine (trishawlaw02_two.calls  t115 t118 _ A3.out).mono ?_); rintro e w27 ⟨v116, v119, rfl, ho0, ho1, hb⟩; refine ⟨_, rfl, ?_⟩; have n0_ := Az0.mk (Kd.N_mono (Kd.N_told (Kd.N_told (Kd.N_old (by (with_reducible repeat (first | apply Kd.N_alloc | apply Kd.N_drewN | apply Kd.N_drew)); exact HO103.out) hb) (Kd.N_base ho0)) (Kd.N_base ho1)) (fun _ h_ => h_.1)); have n1_ := Az0.mk (Kd.N_mono (Kd.N_told (Kd.N_told (Kd.N_old (by (with_reducible repeat (first | apply Kd.N_alloc | apply Kd.N_drewN | apply Kd.N_drew)); exact HO106.out) hb) (Kd.N_base ho0)) (Kd.N_base ho1)) (fun _ h_ => h_.1)); have n2_ := Az0.mk (Kd.rW_ (by (with_reducible repeat (first | apply Kd.R_alloc | apply Kd.R_drewN | apply Kd.R_drew)); exact HO109.out) hb); have n3_ := Az0.mk (Kd.rW_ (by (with_reducible repeat (first | apply Kd.R_alloc | apply Kd.R_drewN | apply Kd.R_drew)); exact HO112.out) hb); have n4_ := Az0.mk (Kd.N_lower (Kd.N_mono (ok' := fun k_ => some k_ ≠ (v119 : Value).ownBlock ∧ some k_ ≠ (.slice Ao23 t101.length co23 : Value).ownBlock ∧ some k_ ≠ (.slice Ao24 t104.length co24 : Value).ownBlock ∧ some k_ ≠ (.slice Ao25 y107.length co25 : Value).ownBlock ∧ some k_ ≠ (v111 : Value).ownBlock) ho0 (fun k_ hk_ => ⟨hk_.2, (Kd.fresh' (Kd.N_lt (by (with_reducible repeat (first | apply Kd.N_alloc | apply Kd.N_drewN | apply Kd.N_drew)); exact HO103.out)) k_ hk_.1), (Kd.fresh' (Kd.N_lt (by (with_reducible repeat (first | apply Kd.N_alloc | apply Kd.N_drewN | apply Kd.N_drew)); exact HO106.out)) k_ hk_.1), (Kd.fresh' (Kd.R_lt (by (with_reducible repeat (first | apply Kd.R_alloc | apply Kd.R_drewN | apply Kd.R_drew)); exact HO109.out)) k_ hk_.1), (Kd.fresh' (Kd.R_lt (by (with_reducible repeat (first | apply Kd.R_alloc | apply Kd.R_drewN | apply Kd.R_drew)); exact HO112.out)) k_ hk_.1)⟩)) (bZ_ (by repeat (first | (with_reducible first | exact HB.out | apply baA_ | apply pbN_ | apply bD1_) | exact HB.out)))); have n5_ := Az0.mk (Kd.N_lower (Kd.N_mono (ok' := fun k_ => some k_ ≠ (v116 : Value).ownBlock ∧ some k_ ≠ (.slice Ao23 t101.length co23 : Value).ownBlock ∧ some k_ ≠ (.slice Ao24 t104.length co24 : Value).ownBlock ∧ some k_ ≠ (.slice Ao25 y107.length co25 : Value).ownBlock ∧ some k_ ≠ (v111 : Value).ownBlock) ho1 (fun k_ hk_ => ⟨hk_.2, (Kd.fresh' (Kd.N_lt (by (with_reducible repeat (first | apply Kd.N_alloc | apply Kd.N_drewN | apply Kd.N_drew)); exact HO103.out)) k_ hk_.1), (Kd.fresh' (Kd.N_lt (by (with_reducible repeat (first | apply Kd.N_alloc | apply Kd.N_drewN | apply Kd.N_drew)); exact HO106.out)) k_ hk_.1), (Kd.fresh' (Kd.R_lt (by (with_reducible repeat (first | apply Kd.R_alloc | apply Kd.R_drewN | apply Kd.R_drew)); exact HO109.out)) k_ hk_.1), (Kd.fresh' (Kd.R_lt (by (with_reducible repeat (first | apply Kd.R_alloc | apply Kd.R_drewN | apply Kd.R_drew)); exact HO112.out)) k_ hk_.1)⟩)) (bZ_ (by repeat (first | (with_reducible first | exact HB.out | apply baA_ | apply pbN_ | apply bD1_) | exact HB.out)))); have n6_ := Az0.mk (bP_ (by repeat (first | (with_reducible first | exact HB.out | apply baA_ | apply pbN_ | apply bD1_) | exact HB.out)) hb); clear HO103; clear HO106; clear HO109; clear HO112; clear HB; have HO103 := n0_; have HO106 := n1_; have HO109 := n2_; have HO112 := n3_; have HO117 := n4_; have HO120 := n5_; have HB := n6_; clear n0_ n1_ n2_ n3_ n4_ n5_ n6_; (try clear hb); (try clear hb2); (try clear hk); (try clear hi); (try clear ho0); (try clear ho1); obtain ⟨Ao28, co28, eo28⟩ := Kd.N_slice HO117.out; subst eo28; obtain ⟨Ao29, co29, eo29⟩ := Kd.N_slice HO120.out; subst eo29) | ((with_reducible refine gate_callee (f := 27) rfl ?_); refine goesL_ (some 22) rfl rfl Try.func27 (by kernel_rfl) rfl #[.agg #[.slice Ao28 t115.length co28, .slice Ao29 t118.length co29]] rfl (by (try simp only [List.map_toArray, List.map_cons, List.map_nil]); first | done | rfl | (simp only [List.length_drop, List.length_take]; rfl)) ?_; (with_reducible refine (jam_Best.calls k _ _ t115 _ _ t118 t121 t124 t125 _ ?side1 ?side2 ?side3 ?side4 A4.out).mono ?_); (case side1 => repeat (first | exact (Kd.N_reads' HO117.out).2.2 | (with_reducible refine Kd.C_alloc ?_ _) | (with_reducible refine Kd.C_drewN ?_ _) | (with_reducible refine Kd.C_drew ?_))); (case side2 => exact (Kd.N_reads' HO117.out).2.1); (case side3 => repeat (first | exact (Kd.N_reads' HO120.out).2.2 | (with_reducible refine Kd.C_alloc ?_ _) | (with_reducible refine Kd.C_drewN ?_ _) | (with_reducible refine Kd.C_drew ?_))); (case side4 => exact (Kd.N_reads' HO120.out).2.1); rintro e w30 ⟨v122, rfl, ho0, hb⟩; refine ⟨_, rfl, ?_⟩; have n2_ := Az0.mk (Kd.R_elder' (by (with_reducible repeat (first | apply Kd.R_alloc | apply Kd.R_drewN | apply Kd.R_drew)); exact HO109.out) (Kd.rB_ ho0) hb); have n3_ := Az0.mk (Kd.R_elder' (by (with_reducible repeat (first | apply Kd.R_alloc | apply Kd.R_drewN | apply Kd.R_drew)); exact HO112.out) (Kd.rB_ ho0) hb); have n6_ := Az0.mk (Kd.R_lower (Kd.R_new' (Kd.R_new' ho0 (Kd.R_lt (by (with_reducible repeat (first | apply Kd.R_alloc | apply Kd.R_drewN | apply Kd.R_drew)); exact HO109.out))) (Kd.R_lt (by (with_reducible repeat (first | apply Kd.R_alloc | apply Kd.R_drewN | apply Kd.R_drew)); exact HO112.out))) (bZ_ (by repeat (first | (with_reducible first | exact HB.out | apply baA_ | apply pbN_ | apply bD1_) | exact HB.out)))); have n7_ := Az0.mk (bP_ (by repeat (first | (with_reducible first | exact HB.out | apply baA_ | apply pbN_ | apply bD1_) | exact HB.out)) hb); clear HO109; clear HO112; clear HB; have HO109 := n2_; have HO112 := n3_; have HO123 := n6_; have HB := n7_; clear n2_ n3_ n6_ n7_; (try clear hb); (try clear hb2); (try clear hk); (try clear hi); (try clear ho0)) | ((with_reducible refine gD_ (N := 29) rfl ?_); (try (refine gate_guard (by rfl) ?_; dsimp only)); refine Kd.R_lit k36 _ 36 ?hg (N := 29) ?hd (xs := ([(⟨0, 2⟩ : S36), (⟨1, 1⟩ : S36)] : List (S36))) (inner := [.int .i64 0, .int .i64 2, .int .i64 1, .int .i64 1]) (ok := fun _ => True) (okp := fun _ => True) ?hr ?hp (fun _ hk => hk) trivial (Below.refl _ _) (Nat.le_refl _) (by simp) ?_; (case hd => rfl); (case hg => rfl); (case hr => first | (go_simp; done) | (go_simp; rfl)); (case hp => exact (Reps.c2 (show Kd.M k36 _ _ _ (⟨0, 2⟩ : S36) [.int .i64 0, .int .i64 2] from (k36_mkM _ _ _ (⟨0, 2⟩ : S36) )) (Reps.c2 (show Kd.M k36 _ _ _ (⟨1, 1⟩ : S36) [.int .i64 1, .int .i64 1] from (k36_mkM _ _ _ (⟨1, 1⟩ : S36) )) (Reps.none _ _)))); intro v127 w31 ho32 hb hg_ hnew_; clear hg_ hnew_; (first | rw [← Ny126.out] at ho32 | (simp only [Int.reduceToNat] at ho32; rw [← Ny126.out] at ho32)); have n2_ := Az0.mk (Kd.rW_ (by (with_reducible repeat (first | apply Kd.R_alloc | apply Kd.R_drewN | apply Kd.R_drew)); exact HO109.out) hb); have n3_ := Az0.mk (Kd.rW_ (by (with_reducible repeat (first | apply Kd.R_alloc | apply Kd.R_drewN | apply Kd.R_drew)); exact HO112.out) hb); have n6_ := Az0.mk (Kd.rW_ (by (with_reducible repeat (first | apply Kd.R_alloc | apply Kd.R_drewN | apply Kd.R_drew)); exact HO123.out) hb); have n7_ := Az0.mk (Kd.R_lower ho32 (bZ_ (by repeat (first | (with_reducible first | exact HB.out | apply baA_ | apply pbN_ | apply bD1_) | exact HB.out)))); have n8_ := Az0.mk (bP_ (by repeat (first | (with_reducible first | exact HB.out | apply baA_ | apply pbN_ | apply bD1_) | exact HB.out)) hb); clear HO109; clear HO112; clear HO123; clear HB; have HO109 := n2_; have HO112 := n3_; have HO123 := n6_; have HO128 := n7_; have HB := n8_; clear n2_ n3_ n6_ n7_ n8_; clear hb ho32; obtain ⟨Ao33, co33, eo33⟩ := Kd.R_slice HO128.out; subst eo33) | ((with_reducible refine gate_callee (f := 17) rfl ?_); refine goesL_ (some 30) rfl rfl Try.func17 (by kernel_rfl) rfl #[.slice Ao33 y126.length co33] rfl (by (try simp only [List.map_toArray, List.map_cons, List.map_nil]); first | done | rfl | (simp only [List.length_drop, List.length_take]; rfl)) ?_; (with_reducible refine (jam_Balance.calls k _ _ y126 t129 t132 t133 t134 t135 _ ?side1 ?side2 A5.out).mono ?_); (case side1 => repeat (first | exact (Kd.R_reads' HO128.out).2.2 | (with_reducible refine Kd.C_alloc ?_ _) | (with_reducible refine Kd.C_drewN ?_ _) | (with_reducible refine Kd.C_drew ?_))); (case side2 => exact (Kd.R_reads' HO128.out).2.1); rintro e w34 ⟨v130, rfl, ho0, hb⟩; refine ⟨_, rfl, ?_⟩; have n2_ := Az0.mk (Kd.R_elder' (by (with_reducible repeat (first | apply Kd.R_alloc | apply Kd.R_drewN | apply Kd.R_drew)); exact HO109.out) (Kd.rB_ ho0) hb); have n3_ := Az0.mk (Kd.R_elder' (by (with_reducible repeat (first | apply Kd.R_alloc | apply Kd.R_drewN | apply Kd.R_drew)); exact HO112.out) (Kd.rB_ ho0) hb); have n6_ := Az0.mk (Kd.R_elder' (by (with_reducible repeat (first | apply Kd.R_alloc | apply Kd.R_drewN | apply Kd.R_drew)); exact HO123.out) (Kd.rB_ ho0) hb); have n7_ := Az0.mk (Kd.rW_ (by (with_reducible repeat (first | apply Kd.R_alloc | apply Kd.R_drewN | apply Kd.R_drew)); exact HO128.out) hb); have n8_ := Az0.mk (Kd.R_lower (Kd.R_new' (Kd.R_new' (Kd.R_new' ho0 (Kd.R_lt (by (with_reducible repeat (first | apply Kd.R_alloc | apply Kd.R_drewN | apply Kd.R_drew)); exact HO109.out))) (Kd.R_lt (by (with_reducible repeat (first | apply Kd.R_alloc | apply Kd.R_drewN | apply Kd.R_drew)); exact HO112.out))) (Kd.R_lt (by (with_reducible repeat (first | apply Kd.R_alloc | apply Kd.R_drewN | apply Kd.R_drew)); exact HO123.out))) (bZ_ (by repeat (first | (with_reducible first | exact HB.out | apply baA_ | apply pbN_ | apply bD1_) | exact HB.out)))); have n9_ := Az0.mk (bP_ (by repeat (first | (with_reducible first | exact HB.out | apply baA_ | apply pbN_ | apply bD1_) | exact HB.out)) hb); clear HO109; clear HO112; clear HO123; clear HO128; clear HB; have HO109 := n2_; have HO112 := n3_; have HO123 := n6_; have HO128 := n7_; have HO131 := n8_; have HB := n9_; clear n2_ n3_ n6_ n7_ n8_ n9_; (try clear hb); (try clear hb2); (try clear hk); (try clear hi); (try clear ho0)) | ((with_reducible refine gD_ (N := 7) rfl ?_); (try (refine gate_guard (by rfl) ?_; dsimp only)); refine bE_ ?hg (N := 7) ?hd (cs := #[.slice none 0 0, .int .i64 0]) (t := 26) ?hr ?_; (case hd => rfl); (case hg => rfl); (case hr => first | (go_simp; done) | (go_simp; rfl)); intro gb136 hg w35 hbox hb; have n2_ := Az0.mk (Kd.rW_ (by (with_reducible repeat (first | apply Kd.R_alloc | apply Kd.R_drewN | apply Kd.R_drew)); exact HO109.out) hb); have n3_ := Az0.mk (Kd.rW_ (by (with_reducible repeat (first | apply Kd.R_alloc | apply Kd.R_drewN | apply Kd.R_drew)); exact HO112.out) hb); have n6_ := Az0.mk (Kd.rW_ (by (with_reducible repeat (first | apply Kd.R_alloc | apply Kd.R_drewN | apply Kd.R_drew)); exact HO123.out) hb); have n7_ := Az0.mk (Kd.rW_ (by (with_reducible repeat (first | apply Kd.R_alloc | apply Kd.R_drewN | apply Kd.R_drew)); exact HO128.out) hb); have n8_ := Az0.mk (Kd.rW_ (by (with_reducible repeat (first | apply Kd.R_alloc | apply Kd.R_drewN | apply Kd.R_drew)); exact HO131.out) hb); have n9_ := Az0.mk (bP_ (by repeat (first | (with_reducible first | exact HB.out | apply baA_ | apply pbN_ | apply bD1_) | exact HB.out)) hb); have n10_ := Az0.mk (hbox); have n11_ := Az0.mk ((by rw [hg]; exact (bZ_ (by repeat (first | (with_reducible first | exact HB.out | apply baA_ | apply pbN_ | apply bD1_) | exact HB.out))) : w.heap.size ≤ gb136)); have n12_ := Az0.mk ((by rw [hg]; exact (bZ_ (by repeat (first | (with_reducible first | exact HB.out | apply baA_ | apply pbN_ | apply bD1_) | exact HB.out))) : w.heap.size ≤ gb136)); clear HO109; clear HO112; clear HO123; clear HO128; clear HO131; clear HB; have HO109 := n2_; have HO112 := n3_; have HO123 := n6_; have HO128 := n7_; have HO131 := n8_; have HB := n9_; have BK136 := n10_; have GW136 := n11_; have GE136 := n12_; clear n2_ n3_ n6_ n7_ n8_ n9_ n10_ n11_ n12_; clear hb hbox hg) | ((with_reducible refine gD_ (N := 8) rfl ?_); (try (refine gate_guard (by rfl) ?_; dsimp only)); refine bE_ ?hg (N := 8) ?hd (cs := #[.int .i64 0, .int .i64 0]) (t := 28) ?hr ?_; (case hd => rfl); (case hg => rfl); (case hr => first | (go_simp; done) | (go_simp; rfl)); intro gb137 hg w36 hbox hb; have n2_ := Az0.mk (Kd.rW_ (by (with_reducible repeat (first | apply Kd.R_alloc | apply Kd.R_drewN | apply Kd.R_drew)); exact HO109.out) hb); have n3_ := Az0.mk (Kd.rW_ (by (with_reducible repeat (first | apply Kd.R_alloc | apply Kd.R_drewN | apply Kd.R_drew)); exact HO112.out) hb); have n6_ := Az0.mk (Kd.rW_ (by (with_reducible repeat (first | apply Kd.R_alloc | apply Kd.R_drewN | apply Kd.R_drew)); exact HO123.out) hb); have n7_ := Az0.mk (Kd.rW_ (by (with_reducible repeat (first | apply Kd.R_alloc | apply Kd.R_drewN | apply Kd.R_drew)); exact HO128.out) hb); have n8_ := Az0.mk (Kd.rW_ (by (with_reducible repeat (first | apply Kd.R_alloc | apply Kd.R_drewN | apply Kd.R_drew)); exact HO131.out) hb); have n9_ := Az0.mk (bB_ (g := gb136) (o := .cells #[.slice none 0 0, .int .i64 0] 26 (0, 0)) (by (with_reducible repeat (first | refine bN_ ?_ _ | refine bW_ ?_ | refine bA_ ?_ _)); exact BK136.out) hb); have n10_ := Az0.mk (bP_ (by repeat (first | (with_reducible first | exact HB.out | apply baA_ | apply pbN_ | apply bD1_ | refine bS_ ?_ GE136.out) | exact HB.out)) hb); have n11_ := Az0.mk (hbox); have n12_ := Az0.mk ((by rw [hg]; exact (bZ_ (by repeat (first | (with_reducible first | exact HB.out | apply baA_ | apply pbN_ | apply bD1_ | refine bS_ ?_ GE136.out) | exact HB.out))) : w.heap.size ≤ gb137)); have n13_ := Az0.mk ((by rw [hg]; exact (bZ_ (by repeat (first | (with_reducible first | exact HB.out | apply baA_ | apply pbN_ | apply bD1_ | refine bS_ ?_ GE136.out) | exact HB.out))) : w.heap.size ≤ gb137)); have n14_ := Az0.mk ((by rw [hg]; exact Nat.ne_of_lt (bL_ (g := gb136) (o := .cells #[.slice none 0 0, .int .i64 0] 26 (0, 0)) (by (with_reducible repeat (first | refine bN_ ?_ _ | refine bW_ ?_ | refine bA_ ?_ _)); exact BK136.out)) : gb136 ≠ gb137)); have n15_ := Az0.mk ((by rw [hg]; exact Nat.ne_of_gt (bL_ (g := gb136) (o := .cells #[.slice none 0 0, .int .i64 0] 26 (0, 0)) (by (with_reducible repeat (first | refine bN_ ?_ _ | refine bW_ ?_ | refine bA_ ?_ _)); exact BK136.out)) : gb137 ≠ gb136)); clear HO109; clear HO112; clear HO123; clear HO128; clear HO131; clear BK136; clear HB; have HO109 := n2_; have HO112 := n3_; have HO123 := n6_; have HO128 := n7_; have HO131 := n8_; have BK136 := n9_; have HB := n10_; have BK137 := n11_; have GW137 := n12_; have GE137 := n13_; have NB136_137 := n14_; have NB137_136 := n15_; clear n2_ n3_ n6_ n7_ n8_ n9_ n10_ n11_ n12_ n13_ n14_ n15_; clear hb hbox hg; obtain ⟨Ao37, co37, eo37⟩ := Kd.R_slice HO131.out; subst eo37; have hnb38 := NB136_137.out; have hnc38 := NB137_136.out; have hcz39_0 : w36.cell? ⟨gb136, 0, none⟩ = some (.slice none 0 0) := (bkC BK136.out 0).trans rfl; have hcz39_1 : w36.cell? ⟨gb136, 1, none⟩ = some (.int .i64 0) := (bkC BK136.out 1).trans rfl; have hfz39_0 := bF_ BK136.out 0; have hfz39_1 := bF_ BK136.out 1; have hcz40_0 : w36.cell? ⟨gb137, 0, none⟩ = some (.int .i64 0) := (bkC BK137.out 0).trans rfl; have hcz40_1 : w36.cell? ⟨gb137, 1, none⟩ = some (.int .i64 0) := (bkC BK137.out 1).trans rfl; have hfz40_0 := bF_ BK137.out 0; have hfz40_1 := bF_ BK137.out 1) | ((with_reducible refine gD_ (N := 37) rfl ?_); (try (refine gate_guard (by rfl) ?_; dsimp only)); refine Kd.R_lit k36 _ 36 ?hg (N := 37) ?hd (xs := ([(⟨0, 1⟩ : S36), (⟨1, 1⟩ : S36)] : List (S36))) (inner := [.int .i64 0, .int .i64 1, .int .i64 1, .int .i64 1]) (ok := fun _ => True) (okp := fun _ => True) ?hr ?hp (fun _ hk => hk) trivial (Below.refl _ _) (Nat.le_refl _) (by simp) ?_; (case hd => rfl); (case hg => rfl); (case hr => first | (go_simp; done) | (go_simp; rfl)); (case hp => exact (Reps.c2 (show Kd.M k36 _ _ _ (⟨0, 1⟩ : S36) [.int .i64 0, .int .i64 1] from (k36_mkM _ _ _ (⟨0, 1⟩ : S36) )) (Reps.c2 (show Kd.M k36 _ _ _ (⟨1, 1⟩ : S36) [.int .i64 1, .int .i64 1] from (k36_mkM _ _ _ (⟨1, 1⟩ : S36) )) (Reps.none _ _)))); intro v139 w41 ho42 hb hg_ hnew_; clear hg_ hnew_; (first | rw [← Ny138.out] at ho42 | (simp only [Int.reduceToNat] at ho42; rw [← Ny138.out] at ho42)); have n2_ := Az0.mk (Kd.rW_ (by (with_reducible repeat (first | apply Kd.R_alloc | apply Kd.R_drewN | apply Kd.R_drew)); exact (Kd.rM_ (Kd.rM_ (Kd.rF_ (p := ⟨gb137, 1, none⟩) (Kd.rF_ (p := ⟨gb137, 0, none⟩) (Kd.rF_ (p := ⟨gb136, 1, none⟩) (Kd.rF_ (p := ⟨gb136, 0, none⟩) (Kd.rY_ (Kd.rY_ HO109.out BK136.out (by decide)) BK137.out (by decide)) (fun _ hk => hk.1.2) (.slice Ao37 t129.length co37)) (fun _ hk => hk.1.2) (.int .i64 t132)) (fun _ hk => hk.2) (.int .i64 t133)) (fun _ hk => hk.2) (.int .i64 t134)) (fun _ h_ => h_.1)) (fun _ h_ => h_.1))) hb); have n3_ := Az0.mk (Kd.rW_ (by (with_reducible repeat (first | apply Kd.R_alloc | apply Kd.R_drewN | apply Kd.R_drew)); exact (Kd.rM_ (Kd.rM_ (Kd.rF_ (p := ⟨gb137, 1, none⟩) (Kd.rF_ (p := ⟨gb137, 0, none⟩) (Kd.rF_ (p := ⟨gb136, 1, none⟩) (Kd.rF_ (p := ⟨gb136, 0, none⟩) (Kd.rY_ (Kd.rY_ HO112.out BK136.out (by decide)) BK137.out (by decide)) (fun _ hk => hk.1.2) (.slice Ao37 t129.length co37)) (fun _ hk => hk.1.2) (.int .i64 t132)) (fun _ hk => hk.2) (.int .i64 t133)) (fun _ hk => hk.2) (.int .i64 t134)) (fun _ h_ => h_.1)) (fun _ h_ => h_.1))) hb); have n6_ := Az0.mk (Kd.rW_ (by (with_reducible repeat (first | apply Kd.R_alloc | apply Kd.R_drewN | apply Kd.R_drew)); exact (Kd.rM_ (Kd.rM_ (Kd.rF_ (p := ⟨gb137, 1, none⟩) (Kd.rF_ (p := ⟨gb137, 0, none⟩) (Kd.rF_ (p := ⟨gb136, 1, none⟩) (Kd.rF_ (p := ⟨gb136, 0, none⟩) (Kd.rY_ (Kd.rY_ HO123.out BK136.out (by decide)) BK137.out (by decide)) (fun _ hk => hk.1.2) (.slice Ao37 t129.length co37)) (fun _ hk => hk.1.2) (.int .i64 t132)) (fun _ hk => hk.2) (.int .i64 t133)) (fun _ hk => hk.2) (.int .i64 t134)) (fun _ h_ => h_.1)) (fun _ h_ => h_.1))) hb); have n7_ := Az0.mk (Kd.R_elder' (by (with_reducible repeat (first | apply Kd.R_alloc | apply Kd.R_drewN | apply Kd.R_drew)); exact (Kd.rM_ (Kd.rM_ (Kd.rF_ (p := ⟨gb137, 1, none⟩) (Kd.rF_ (p := ⟨gb137, 0, none⟩) (Kd.rF_ (p := ⟨gb136, 1, none⟩) (Kd.rF_ (p := ⟨gb136, 0, none⟩) (Kd.rY_ (Kd.rY_ HO128.out BK136.out (by decide)) BK137.out (by decide)) (fun _ hk => hk.1.2) (.slice Ao37 t129.length co37)) (fun _ hk => hk.1.2) (.int .i64 t132)) (fun _ hk => hk.2) (.int .i64 t133)) (fun _ hk => hk.2) (.int .i64 t134)) (fun _ h_ => h_.1)) (fun _ h_ => h_.1))) (Kd.rB_ ho42) hb); have n8_ := Az0.mk (Kd.rW_ (by (with_reducible repeat (first | apply Kd.R_alloc | apply Kd.R_drewN | apply Kd.R_drew)); exact (Kd.rM_ (Kd.rM_ (Kd.rF_ (p := ⟨gb137, 1, none⟩) (Kd.rF_ (p := ⟨gb137, 0, none⟩) (Kd.rF_ (p := ⟨gb136, 1, none⟩) (Kd.rF_ (p := ⟨gb136, 0, none⟩) (Kd.rY_ (Kd.rY_ HO131.out BK136.out (by decide)) BK137.out (by decide)) (fun _ hk => hk.1.2) (.slice Ao37 t129.length co37)) (fun _ hk => hk.1.2) (.int .i64 t132)) (fun _ hk => hk.2) (.int .i64 t133)) (fun _ hk => hk.2) (.int .i64 t134)) (fun _ h_ => h_.1)) (fun _ h_ => h_.1))) hb); have n9_ := Az0.mk (Kd.R_lower (Kd.R_new' ho42 (Kd.R_lt (by (with_reducible repeat (first | apply Kd.R_alloc | apply Kd.R_drewN | apply Kd.R_drew)); exact (Kd.rM_ (Kd.rM_ (Kd.rF_ (p := ⟨gb137, 1, none⟩) (Kd.rF_ (p := ⟨gb137, 0, none⟩) (Kd.rF_ (p := ⟨gb136, 1, none⟩) (Kd.rF_ (p := ⟨gb136, 0, none⟩) (Kd.rY_ (Kd.rY_ HO128.out BK136.out (by decide)) BK137.out (by decide)) (fun _ hk => hk.1.2) (.slice Ao37 t129.length co37)) (fun _ hk => hk.1.2) (.int .i64 t132)) (fun _ hk => hk.2) (.int .i64 t133)) (fun _ hk => hk.2) (.int .i64 t134)) (fun _ h_ => h_.1)) (fun _ h_ => h_.1))))) (bZ_ (by repeat (first | (with_reducible first | exact HB.out | apply baA_ | apply pbN_ | apply bD1_ | refine bS_ ?_ GE136.out | refine bS_ ?_ GE137.out) | exact HB.out)))); have n10_ := Az0.mk (bB_ (g := gb136) (o := .cells #[.slice Ao37 t129.length co37, .int .i64 t132] 26 (0, 0)) (by (with_reducible repeat (first | refine bN_ ?_ _ | refine bW_ ?_ | refine bA_ ?_ _)); refine bR_ ?_ NB136_137.out _; (with_reducible repeat (first | refine bN_ ?_ _ | refine bW_ ?_ | refine bA_ ?_ _)); refine bR_ ?_ NB136_137.out _; (with_reducible repeat (first | refine bN_ ?_ _ | refine bW_ ?_ | refine bA_ ?_ _)); refine blk_put (cs := #[.slice Ao37 t129.length co37, .int .i64 0]) ?_ 1 _ rfl; (with_reducible repeat (first | refine bN_ ?_ _ | refine bW_ ?_ | refine bA_ ?_ _)); refine blk_put (cs := #[.slice none 0 0, .int .i64 0]) ?_ 0 _ rfl; (with_reducible repeat (first | refine bN_ ?_ _ | refine bW_ ?_ | refine bA_ ?_ _)); exact BK136.out) hb); have n11_ := Az0.mk (bB_ (g := gb137) (o := .cells #[.int .i64 t133, .int .i64 t134] 28 (0, 0)) (by (with_reducible repeat (first | refine bN_ ?_ _ | refine bW_ ?_ | refine bA_ ?_ _)); refine blk_put (cs := #[.int .i64 t133, .int .i64 0]) ?_ 1 _ rfl; (with_reducible repeat (first | refine bN_ ?_ _ | refine bW_ ?_ | refine bA_ ?_ _)); refine blk_put (cs := #[.int .i64 0, .int .i64 0]) ?_ 0 _ rfl; (with_reducible repeat (first | refine bN_ ?_ _ | refine bW_ ?_ | refine bA_ ?_ _)); refine bR_ ?_ NB137_136.out _; (with_reducible repeat (first | refine bN_ ?_ _ | refine bW_ ?_ | refine bA_ ?_ _)); refine bR_ ?_ NB137_136.out _; (with_reducible repeat (first | refine bN_ ?_ _ | refine bW_ ?_ | refine bA_ ?_ _)); exact BK137.out) hb); have n12_ := Az0.mk (bP_ (by repeat (first | (with_reducible first | exact HB.out | apply baA_ | apply pbN_ | apply bD1_ | refine bS_ ?_ GE136.out | refine bS_ ?_ GE137.out) | exact HB.out)) hb); clear HO109; clear HO112; clear HO123; clear HO128; clear HO131; clear BK136; clear BK137; clear HB; have HO109 := n2_; have HO112 := n3_; have HO123 := n6_; have HO128 := n7_; have HO131 := n8_; have HO140 := n9_; have BK136 := n10_; have BK137 := n11_; have HB := n12_; clear n2_ n3_ n6_ n7_ n8_ n9_ n10_ n11_ n12_; clear hb ho42; obtain ⟨Ao43, co43, eo43⟩ := Kd.R_slice HO140.out; subst eo43) | ((with_reducible refine gate_callee (f := 20) rfl ?_); refine goesL_ (some 38) rfl rfl Try.func20 (by kernel_rfl) rfl #[.slice Ao43 y138.length co43] rfl (by (try simp only [List.map_toArray, List.map_cons, List.map_nil]); first | done | rfl | (simp only [List.length_drop, List.length_take]; rfl)) ?_; (with_reducible refine (jCh_.calls k _ _ y138 t141 t144 t145 t146 t147 _ ?side1 ?side2 A6.out).mono ?_); (case side1 => repeat (first | exact (Kd.R_reads' HO140.out).2.2 | (with_reducible refine Kd.C_alloc ?_ _) | (with_reducible refine Kd.C_drewN ?_ _) | (with_reducible refine Kd.C_drew ?_))); (case side2 => exact (Kd.R_reads' HO140.out).2.1); rintro e w44 ⟨v142, rfl, ho0, hb⟩; refine ⟨_, rfl, ?_⟩; have n2_ := Az0.mk (Kd.R_elder' (by (with_reducible repeat (first | apply Kd.R_alloc | apply Kd.R_drewN | apply Kd.R_drew)); exact HO109.out) (Kd.rB_ ho0) hb); have n3_ := Az0.mk (Kd.R_elder' (by (with_reducible repeat (first | apply Kd.R_alloc | apply Kd.R_drewN | apply Kd.R_drew)); exact HO112.out) (Kd.rB_ ho0) hb); have n6_ := Az0.mk (Kd.R_elder' (by (with_reducible repeat (first | apply Kd.R_alloc | apply Kd.R_drewN | apply Kd.R_drew)); exact HO123.out) (Kd.rB_ ho0) hb); have n8_ := Az0.mk (Kd.R_elder' (by (with_reducible repeat (first | apply Kd.R_alloc | apply Kd.R_drewN | apply Kd.R_drew)); exact HO131.out) (Kd.rB_ ho0) hb); have n10_ := Az0.mk (Kd.R_lower (Kd.R_new' (Kd.R_new' (Kd.R_new' (Kd.R_new' ho0 (Kd.R_lt (by (with_reducible repeat (first | apply Kd.R_alloc | apply Kd.R_drewN | apply Kd.R_drew)); exact HO109.out))) (Kd.R_lt (by (with_reducible repeat (first | apply Kd.R_alloc | apply Kd.R_drewN | apply Kd.R_drew)); exact HO112.out))) (Kd.R_lt (by (with_reducible repeat (first | apply Kd.R_alloc | apply Kd.R_drewN | apply Kd.R_drew)); exact HO123.out))) (Kd.R_lt (by (with_reducible repeat (first | apply Kd.R_alloc | apply Kd.R_drewN | apply Kd.R_drew)); exact HO131.out))) (bZ_ (by repeat (first | (with_reducible first | exact HB.out | apply baA_ | apply pbN_ | apply bD1_ | refine bS_ ?_ GE136.out | refine bS_ ?_ GE137.out) | exact HB.out)))); have n11_ := Az0.mk (bB_ (g := gb136) (o := .cells #[.slice Ao37 t129.length co37, .int .i64 t132] 26 (0, 0)) (by (with_reducible repeat (first | refine bN_ ?_ _ | refine bW_ ?_ | refine bA_ ?_ _)); exact BK136.out) hb); have n12_ := Az0.mk (bB_ (g := gb137) (o := .cells #[.int .i64 t133, .int .i64 t134] 28 (0, 0)) (by (with_reducible repeat (first | refine bN_ ?_ _ | refine bW_ ?_ | refine bA_ ?_ _)); exact BK137.out) hb); have n13_ := Az0.mk (bP_ (by repeat (first | (with_reducible first | exact HB.out | apply baA_ | apply pbN_ | apply bD1_ | refine bS_ ?_ GE136.out | refine bS_ ?_ GE137.out) | exact HB.out)) hb); clear HO109; clear HO112; clear HO123; clear HO131; clear BK136; clear BK137; clear HB; have HO109 := n2_; have HO112 := n3_; have HO123 := n6_; have HO131 := n8_; have HO143 := n10_; have BK136 := n11_; have BK137 := n12_; have HB := n13_; clear n2_ n3_ n6_ n8_ n10_ n11_ n12_ n13_; (try clear hb); (try clear hb2); (try clear hk); (try clear hi); (try clear ho0)) | ((with_reducible refine gD_ (N := 10) rfl ?_); (try (refine gate_guard (by rfl) ?_; dsimp only)); refine bE_ ?hg (N := 10) ?hd (cs := #[.slice none 0 0, .int .i64 0]) (t := 26) ?hr ?_; (case hd => rfl); (case hg => rfl); (case hr => first | (go_simp; done) | (go_simp; rfl)); intro gb148 hg w45 hbox hb; have n2_ := Az0.mk (Kd.rW_ (by (with_reducible repeat (first | apply Kd.R_alloc | apply Kd.R_drewN | apply Kd.R_drew)); exact HO109.out) hb); have n3_ := Az0.mk (Kd.rW_ (by (with_reducible repeat (first | apply Kd.R_alloc | apply Kd.R_drewN | apply Kd.R_drew)); exact HO112.out) hb); have n6_ := Az0.mk (Kd.rW_ (by (with_reducible repeat (first | apply Kd.R_alloc | apply Kd.R_drewN | apply Kd.R_drew)); exact HO123.out) hb); have n8_ := Az0.mk (Kd.rW_ (by (with_reducible repeat (first | apply Kd.R_alloc | apply Kd.R_drewN | apply Kd.R_drew)); exact HO131.out) hb); have n10_ := Az0.mk (Kd.rW_ (by (with_reducible repeat (first | apply Kd.R_alloc | apply Kd.R_drewN | apply Kd.R_drew)); exact HO143.out) hb); have n11_ := Az0.mk (bB_ (g := gb136) (o := .cells #[.slice Ao37 t129.length co37, .int .i64 t132] 26 (0, 0)) (by (with_reducible repeat (first | refine bN_ ?_ _ | refine bW_ ?_ | refine bA_ ?_ _)); exact BK136.out) hb); have n12_ := Az0.mk (bB_ (g := gb137) (o := .cells #[.int .i64 t133, .int .i64 t134] 28 (0, 0)) (by (with_reducible repeat (first | refine bN_ ?_ _ | refine bW_ ?_ | refine bA_ ?_ _)); exact BK137.out) hb); have n13_ := Az0.mk (bP_ (by repeat (first | (with_reducible first | exact HB.out | apply baA_ | apply pbN_ | apply bD1_ | refine bS_ ?_ GE136.out | refine bS_ ?_ GE137.out) | exact HB.out)) hb); have n14_ := Az0.mk (hbox); have n15_ := Az0.mk ((by rw [hg]; exact (bZ_ (by repeat (first | (with_reducible first | exact HB.out | apply baA_ | apply pbN_ | apply bD1_ | refine bS_ ?_ GE136.out | refine bS_ ?_ GE137.out) | exact HB.out))) : w.heap.size ≤ gb148)); have n16_ := Az0.mk ((by rw [hg]; exact (bZ_ (by repeat (first | (with_reducible first | exact HB.out | apply baA_ | apply pbN_ | apply bD1_ | refine bS_ ?_ GE136.out | refine bS_ ?_ GE137.out) | exact HB.out))) : w.heap.size ≤ gb148)); have n17_ := Az0.mk ((by rw [hg]; exact Nat.ne_of_lt (bL_ (g := gb136) (o := .cells #[.slice Ao37 t129.length co37, .int .i64 t132] 26 (0, 0)) (by (with_reducible repeat (first | refine bN_ ?_ _ | refine bW_ ?_ | refine bA_ ?_ _)); exact BK136.out)) : gb136 ≠ gb148)); have n18_ := Az0.mk ((by rw [hg]; exact Nat.ne_of_gt (bL_ (g := gb136) (o := .cells #[.slice Ao37 t129.length co37, .int .i64 t132] 26 (0, 0)) (by (with_reducible repeat (first | refine bN_ ?_ _ | refine bW_ ?_ | refine bA_ ?_ _)); exact BK136.out)) : gb148 ≠ gb136)); have n19_ := Az0.mk ((by rw [hg]; exact Nat.ne_of_lt (bL_ (g := gb137) (o := .cells #[.int .i64 t133, .int .i64 t134] 28 (0, 0)) (by (with_reducible repeat (first | refine bN_ ?_ _ | refine bW_ ?_ | refine bA_ ?_ _)); exact BK137.out)) : gb137 ≠ gb148)); have n20_ := Az0.mk ((by rw [hg]; exact Nat.ne_of_gt (bL_ (g := gb137) (o := .cells #[.int .i64 t133, .int .i64 t134] 28 (0, 0)) (by (with_reducible repeat (first | refine bN_ ?_ _ | refine bW_ ?_ | refine bA_ ?_ _)); exact BK137.out)) : gb148 ≠ gb137)); clear HO109; clear HO112; clear HO123; clear HO131; clear HO143; clear BK136; clear BK137; clear HB; have HO109 := n2_; have HO112 := n3_; have HO123 := n6_; have HO131 := n8_; have HO143 := n10_; have BK136 := n11_; have BK137 := n12_; have HB := n13_; have BK148 := n14_; have GW148 := n15_; have GE148 := n16_; have NB136_148 := n17_; have NB148_136 := n18_; have NB137_148 := n19_; have NB148_137 := n20_; clear n2_ n3_ n6_ n8_ n10_ n11_ n12_ n13_ n14_ n15_ n16_ n17_ n18_ n19_ n20_; clear hb hbox hg) | ((with_reducible refine gD_ (N := 11) rfl ?_); (try (refine gate_guard (by rfl) ?_; dsimp only)); refine bE_ ?hg (N := 11) ?hd (cs := #[.int .i64 0, .int .i64 0]) (t := 28) ?hr ?_; (case hd => rfl); (case hg => rfl); (case hr => first | (go_simp; done) | (go_simp; rfl)); intro gb149 hg w46 hbox hb; have n2_ := Az0.mk (Kd.rW_ (by (with_reducible repeat (first | apply Kd.R_alloc | apply Kd.R_drewN | apply Kd.R_drew)); exact HO109.out) hb); have n3_ := Az0.mk (Kd.rW_ (by (with_reducible repeat (first | apply Kd.R_alloc | apply Kd.R_drewN | apply Kd.R_drew)); exact HO112.out) hb); have n6_ := Az0.mk (Kd.rW_ (by (with_reducible repeat (first | apply Kd.R_alloc | apply Kd.R_drewN | apply Kd.R_drew)); exact HO123.out) hb); have n8_ := Az0.mk (Kd.rW_ (by (with_reducible repeat (first | apply Kd.R_alloc | apply Kd.R_drewN | apply Kd.R_drew)); exact HO131.out) hb); have n10_ := Az0.mk (Kd.rW_ (by (with_reducible repeat (first | apply Kd.R_alloc | apply Kd.R_drewN | apply Kd.R_drew)); exact HO143.out) hb); have n11_ := Az0.mk (bB_ (g := gb136) (o := .cells #[.slice Ao37 t129.length co37, .int .i64 t132] 26 (0, 0)) (by (with_reducible repeat (first | refine bN_ ?_ _ | refine bW_ ?_ | refine bA_ ?_ _)); exact BK136.out) hb); have n12_ := Az0.mk (bB_ (g := gb137) (o := .cells #[.int .i64 t133, .int .i64 t134] 28 (0, 0)) (by (with_reducible repeat (first | refine bN_ ?_ _ | refine bW_ ?_ | refine bA_ ?_ _)); exact BK137.out) hb); have n13_ := Az0.mk (bB_ (g := gb148) (o := .cells #[.slice none 0 0, .int .i64 0] 26 (0, 0)) (by (with_reducible repeat (first | refine bN_ ?_ _ | refine bW_ ?_ | refine bA_ ?_ _)); exact BK148.out) hb); have n14_ := Az0.mk (bP_ (by repeat (first | (with_reducible first | exact HB.out | apply baA_ | apply pbN_ | apply bD1_ | refine bS_ ?_ GE136.out | refine bS_ ?_ GE137.out | refine bS_ ?_ GE148.out) | exact HB.out)) hb); have n15_ := Az0.mk (hbox); have n16_ := Az0.mk ((by rw [hg]; exact (bZ_ (by repeat (first | (with_reducible first | exact HB.out | apply baA_ | apply pbN_ | apply bD1_ | refine bS_ ?_ GE136.out | refine bS_ ?_ GE137.out | refine bS_ ?_ GE148.out) | exact HB.out))) : w.heap.size ≤ gb149)); have n17_ := Az0.mk ((by rw [hg]; exact (bZ_ (by repeat (first | (with_reducible first | exact HB.out | apply baA_ | apply pbN_ | apply bD1_ | refine bS_ ?_ GE136.out | refine bS_ ?_ GE137.out | refine bS_ ?_ GE148.out) | exact HB.out))) : w.heap.size ≤ gb149)); have n18_ := Az0.mk ((by rw [hg]; exact Nat.ne_of_lt (bL_ (g := gb136) (o := .cells #[.slice Ao37 t129.length co37, .int .i64 t132] 26 (0, 0)) (by (with_reducible repeat (first | refine bN_ ?_ _ | refine bW_ ?_ | refine bA_ ?_ _)); exact BK136.out)) : gb136 ≠ gb149)); have n19_ := Az0.mk ((by rw [hg]; exact Nat.ne_of_gt (bL_ (g := gb136) (o := .cells #[.slice Ao37 t129.length co37, .int .i64 t132] 26 (0, 0)) (by (with_reducible repeat (first | refine bN_ ?_ _ | refine bW_ ?_ | refine bA_ ?_ _)); exact BK136.out)) : gb149 ≠ gb136)); have n20_ := Az0.mk ((by rw [hg]; exact Nat.ne_of_lt (bL_ (g := gb137) (o := .cells #[.int .i64 t133, .int .i64 t134] 28 (0, 0)) (by (with_reducible repeat (first | refine bN_ ?_ _ | refine bW_ ?_ | refine bA_ ?_ _)); exact BK137.out)) : gb137 ≠ gb149)); have n21_ := Az0.mk ((by rw [hg]; exact Nat.ne_of_gt (bL_ (g := gb137) (o := .cells #[.int .i64 t133, .int .i64 t134] 28 (0, 0)) (by (with_reducible repeat (first | refine bN_ ?_ _ | refine bW_ ?_ | refine bA_ ?_ _)); exact BK137.out)) : gb149 ≠ gb137)); have n22_ := Az0.mk ((by rw [hg]; exact Nat.ne_of_lt (bL_ (g := gb148) (o := .cells #[.slice none 0 0, .int .i64 0] 26 (0, 0)) (by (with_reducible repeat (first | refine bN_ ?_ _ | refine bW_ ?_ | refine bA_ ?_ _)); exact BK148.out)) : gb148 ≠ gb149)); have n23_ := Az0.mk ((by rw [hg]; exact Nat.ne_of_gt (bL_ (g := gb148) (o := .cells #[.slice none 0 0, .int .i64 0] 26 (0, 0)) (by (with_reducible repeat (first | refine bN_ ?_ _ | refine bW_ ?_ | refine bA_ ?_ _)); exact BK148.out)) : gb149 ≠ gb148)); clear HO109; clear HO112; clear HO123; clear HO131; clear HO143; clear BK136; clear BK137; clear BK148; clear HB; have HO109 := n2_; have HO112 := n3_; have HO123 := n6_; have HO131 := n8_; have HO143 := n10_; have BK136 := n11_; have BK137 := n12_; have BK148 := n13_; have HB := n14_; have BK149 := n15_; have GW149 := n16_; have GE149 := n17_; have NB136_149 := n18_; have NB149_136 := n19_; have NB137_149 := n20_; have NB149_137 := n21_; have NB148_149 := n22_; have NB149_148 := n23_; clear n2_ n3_ n6_ n8_ n10_ n11_ n12_ n13_ n14_ n15_ n16_ n17_ n18_ n19_ n20_ n21_ n22_ n23_; clear hb hbox hg; obtain ⟨Ao47, co47, eo47⟩ := Kd.R_slice HO143.out; subst eo47; have hnb48 := NB148_136.out; have hnc48 := NB136_148.out; have hnb49 := NB148_137.out; have hnc49 := NB137_148.out; have hnb50 := NB148_149.out; have hnc50 := NB149_148.out; have hcz51_0 : w46.cell? ⟨gb148, 0, none⟩ = some (.slice none 0 0) := (bkC BK148.out 0).trans rfl; have hcz51_1 : w46.cell? ⟨gb148, 1, none⟩ = some (.int .i64 0) := (bkC BK148.out 1).trans rfl; have hfz51_0 := bF_ BK148.out 0; have hfz51_1 := bF_ BK148.out 1; have hnb52 := NB149_136.out; have hnc52 := NB136_149.out; have hnb53 := NB149_137.out; have hnc53 := NB137_149.out; have hcz54_0 : w46.cell? ⟨gb149, 0, none⟩ = some (.int .i64 0) := (bkC BK149.out 0).trans rfl; have hcz54_1 : w46.cell? ⟨gb149, 1, none⟩ = some (.int .i64 0) := (bkC BK149.out 1).trans rfl; have hfz54_0 := bF_ BK149.out 0; have hfz54_1 := bF_ BK149.out 1) | ((with_reducible refine gD_ (N := 46) rfl ?_); (try (refine gate_guard (by rfl) ?_; dsimp only)); refine Kd.R_lit (Kd.int .i64) _ 3 ?hg (N := 46) ?hd (xs := ([2, 2] : List Int)) (inner := [.int .i64 2, .int .i64 2]) (ok := fun _ => True) (okp := fun _ => True) ?hr ?hp (fun _ hk => hk) trivial (Below.refl _ _) (Nat.le_refl _) (by simp) ?_; (case hd => rfl); (case hg => rfl); (case hr => first | (go_simp; done) | (go_simp; rfl)); (case hp => exact (Reps.one (show Kd.M (Kd.int .i64) _ _ _ 2 [.int .i64 2] from rfl) (Reps.one (show Kd.M (Kd.int .i64) _ _ _ 2 [.int .i64 2] from rfl) (Reps.none _ _)))); intro v151 w55 ho56 hb hg_ hnew_; clear hg_ hnew_; (first | rw [← Ny150.out] at ho56 | (simp only [Int.reduceToNat] at ho56; rw [← Ny150.out] at ho56)); have n2_ := Az0.mk (Kd.R_elder' (by (with_reducible repeat (first | apply Kd.R_alloc | apply Kd.R_drewN | apply Kd.R_drew)); exact (Kd.rM_ (Kd.rM_ (Kd.rF_ (p := ⟨gb149, 1, none⟩) (Kd.rF_ (p := ⟨gb149, 0, none⟩) (Kd.rF_ (p := ⟨gb148, 1, none⟩) (Kd.rF_ (p := ⟨gb148, 0, none⟩) (Kd.rY_ (Kd.rY_ HO109.out BK148.out (by decide)) BK149.out (by decide)) (fun _ hk => hk.1.2) (.slice Ao47 t141.length co47)) (fun _ hk => hk.1.2) (.int .i64 t144)) (fun _ hk => hk.2) (.int .i64 t145)) (fun _ hk => hk.2) (.int .i64 t146)) (fun _ h_ => h_.1)) (fun _ h_ => h_.1))) (Kd.rB_ ho56) hb); have n3_ := Az0.mk (Kd.R_elder' (by (with_reducible repeat (first | apply Kd.R_alloc | apply Kd.R_drewN | apply Kd.R_drew)); exact (Kd.rM_ (Kd.rM_ (Kd.rF_ (p := ⟨gb149, 1, none⟩) (Kd.rF_ (p := ⟨gb149, 0, none⟩) (Kd.rF_ (p := ⟨gb148, 1, none⟩) (Kd.rF_ (p := ⟨gb148, 0, none⟩) (Kd.rY_ (Kd.rY_ HO112.out BK148.out (by decide)) BK149.out (by decide)) (fun _ hk => hk.1.2) (.slice Ao47 t141.length co47)) (fun _ hk => hk.1.2) (.int .i64 t144)) (fun _ hk => hk.2) (.int .i64 t145)) (fun _ hk => hk.2) (.int .i64 t146)) (fun _ h_ => h_.1)) (fun _ h_ => h_.1))) (Kd.rB_ ho56) hb); have n6_ := Az0.mk (Kd.R_elder' (by (with_reducible repeat (first | apply Kd.R_alloc | apply Kd.R_drewN | apply Kd.R_drew)); exact (Kd.rM_ (Kd.rM_ (Kd.rF_ (p := ⟨gb149, 1, none⟩) (Kd.rF_ (p := ⟨gb149, 0, none⟩) (Kd.rF_ (p := ⟨gb148, 1, none⟩) (Kd.rF_ (p := ⟨gb148, 0, none⟩) (Kd.rY_ (Kd.rY_ HO123.out BK148.out (by decide)) BK149.out (by decide)) (fun _ hk => hk.1.2) (.slice Ao47 t141.length co47)) (fun _ hk => hk.1.2) (.int .i64 t144)) (fun _ hk => hk.2) (.int .i64 t145)) (fun _ hk => hk.2) (.int .i64 t146)) (fun _ h_ => h_.1)) (fun _ h_ => h_.1))) (Kd.rB_ ho56) hb); have n8_ := Az0.mk (Kd.R_elder' (by (with_reducible repeat (first | apply Kd.R_alloc | apply Kd.R_drewN | apply Kd.R_drew)); exact (Kd.rM_ (Kd.rM_ (Kd.rF_ (p := ⟨gb149, 1, none⟩) (Kd.rF_ (p := ⟨gb149, 0, none⟩) (Kd.rF_ (p := ⟨gb148, 1, none⟩) (Kd.rF_ (p := ⟨gb148, 0, none⟩) (Kd.rY_ (Kd.rY_ HO131.out BK148.out (by decide)) BK149.out (by decide)) (fun _ hk => hk.1.2) (.slice Ao47 t141.length co47)) (fun _ hk => hk.1.2) (.int .i64 t144)) (fun _ hk => hk.2) (.int .i64 t145)) (fun _ hk => hk.2) (.int .i64 t146)) (fun _ h_ => h_.1)) (fun _ h_ => h_.1))) (Kd.rB_ ho56) hb); have n10_ := Az0.mk (Kd.R_elder' (by (with_reducible repeat (first | apply Kd.R_alloc | apply Kd.R_drewN | apply Kd.R_drew)); exact (Kd.rM_ (Kd.rM_ (Kd.rF_ (p := ⟨gb149, 1, none⟩) (Kd.rF_ (p := ⟨gb149, 0, none⟩) (Kd.rF_ (p := ⟨gb148, 1, none⟩) (Kd.rF_ (p := ⟨gb148, 0, none⟩) (Kd.rY_ (Kd.rY_ HO143.out BK148.out (by decide)) BK149.out (by decide)) (fun _ hk => hk.1.2) (.slice Ao47 t141.length co47)) (fun _ hk => hk.1.2) (.int .i64 t144)) (fun _ hk => hk.2) (.int .i64 t145)) (fun _ hk => hk.2) (.int .i64 t146)) (fun _ h_ => h_.1)) (fun _ h_ => h_.1))) (Kd.rB_ ho56) hb); have n11_ := Az0.mk (Kd.R_lower (Kd.R_new' (Kd.R_new' (Kd.R_new' (Kd.R_new' (Kd.R_new' ho56 (Kd.R_lt (by (with_reducible repeat (first | apply Kd.R_alloc | apply Kd.R_drewN | apply Kd.R_drew)); exact (Kd.rM_ (Kd.rM_ (Kd.rF_ (p := ⟨gb149, 1, none⟩) (Kd.rF_ (p := ⟨gb149, 0, none⟩) (Kd.rF_ (p := ⟨gb148, 1, none⟩) (Kd.rF_ (p := ⟨gb148, 0, none⟩) (Kd.rY_ (Kd.rY_ HO109.out BK148.out (by decide)) BK149.out (by decide)) (fun _ hk => hk.1.2) (.slice Ao47 t141.length co47)) (fun _ hk => hk.1.2) (.int .i64 t144)) (fun _ hk => hk.2) (.int .i64 t145)) (fun _ hk => hk.2) (.int .i64 t146)) (fun _ h_ => h_.1)) (fun _ h_ => h_.1))))) (Kd.R_lt (by (with_reducible repeat (first | apply Kd.R_alloc | apply Kd.R_drewN | apply Kd.R_drew)); exact (Kd.rM_ (Kd.rM_ (Kd.rF_ (p := ⟨gb149, 1, none⟩) (Kd.rF_ (p := ⟨gb149, 0, none⟩) (Kd.rF_ (p := ⟨gb148, 1, none⟩) (Kd.rF_ (p := ⟨gb148, 0, none⟩) (Kd.rY_ (Kd.rY_ HO112.out BK148.out (by decide)) BK149.out (by decide)) (fun _ hk => hk.1.2) (.slice Ao47 t141.length co47)) (fun _ hk => hk.1.2) (.int .i64 t144)) (fun _ hk => hk.2) (.int .i64 t145)) (fun _ hk => hk.2) (.int .i64 t146)) (fun _ h_ => h_.1)) (fun _ h_ => h_.1))))) (Kd.R_lt (by (with_reducible repeat (first | apply Kd.R_alloc | apply Kd.R_drewN | apply Kd.R_drew)); exact (Kd.rM_ (Kd.rM_ (Kd.rF_ (p := ⟨gb149, 1, none⟩) (Kd.rF_ (p := ⟨gb149, 0, none⟩) (Kd.rF_ (p := ⟨gb148, 1, none⟩) (Kd.rF_ (p := ⟨gb148, 0, none⟩) (Kd.rY_ (Kd.rY_ HO123.out BK148.out (by decide)) BK149.out (by decide)) (fun _ hk => hk.1.2) (.slice Ao47 t141.length co47)) (fun _ hk => hk.1.2) (.int .i64 t144)) (fun _ hk => hk.2) (.int .i64 t145)) (fun _ hk => hk.2) (.int .i64 t146)) (fun _ h_ => h_.1)) (fun _ h_ => h_.1))))) (Kd.R_lt (by (with_reducible repeat (first | apply Kd.R_alloc | apply Kd.R_drewN | apply Kd.R_drew)); exact (Kd.rM_ (Kd.rM_ (Kd.rF_ (p := ⟨gb149, 1, none⟩) (Kd.rF_ (p := ⟨gb149, 0, none⟩) (Kd.rF_ (p := ⟨gb148, 1, none⟩) (Kd.rF_ (p := ⟨gb148, 0, none⟩) (Kd.rY_ (Kd.rY_ HO131.out BK148.out (by decide)) BK149.out (by decide)) (fun _ hk => hk.1.2) (.slice Ao47 t141.length co47)) (fun _ hk => hk.1.2) (.int .i64 t144)) (fun _ hk => hk.2) (.int .i64 t145)) (fun _ hk => hk.2) (.int .i64 t146)) (fun _ h_ => h_.1)) (fun _ h_ => h_.1))))) (Kd.R_lt (by (with_reducible repeat (first | apply Kd.R_alloc | apply Kd.R_drewN | apply Kd.R_drew)); exact (Kd.rM_ (Kd.rM_ (Kd.rF_ (p := ⟨gb149, 1, none⟩) (Kd.rF_ (p := ⟨gb149, 0, none⟩) (Kd.rF_ (p := ⟨gb148, 1, none⟩) (Kd.rF_ (p := ⟨gb148, 0, none⟩) (Kd.rY_ (Kd.rY_ HO143.out BK148.out (by decide)) BK149.out (by decide)) (fun _ hk => hk.1.2) (.slice Ao47 t141.length co47)) (fun _ hk => hk.1.2) (.int .i64 t144)) (fun _ hk => hk.2) (.int .i64 t145)) (fun _ hk => hk.2) (.int .i64 t146)) (fun _ h_ => h_.1)) (fun _ h_ => h_.1))))) (bZ_ (by repeat (first | (with_reducible first | exact HB.out | apply baA_ | apply pbN_ | apply bD1_ | refine bS_ ?_ GE136.out | refine bS_ ?_ GE137.out | refine bS_ ?_ GE148.out | refine bS_ ?_ GE149.out) | exact HB.out)))); have n12_ := Az0.mk (bB_ (g := gb136) (o := .cells #[.slice Ao37 t129.length co37, .int .i64 t132] 26 (0, 0)) (by (with_reducible repeat (first | refine bN_ ?_ _ | refine bW_ ?_ | refine bA_ ?_ _)); refine bR_ ?_ NB136_149.out _; (with_reducible repeat (first | refine bN_ ?_ _ | refine bW_ ?_ | refine bA_ ?_ _)); refine bR_ ?_ NB136_149.out _; (with_reducible repeat (first | refine bN_ ?_ _ | refine bW_ ?_ | refine bA_ ?_ _)); refine bR_ ?_ NB136_148.out _; (with_reducible repeat (first | refine bN_ ?_ _ | refine bW_ ?_ | refine bA_ ?_ _)); refine bR_ ?_ NB136_148.out _; (with_reducible repeat (first | refine bN_ ?_ _ | refine bW_ ?_ | refine bA_ ?_ _)); exact BK136.out) hb); have n13_ := Az0.mk (bB_ (g := gb137) (o := .cells #[.int .i64 t133, .int .i64 t134] 28 (0, 0)) (by (with_reducible repeat (first | refine bN_ ?_ _ | refine bW_ ?_ | refine bA_ ?_ _)); refine bR_ ?_ NB137_149.out _; (with_reducible repeat (first | refine bN_ ?_ _ | refine bW_ ?_ | refine bA_ ?_ _)); refine bR_ ?_ NB137_149.out _; (with_reducible repeat (first | refine bN_ ?_ _ | refine bW_ ?_ | refine bA_ ?_ _)); refine bR_ ?_ NB137_148.out _; (with_reducible repeat (first | refine bN_ ?_ _ | refine bW_ ?_ | refine bA_ ?_ _)); refine bR_ ?_ NB137_148.out _; (with_reducible repeat (first | refine bN_ ?_ _ | refine bW_ ?_ | refine bA_ ?_ _)); exact BK137.out) hb); have n15_ := Az0.mk (bB_ (g := gb149) (o := .cells #[.int .i64 t145, .int .i64 t146] 28 (0, 0)) (by (with_reducible repeat (first | refine bN_ ?_ _ | refine bW_ ?_ | refine bA_ ?_ _)); refine blk_put (cs := #[.int .i64 t145, .int .i64 0]) ?_ 1 _ rfl; (with_reducible repeat (first | refine bN_ ?_ _ | refine bW_ ?_ | refine bA_ ?_ _)); refine blk_put (cs := #[.int .i64 0, .int .i64 0]) ?_ 0 _ rfl; (with_reducible repeat (first | refine bN_ ?_ _ | refine bW_ ?_ | refine bA_ ?_ _)); refine bR_ ?_ NB149_148.out _; (with_reducible repeat (first | refine bN_ ?_ _ | refine bW_ ?_ | refine bA_ ?_ _)); refine bR_ ?_ NB149_148.out _; (with_reducible repeat (first | refine bN_ ?_ _ | refine bW_ ?_ | refine bA_ ?_ _)); exact BK149.out) hb); have n16_ := Az0.mk (bP_ (by repeat (first | (with_reducible first | exact HB.out | apply baA_ | apply pbN_ | apply bD1_ | refine bS_ ?_ GE136.out | refine bS_ ?_ GE137.out | refine bS_ ?_ GE148.out | refine bS_ ?_ GE149.out) | exact HB.out)) hb); clear HO109; clear HO112; clear HO123; clear HO131; clear HO143; clear BK136; clear BK137; clear BK149; clear HB; have HO109 := n2_; have HO112 := n3_; have HO123 := n6_; have HO131 := n8_; have HO143 := n10_; have HO152 := n11_; have BK136 := n12_; have BK137 := n13_; have BK149 := n15_; have HB := n16_; clear n2_ n3_ n6_ n8_ n10_ n11_ n12_ n13_ n15_ n16_; clear hb ho56; obtain ⟨Ao57, co57, eo57⟩ := Kd.R_slice HO112.out; subst eo57; obtain ⟨Ao58, co58, eo58⟩ := Kd.R_slice HO152.out; subst eo58) | (go_at_call 31; (with_reducible refine (lSa.calls k _ _ t110 _ _ y150 true _ ?side1 ?side2 ?side3 ?side4 A8.out).mono ?_); (case side1 => repeat (first | exact (Kd.R_reads' HO112.out).2.2 | (with_reducible refine Kd.C_alloc ?_ _) | (with_reducible refine Kd.C_drewN ?_ _) | (with_reducible refine Kd.C_drew ?_))); (case side2 => exact (Kd.R_reads' HO112.out).2.1); (case side3 => repeat (first | exact (Kd.R_reads' HO152.out).2.2 | (with_reducible refine Kd.C_alloc ?_ _) | (with_reducible refine Kd.C_drewN ?_ _) | (with_reducible refine Kd.C_drew ?_))); (case side4 => exact (Kd.R_reads' HO152.out).2.1); rintro e w' ⟨rfl, ⟨nd, rfl⟩⟩) | ((with_reducible refine gD_ (N := 59) rfl ?_); (try (refine gate_guard (by rfl) ?_; dsimp only)); refine Kd.R_lit (Kd.int .i64) _ 3 ?hg (N := 59) ?hd (xs := ([0, 1] : List Int)) (inner := [.int .i64 0, .int .i64 1]) (ok := fun _ => True) (okp := fun _ => True) ?hr ?hp (fun _ hk => hk) trivial (Below.refl _ _) (Nat.le_refl _) (by simp) ?_; (case hd => rfl); (case hg => rfl); (case hr => first | (go_simp; done) | (go_simp; rfl)); (case hp => exact (Reps.one (show Kd.M (Kd.int .i64) _ _ _ 0 [.int .i64 0] from rfl) (Reps.one (show Kd.M (Kd.int .i64) _ _ _ 1 [.int .i64 1] from rfl) (Reps.none _ _)))); intro v155 w59 ho60 hb hg_ hnew_; clear hg_ hnew_; (first | rw [← Ny154.out] at ho60 | (simp only [Int.reduceToNat] at ho60; rw [← Ny154.out] at ho60)); have n2_ := Az0.mk (Kd.R_elder' (by (with_reducible repeat (first | apply Kd.R_alloc | apply Kd.R_drewN | apply Kd.R_drew)); exact HO109.out) (Kd.rB_ ho60) hb); have n3_ := Az0.mk (Kd.R_elder' (by (with_reducible repeat (first | apply Kd.R_alloc | apply Kd.R_drewN | apply Kd.R_drew)); exact HO112.out) (Kd.rB_ ho60) hb); have n6_ := Az0.mk (Kd.R_elder' (by (with_reducible repeat (first | apply Kd.R_alloc | apply Kd.R_drewN | apply Kd.R_drew)); exact HO123.out) (Kd.rB_ ho60) hb); have n8_ := Az0.mk (Kd.R_elder' (by (with_reducible repeat (first | apply Kd.R_alloc | apply Kd.R_drewN | apply Kd.R_drew)); exact HO131.out) (Kd.rB_ ho60) hb); have n10_ := Az0.mk (Kd.R_elder' (by (with_reducible repeat (first | apply Kd.R_alloc | apply Kd.R_drewN | apply Kd.R_drew)); exact HO143.out) (Kd.rB_ ho60) hb); have n11_ := Az0.mk (Kd.R_elder' (by (with_reducible repeat (first | apply Kd.R_alloc | apply Kd.R_drewN | apply Kd.R_drew)); exact HO152.out) (Kd.rB_ ho60) hb); have n12_ := Az0.mk (Kd.R_lower (Kd.R_new' (Kd.R_new' (Kd.R_new' (Kd.R_new' (Kd.R_new' (Kd.R_new' ho60 (Kd.R_lt (by (with_reducible repeat (first | apply Kd.R_alloc | apply Kd.R_drewN | apply Kd.R_drew)); exact HO109.out))) (Kd.R_lt (by (with_reducible repeat (first | apply Kd.R_alloc | apply Kd.R_drewN | apply Kd.R_drew)); exact HO112.out))) (Kd.R_lt (by (with_reducible repeat (first | apply Kd.R_alloc | apply Kd.R_drewN | apply Kd.R_drew)); exact HO123.out))) (Kd.R_lt (by (with_reducible repeat (first | apply Kd.R_alloc | apply Kd.R_drewN | apply Kd.R_drew)); exact HO131.out))) (Kd.R_lt (by (with_reducible repeat (first | apply Kd.R_alloc | apply Kd.R_drewN | apply Kd.R_drew)); exact HO143.out))) (Kd.R_lt (by (with_reducible repeat (first | apply Kd.R_alloc | apply Kd.R_drewN | apply Kd.R_drew)); exact HO152.out))) (bZ_ (by repeat (first | (with_reducible first | exact HB.out | apply baA_ | apply pbN_ | apply bD1_ | refine bS_ ?_ GE136.out | refine bS_ ?_ GE137.out | refine bS_ ?_ GE148.out | refine bS_ ?_ GE149.out) | exact HB.out)))); have n13_ := Az0.mk (bB_ (g := gb136) (o := .cells #[.slice Ao37 t129.length co37, .int .i64 t132] 26 (0, 0)) (by (with_reducible repeat (first | refine bN_ ?_ _ | refine bW_ ?_ | refine bA_ ?_ _)); exact BK136.out) hb); have n14_ := Az0.mk (bB_ (g := gb137) (o := .cells #[.int .i64 t133, .int .i64 t134] 28 (0, 0)) (by (with_reducible repeat (first | refine bN_ ?_ _ | refine bW_ ?_ | refine bA_ ?_ _)); exact BK137.out) hb); have n16_ := Az0.mk (bB_ (g := gb149) (o := .cells #[.int .i64 t145, .int .i64 t146] 28 (0, 0)) (by (with_reducible repeat (first | refine bN_ ?_ _ | refine bW_ ?_ | refine bA_ ?_ _)); exact BK149.out) hb); have n17_ := Az0.mk (bP_ (by repeat (first | (with_reducible first | exact HB.out | apply baA_ | apply pbN_ | apply bD1_ | refine bS_ ?_ GE136.out | refine bS_ ?_ GE137.out | refine bS_ ?_ GE148.out | refine bS_ ?_ GE149.out) | exact HB.out)) hb); clear HO109; clear HO112; clear HO123; clear HO131; clear HO143; clear HO152; clear BK136; clear BK137; clear BK149; clear HB; have HO109 := n2_; have HO112 := n3_; have HO123 := n6_; have HO131 := n8_; have HO143 := n10_; have HO152 := n11_; have HO156 := n12_; have BK136 := n13_; have BK137 := n14_; have BK149 := n16_; have HB := n17_; clear n2_ n3_ n6_ n8_ n10_ n11_ n12_ n13_ n14_ n16_ n17_; clear hb ho60; obtain ⟨Ao61, co61, eo61⟩ := Kd.R_slice HO123.out; subst eo61; obtain ⟨Ao62, co62, eo62⟩ := Kd.R_slice HO156.out; subst eo62) | (go_at_call 31; (with_reducible refine (lSa.calls k _ _ t121 _ _ y154 true _ ?side1 ?side2 ?side3 ?side4 A12.out).mono ?_); (case side1 => repeat (first | exact (Kd.R_reads' HO123.out).2.2 | (with_reducible refine Kd.C_alloc ?_ _) | (with_reducible refine Kd.C_drewN ?_ _) | (with_reducible refine Kd.C_drew ?_))); (case side2 => exact (Kd.R_reads' HO123.out).2.1); (case side3 => repeat (first | exact (Kd.R_reads' HO156.out).2.2 | (with_reducible refine Kd.C_alloc ?_ _) | (with_reducible refine Kd.C_drewN ?_ _) | (with_reducible refine Kd.C_drew ?_))); (case side4 => exact (Kd.R_reads' HO156.out).2.1); rintro e w' ⟨rfl, ⟨nd, rfl⟩⟩; have hcz63_0 : w59.cell? ⟨gb136, 0, none⟩ = some (.slice Ao37 t129.length co37) := (bkC BK136.out 0).trans rfl; have hcz63_1 : w59.cell? ⟨gb136, 1, none⟩ = some (.int .i64 t132) := (bkC BK136.out 1).trans rfl; have hfz63_0 := bF_ BK136.out 0; have hfz63_1 := bF_ BK136.out 1) | ((with_reducible refine gD_ (N := 72) rfl ?_); (try (refine gate_guard (by rfl) ?_; dsimp only)); refine Kd.R_lit (Kd.int .i64) _ 3 ?hg (N := 72) ?hd (xs := ([2, 1] : List Int)) (inner := [.int .i64 2, .int .i64 1]) (ok := fun _ => True) (okp := fun _ => True) ?hr ?hp (fun _ hk => hk) trivial (Below.refl _ _) (Nat.le_refl _) (by simp) ?_; (case hd => rfl); (case hg => rfl); (case hr => first | (go_simp; done) | (go_simp; rfl)); (case hp => exact (Reps.one (show Kd.M (Kd.int .i64) _ _ _ 2 [.int .i64 2] from rfl) (Reps.one (show Kd.M (Kd.int .i64) _ _ _ 1 [.int .i64 1] from rfl) (Reps.none _ _)))); intro v159 w64 ho65 hb hg_ hnew_; clear hg_ hnew_; (first | rw [← Ny158.out] at ho65 | (simp only [Int.reduceToNat] at ho65; rw [← Ny158.out] at ho65)); have n2_ := Az0.mk (Kd.R_elder' (by (with_reducible repeat (first | apply Kd.R_alloc | apply Kd.R_drewN | apply Kd.R_drew)); exact HO109.out) (Kd.rB_ ho65) hb); have n3_ := Az0.mk (Kd.R_elder' (by (with_reducible repeat (first | apply Kd.R_alloc | apply Kd.R_drewN | apply Kd.R_drew)); exact HO112.out) (Kd.rB_ ho65) hb); have n6_ := Az0.mk (Kd.R_elder' (by (with_reducible repeat (first | apply Kd.R_alloc | apply Kd.R_drewN | apply Kd.R_drew)); exact HO123.out) (Kd.rB_ ho65) hb); have n8_ := Az0.mk (Kd.R_elder' (by (with_reducible repeat (first | apply Kd.R_alloc | apply Kd.R_drewN | apply Kd.R_drew)); exact HO131.out) (Kd.rB_ ho65) hb); have n10_ := Az0.mk (Kd.R_elder' (by (with_reducible repeat (first | apply Kd.R_alloc | apply Kd.R_drewN | apply Kd.R_drew)); exact HO143.out) (Kd.rB_ ho65) hb); have n11_ := Az0.mk (Kd.R_elder' (by (with_reducible repeat (first | apply Kd.R_alloc | apply Kd.R_drewN | apply Kd.R_drew)); exact HO152.out) (Kd.rB_ ho65) hb); have n12_ := Az0.mk (Kd.R_elder' (by (with_reducible repeat (first | apply Kd.R_alloc | apply Kd.R_drewN | apply Kd.R_drew)); exact HO156.out) (Kd.rB_ ho65) hb); have n13_ := Az0.mk (Kd.R_lower (Kd.R_new' (Kd.R_new' (Kd.R_new' (Kd.R_new' (Kd.R_new' (Kd.R_new' (Kd.R_new' ho65 (Kd.R_lt (by (with_reducible repeat (first | apply Kd.R_alloc | apply Kd.R_drewN | apply Kd.R_drew)); exact HO109.out))) (Kd.R_lt (by (with_reducible repeat (first | apply Kd.R_alloc | apply Kd.R_drewN | apply Kd.R_drew)); exact HO112.out))) (Kd.R_lt (by (with_reducible repeat (first | apply Kd.R_alloc | apply Kd.R_drewN | apply Kd.R_drew)); exact HO123.out))) (Kd.R_lt (by (with_reducible repeat (first | apply Kd.R_alloc | apply Kd.R_drewN | apply Kd.R_drew)); exact HO131.out))) (Kd.R_lt (by (with_reducible repeat (first | apply Kd.R_alloc | apply Kd.R_drewN | apply Kd.R_drew)); exact HO143.out))) (Kd.R_lt (by (with_reducible repeat (first | apply Kd.R_alloc | apply Kd.R_drewN | apply Kd.R_drew)); exact HO152.out))) (Kd.R_lt (by (with_reducible repeat (first | apply Kd.R_alloc | apply Kd.R_drewN | apply Kd.R_drew)); exact HO156.out))) (bZ_ (by repeat (first | (with_reducible first | exact HB.out | apply baA_ | apply pbN_ | apply bD1_ | refine bS_ ?_ GE136.out | refine bS_ ?_ GE137.out | refine bS_ ?_ GE148.out | refine bS_ ?_ GE149.out) | exact HB.out)))); have n15_ := Az0.mk (bB_ (g := gb137) (o := .cells #[.int .i64 t133, .int .i64 t134] 28 (0, 0)) (by (with_reducible repeat (first | refine bN_ ?_ _ | refine bW_ ?_ | refine bA_ ?_ _)); exact BK137.out) hb); have n17_ := Az0.mk (bB_ (g := gb149) (o := .cells #[.int .i64 t145, .int .i64 t146] 28 (0, 0)) (by (with_reducible repeat (first | refine bN_ ?_ _ | refine bW_ ?_ | refine bA_ ?_ _)); exact BK149.out) hb); have n18_ := Az0.mk (bP_ (by repeat (first | (with_reducible first | exact HB.out | apply baA_ | apply pbN_ | apply bD1_ | refine bS_ ?_ GE136.out | refine bS_ ?_ GE137.out | refine bS_ ?_ GE148.out | refine bS_ ?_ GE149.out) | exact HB.out)) hb); clear HO109; clear HO112; clear HO123; clear HO131; clear HO143; clear HO152; clear HO156; clear BK137; clear BK149; clear HB; have HO109 := n2_; have HO112 := n3_; have HO123 := n6_; have HO131 := n8_; have HO143 := n10_; have HO152 := n11_; have HO156 := n12_; have HO160 := n13_; have BK137 := n15_; have BK149 := n17_; have HB := n18_; clear n2_ n3_ n6_ n8_ n10_ n11_ n12_ n13_ n15_ n17_ n18_; clear hb ho65; obtain ⟨Ao66, co66, eo66⟩ := Kd.R_slice HO160.out; subst eo66) | (go_at_call 19; (with_reducible refine (trishawlaw02_parts.calls k _ _ t129 t132 _ _ y158 3 true _ ?side1 ?side2 ?side3 ?side4 A16.out).mono ?_); (case side1 => repeat (first | exact (Kd.R_reads' HO131.out).2.2 | (with_reducible refine Kd.C_alloc ?_ _) | (with_reducible refine Kd.C_drewN ?_ _) | (with_reducible refine Kd.C_drew ?_))); (case side2 => exact (Kd.R_reads' HO131.out).2.1); (case side3 => repeat (first | exact (Kd.R_reads' HO160.out).2.2 | (with_reducible refine Kd.C_alloc ?_ _) | (with_reducible refine Kd.C_drewN ?_ _) | (with_reducible refine Kd.C_drew ?_))); (case side4 => exact (Kd.R_reads' HO160.out).2.1); rintro e w67 ⟨rfl, hb⟩; have n15_ := Az0.mk (bB_ (g := gb137) (o := .cells #[.int .i64 t133, .int .i64 t134] 28 (0, 0)) (by (with_reducible repeat (first | refine bN_ ?_ _ | refine bW_ ?_ | refine bA_ ?_ _)); exact BK137.out) hb); have n17_ := Az0.mk (bB_ (g := gb149) (o := .cells #[.int .i64 t145, .int .i64 t146] 28 (0, 0)) (by (with_reducible repeat (first | refine bN_ ?_ _ | refine bW_ ?_ | refine bA_ ?_ _)); exact BK149.out) hb); have n18_ := Az0.mk (bP_ (by repeat (first | (with_reducible first | exact HB.out | apply baA_ | apply pbN_ | apply bD1_ | refine bS_ ?_ GE136.out | refine bS_ ?_ GE137.out | refine bS_ ?_ GE148.out | refine bS_ ?_ GE149.out) | exact HB.out)) hb); clear BK137; clear BK149; clear HB; have BK137 := n15_; have BK149 := n17_; have HB := n18_; clear n15_ n17_ n18_; (try clear hb); (try clear hb2); (try clear hk); (try clear hi); have hcz68_0 : w67.cell? ⟨gb137, 0, none⟩ = some (.int .i64 t133) := (bkC BK137.out 0).trans rfl; have hcz68_1 : w67.cell? ⟨gb137, 1, none⟩ = some (.int .i64 t134) := (bkC BK137.out 1).trans rfl; have hfz68_0 := bF_ BK137.out 0; have hfz68_1 := bF_ BK137.out 1; have hcz69_0 : w67.cell? ⟨gb149, 0, none⟩ = some (.int .i64 t145) := (bkC BK149.out 0).trans rfl; have hcz69_1 : w67.cell? ⟨gb149, 1, none⟩ = some (.int .i64 t146) := (bkC BK149.out 1).trans rfl; have hfz69_0 := bF_ BK149.out 0; have hfz69_1 := bF_ BK149.out 1))
           go_ret
           exact ⟨by first | rfl | (simp [errW_none, errW_some] <;> rfl) | (simp [*, errW_none, errW_some] <;> rfl), by repeat (first | (with_reducible first | exact HB.out | apply baA_ | apply pbN_ | apply bD1_ | refine bS_ ?_ GE136.out | refine bS_ ?_ GE137.out | refine bS_ ?_ GE148.out | refine bS_ ?_ GE149.out) | exact HB.out)⟩
          ·rw [if_neg c19] at H
           exact absurd ((Option.some.inj H).trans HRT.out) (by decide)
         ·rw [if_neg c18] at H
          exact absurd ((Option.some.inj H).trans HRT.out) (by decide)
        ·replace c17 := Bool.eq_false_iff.mpr c17
         subst c17
         have H1 : (some false) = some r := by rw [if_neg (show ¬ (false = true) by decide)] at H; exact H
         exact absurd ((Option.some.inj H1).trans HRT.out) (by decide)
       ·rw [if_neg c15] at H
        exact absurd ((Option.some.inj H).trans HRT.out) (by decide)
      ·rw [if_neg c14] at H
       exact absurd ((Option.some.inj H).trans HRT.out) (by decide)
     ·replace c13 := Bool.eq_false_iff.mpr c13
      subst c13
      have H1 : (some false) = some r := by rw [if_neg (show ¬ (false = true) by decide)] at H; exact H
      exact absurd ((Option.some.inj H1).trans HRT.out) (by decide)
    ·rw [if_neg c11] at H
     exact absurd ((Option.some.inj H).trans HRT.out) (by decide)
   ·rw [if_neg c10] at H
    exact absurd ((Option.some.inj H).trans HRT.out) (by decide)
  ·replace c9 := Bool.eq_false_iff.mpr c9
   subst c9
   have H1 : (some false) = some r := by rw [if_neg (show ¬ (false = true) by decide)] at H; exact H
   exact absurd ((Option.some.inj H1).trans HRT.out) (by decide)
 ·rw [if_neg c7] at H
  exact absurd ((Option.some.inj H).trans HRT.out) (by decide)
end Go.Proofs.Ytjgbdicbdlollaa.B
